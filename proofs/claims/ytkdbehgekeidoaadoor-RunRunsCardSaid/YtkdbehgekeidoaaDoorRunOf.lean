/- The walk over the reference's RunOf. Conditions: what it reads lies in memory that was there. -/
import Derived.Test.YtkdbehgekeidoaaDoorRunRun
set_option linter.unusedSimpArgs false
set_option linter.unusedVariables false
namespace Go.Proofs.YtkdbehgekeidoaaDoor
open Go.RowKit

set_option maxRecDepth 100000 in
set_option maxHeartbeats 4000000 in
theorem rRunOf_any (p : Pg) (is : Nat → Ins) (ins : Sl) (xs : Nat → Int) (fuel n : Nat) (w : World) (hn : p.n ≤ 9223372036854775807) (hc : CodeAt w p is) (hP : checkProg p is = 0) (hin : InputsAt w ins xs) (hpn : p.vars = n) (hn8 : n ≤ 8) (hfu : fuel ≤ 5000) :
    Calls Tryd.prog 15 #[p.v, ins.v, .int .i64 fuel] w fun e w' => ∃ r' ts Rv Rt Rl Rf, e = .returned (.tuple #[Rn.v r', .int .i64 (runN p is ins xs fuel (beginS n) 0).2]) ∧ RowsR r' (outS (runN p is ins xs fuel (beginS n) 0).1) ts Rv Rt Rl Rf ∧ Own w.heap.size w' (Rv ++ (Rt ++ (Rl ++ Rf))) ∧ Below w.heap.size w w' := by
  have HB := Lib.hid (fun w' => rBegin_any p n w' hpn hn8)
  have HGo := Lib.hid (fun (s : Rs) (j : Nat) (h : Gone p s j) (hj : j ≤ 5000) => h.next (is := is) (ins := ins) (xs := xs) hP hj)
  have HG0 := Lib.hid (Gone.begin hpn (Int.natCast_nonneg p.n))
  have hst := fun (r0 : Rn) (s : Rs) (j : Nat) (w' : World) (hb : Below w.heap.size w w') (hr : RunIs w' r0 s) (hG : Gone p s j) (hj : j ≤ 5000) => rstep_all p is ins xs r0 s w' hr hG.r hP (hc.grow hb) ⟨hin.1.grow hb, hin.2⟩ (by have := hG.l; omega)
  have HST := Lib.hid hst
  have HFU := Lib.hid hfu
  clear hst hc hP hin hpn hn8 hfu hn
  have hL := Loc.start w
  go_enter Tryd.func15, Tryd.ntmps15
  go_step
  go_step
  go_step
  ((with_reducible refine lbx hL ?_); clear hL; intro b3 w1 hL)
  go_wp2_with (first | (with_reducible refine lld hL ?_) | ((with_reducible first | refine lbx hL ?_ | refine lal hL ?_ | refine lbs hL ?_); clear hL; intro bl w1 hL) | ((with_reducible refine lst' hL ?_); clear hL; intro w1 hL) | (go_at_call 9; refine (HB.out _).mono ?_; rintro e w3 ⟨⟨ra3, rv3, rt3, rk3, rl3, re3⟩, ts3, Rv3, Rt3, Rl3, Rf3, rfl, hR3, ho3, hb3⟩; replace hL := hL.gainTail hb3 ho3; simp only [List.cons_append, List.nil_append] at hL; clear ho3 hb3; dsimp only))
  rename_i b6 wA wB K hK
  go_loopw [9] (fun c wr => ∃ (j : Nat) (s : Rs) (r : Rn) (ts : List Th) (Rv Rt Rl Rf : List LBlk), j ≤ fuel ∧ c = .int .i64 j ∧ Gone p s j ∧ runN p is ins xs (fuel - j) s j = runN p is ins xs fuel (beginS n) 0 ∧ RowsR r s ts Rv Rt Rl Rf ∧ Loc w wr ((bl, 29, [.int .i64 r.at', .slice r.vars.p r.vars.n r.vars.cap, .slice r.things.p r.things.n r.things.cap, .int .i64 r.taken, .slice r.lines.p r.lines.n r.lines.cap, .int .i64 r.ending]) :: (b6, 29, [.int .i64 0, .slice none 0 0, .slice none 0 0, .int .i64 0, .slice none 0 0, .int .i64 0]) :: (b3, 24, [.int .i64 p.vars, .int .i64 p.fields, .slice p.pc p.n p.cap]) :: (Rv ++ (Rt ++ (Rl ++ Rf)))) []) (fun c _ => fuel - (intOf c).toNat)
  case atStart => exact ⟨0, _, _, _, _, _, _, _, Nat.zero_le _, rfl, HG0.out, by rw [Nat.sub_zero], hR3, hL⟩
  case round =>
    clear hR3 hL
    obtain ⟨j, s, ⟨ra, rv, rt, rk, rl, re⟩, ts, Rv, Rt, Rl, Rf, hj, rfl, hG, hN, hR, hL⟩ := hrel
    have HG := Lib.hid hG
    have HN := Lib.hid hN
    clear hG hN
    have hre : re = s.ending := hR.e
    have HR := Lib.hid (hR.is (hL.ownOf (by repeat (first | exact List.Sublist.refl _ | apply List.Sublist.cons))))
    have HRR := Lib.hid hR
    clear hR
    dsimp only at hL
    by_cases hlt : j < fuel
    · by_cases he : s.ending = 0
      · have HE := Lib.hid he
        have he3 := hre.trans he
        clear hre he
        subst he3
        have hlt' : (j : Int) < fuel := by omega
        clear hlt
        have HL0 := Lib.hid (show Loc w _ [_, _, _] [] from hL.drop (D' := []) (by repeat (first | exact List.nil_sublist _ | apply List.Sublist.cons_cons)) (fun _ h => h))
        go_wp2_with (first | (with_reducible refine lld hL ?_) | ((with_reducible first | refine lbx hL ?_ | refine lal hL ?_ | refine lbs hL ?_); clear hL; intro bl w1 hL) | ((with_reducible refine lst' hL ?_); clear hL; intro w1 hL) | (go_at_call 10; refine (HST.out ⟨ra, rv, rt, rk, rl, 0⟩ s j _ hL.below HR.out HG.out (by have := HFU.out; omega)).mono ?_; rintro e w3 ⟨⟨ra3, rv3, rt3, rk3, rl3, re3⟩, ts3, Rv3, Rt3, Rl3, Rf3, rfl, hR3, ho3, hb3⟩; replace hL := HL0.out.gainTail hb3 ho3; simp only [List.cons_append, List.nil_append] at hL; clear ho3 hb3; dsimp only))
        have hw : wrap64 ((j : Int) + 1) = j + 1 := by have := HFU.out; unfold wrap64; omega
        rw [show stepS p is ins xs s = stepM p is ins xs s by rw [stepS, if_pos HE.out]] at hR3
        go_roundw
        case rel => exact ⟨j + 1, _, _, _, _, _, _, _, by omega, by rw [hw, Int.natCast_succ], HGo.out s j HG.out (by have := HFU.out; omega), by rw [← HN.out]; exact (runN_next j (by omega) HE.out).symm, hR3, hL⟩
        case measure =>
          rw [hw]
          have e1 : (intOf (Value.int .i64 ((j : Int) + 1))).toNat = j + 1 := by simp only [intOf]; omega
          have e2 : (intOf (Value.int .i64 (j : Int))).toNat = j := by simp only [intOf]; omega
          generalize (intOf (Value.int .i64 ((j : Int) + 1))).toNat = x at e1 ⊢
          generalize (intOf (Value.int .i64 (j : Int))).toNat = y at e2 ⊢
          clear hw
          omega
      · have HE := Lib.hid he
        have hN2 : runN p is ins xs fuel (beginS n) 0 = (s, j) := by rw [← HN.out]; exact runN_over _ _ he
        have HN2 := Lib.hid hN2
        have hre2 : (re == 0) = false := beq_eq_false_iff_ne.2 (by rw [hre]; exact he)
        have hlt' : (j : Int) < fuel := by omega
        clear hre he hN2 hlt
        go_wp2_with (first | (with_reducible refine lld hL ?_) | ((with_reducible first | refine lbx hL ?_ | refine lal hL ?_ | refine lbs hL ?_); clear hL; intro bl w1 hL) | ((with_reducible refine lst' hL ?_); clear hL; intro w1 hL))
        (try simp only [Exit.inBlock, Exit.then]); refine' ret2 rfl ?_ ?_ rfl ?_; (case refine'_3 => exact cRes); (case refine'_4 => exact cRes)
        rw [HN2.out, show outS s = s from if_neg HE.out]
        exact ⟨⟨ra, rv, rt, rk, rl, re⟩, _, _, _, _, _, rfl, HRR.out, hL.ownOf (by repeat (first | exact List.Sublist.refl _ | apply List.Sublist.cons)), hL.below⟩
    · obtain rfl : j = fuel := by omega
      have hN2 : runN p is ins xs j (beginS n) 0 = (s, j) := by rw [← HN.out, Nat.sub_self, runN]
      have HN2 := Lib.hid hN2
      clear hN2 hlt
      by_cases he : s.ending = 0
      · have HE := Lib.hid he
        have he3 := hre.trans he
        clear hre he
        subst he3
        go_wp2_with (first | (with_reducible refine lld hL ?_) | ((with_reducible first | refine lbx hL ?_ | refine lal hL ?_ | refine lbs hL ?_); clear hL; intro bl w1 hL) | ((with_reducible refine lst' hL ?_); clear hL; intro w1 hL))
        (try simp only [Exit.inBlock, Exit.then]); refine' ret2 rfl ?_ ?_ rfl ?_; (case refine'_3 => exact cRes); (case refine'_4 => exact cRes)
        rw [HN2.out, show outS s = { s with ending := 4 } from if_pos HE.out]
        have hR := HRR.out
        exact ⟨⟨ra, rv, rt, rk, rl, 4⟩, _, _, _, _, _, rfl, ⟨hR.vars, hR.things, hR.lines, hR.fields, hR.a, hR.t, rfl⟩, hL.ownOf (by repeat (first | exact List.Sublist.refl _ | apply List.Sublist.cons)), hL.below⟩
      · have HE := Lib.hid he
        have hre2 : (re == 0) = false := beq_eq_false_iff_ne.2 (by rw [hre]; exact he)
        clear hre he
        go_wp2_with (first | (with_reducible refine lld hL ?_) | ((with_reducible first | refine lbx hL ?_ | refine lal hL ?_ | refine lbs hL ?_); clear hL; intro bl w1 hL) | ((with_reducible refine lst' hL ?_); clear hL; intro w1 hL))
        (try simp only [Exit.inBlock, Exit.then]); refine' ret2 rfl ?_ ?_ rfl ?_; (case refine'_3 => exact cRes); (case refine'_4 => exact cRes)
        rw [HN2.out, show outS s = s from if_neg HE.out]
        exact ⟨⟨ra, rv, rt, rk, rl, re⟩, _, _, _, _, _, rfl, HRR.out, hL.ownOf (by repeat (first | exact List.Sublist.refl _ | apply List.Sublist.cons)), hL.below⟩
end Go.Proofs.YtkdbehgekeidoaaDoor
