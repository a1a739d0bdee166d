/- The walks over slices.ContainsFunc at ints and over the functions handed to it; Held, HeldOf, Inside, GuessIn. Conditions: what they read lies in memory that was there. -/
import Derived.Test.YteimpfplgdhclaaGreatGuessC
import Derived.Test.YteimpfplgdhclaaGreatVal
import Derived.Test.YteimpfplgdhclaaGreatRefSpanC
set_option linter.unusedSimpArgs false
set_option linter.unusedVariables false
namespace Go.Proofs.YteimpfplgdhclaaGreat
open Go.RowKit

set_option maxRecDepth 100000 in
set_option maxHeartbeats 1600000 in
theorem indexInts (s : Sl) (l : List Int) (q : Nat → Bool) (K : FuncId) (c : Value) (w : World) (hl : IntsAt w s l) (hf : FnAt Tryz.prog K c w l.length (fun k => .int .i64 (l.getD k 0)) q) :
    Calls Tryz.prog 85 #[s.v, .func (.func K) #[] #[c]] w fun e w' => ∃ r : Int, e = .returned (.int .i64 r) ∧ decide (0 ≤ r) = anyN q l.length ∧ Below w.heap.size w w' := by
  obtain ⟨b, o, hp, hc⟩ := hl.reads tInt
  have hn := hl.n
  have hm := hl.m
  obtain ⟨p, n, cap⟩ := s
  dsimp only at hp hc hn hm
  subst hn
  dsimp only [Sl.v]
  have HP := Lib.hid hp
  have HC := Lib.hid hc
  have HF := Lib.hid hf.run
  have he := hf.enter
  clear hp hc hl hf
  have hL := Loc.start w
  go_enter Tryz.func85, Tryz.ntmps85
  go_wp2
  go_loopw [8] (fun x wr => ∃ k : Nat, k ≤ l.length ∧ x = .int .i64 k ∧ (∀ j, j < k → q j = false) ∧ Loc w wr [] []) (fun x _ => l.length - (intOf x).toNat)
  case atStart => exact ⟨0, Nat.zero_le _, rfl, fun j hj => absurd hj (by omega), hL⟩
  case round =>
    clear hL
    obtain ⟨k, hk, rfl, hq, hL⟩ := hrel
    have HQ := Lib.hid hq
    clear hq
    by_cases hlt : k < l.length
    · have HPC := Lib.hid (HP.out (by omega))
      have hr := HC.out k hlt
      have hk1 := HF.out k hlt
      generalize l.getD k 0 = x at hr hk1
      have HR := Lib.hid hr
      cases hqk : q k with
      | true =>
        rw [hqk] at hk1
        have HK2 := Lib.hid hk1
        have HA := Lib.hid (anyN_yes hlt hqk)
        clear hk1 hqk hr
        go_upto_region 4 with (fail)
        refine seq_begin [11, 12, 13, 14, 15, 16] ?_
        apply draw_val
        · intro g w hb hdep; replace hL := hL.grow hb; clear hdep; simp only [fillD, fLa, fLb, sTa, sTb]
          go_wp2
          exact cY
        simp only [apN, apC]
        apply draw_val
        · intro g w hb hdep; replace hL := hL.grow hb; clear hdep; simp only [fillD, fLa, fLb, sTa, sTb]
          go_wp2
          exact cY
        simp only [apN, apC]
        apply draw_val
        · intro g w hb hdep; replace hL := hL.grow hb; clear hdep; simp only [fillD, fLa, fLb, sTa, sTb]
          go_wp2
          exact cY
        simp only [apN, apC]
        apply draw_val
        · intro g w hb hdep; replace hL := hL.grow hb; have d1 := yv hdep 1; have d2 := yv hdep 2; clear hdep; simp only [fillD, fLa, fLb, sTa, sTb]; simp only [d1, d2]
          (simp only [HPC.out]; go_wp2)
          exact cY
        simp only [apN, apC]
        apply draw_val
        · intro g w hb hdep; replace hL := hL.grow hb; have d3 := yv hdep 3; clear hdep; simp only [fillD, fLa, fLb, sTa, sTb]; simp only [d3]
          refine loc_loadB HR.out hL rfl rfl ?_
          exact cY
        simp only [apN, apC]
        apply draw_val
        · intro g w hb hdep; replace hL := hL.grow hb; have d0 := yv hdep 0; have d4 := yv hdep 4; clear hdep; simp only [fillD, fLa, fLb, sTa, sTb]; simp only [d0, d4]
          go_wp2_with ((with_reducible refine (HK2.out _ hL.below).mono ?_); rintro e w3 ⟨rfl, hb3⟩; dsimp only)
          exact ⟨rfl, _, rfl, hb3, rfl⟩
        simp only [apN, apC]
        refine seq_end hL (by kernel_rfl) ?_
        intro g w2 hb hR; simp only [List.length_cons, List.length_nil, Nat.reduceAdd] at hR
        have e0 := yv hR 0
        have e1 := yv hR 1
        have e2 := yv hR 2
        have e3 := yv hR 3
        have e4 := yv hR 4
        have e5 := yv hR 5
        clear hR; simp only [fillD, fLa, fLb, sTa, sTb]
        simp only [e0, e1, e2, e3, e4, e5]
        clear e0 e1 e2 e3 e4 e5
        replace hL := hL.grow hb
        clear hb
        go_wp2
        go_ret
        exact ⟨_, rfl, by rw [HA.out]; simp, hL.below⟩
      | false =>
        rw [hqk] at hk1
        have HK2 := Lib.hid hk1
        have HA := Lib.hid hqk
        clear hk1 hqk hr
        go_upto_region 4 with (fail)
        refine seq_begin [11, 12, 13, 14, 15, 16] ?_
        apply draw_val
        · intro g w hb hdep; replace hL := hL.grow hb; clear hdep; simp only [fillD, fLa, fLb, sTa, sTb]
          go_wp2
          exact cY
        simp only [apN, apC]
        apply draw_val
        · intro g w hb hdep; replace hL := hL.grow hb; clear hdep; simp only [fillD, fLa, fLb, sTa, sTb]
          go_wp2
          exact cY
        simp only [apN, apC]
        apply draw_val
        · intro g w hb hdep; replace hL := hL.grow hb; clear hdep; simp only [fillD, fLa, fLb, sTa, sTb]
          go_wp2
          exact cY
        simp only [apN, apC]
        apply draw_val
        · intro g w hb hdep; replace hL := hL.grow hb; have d1 := yv hdep 1; have d2 := yv hdep 2; clear hdep; simp only [fillD, fLa, fLb, sTa, sTb]; simp only [d1, d2]
          (simp only [HPC.out]; go_wp2)
          exact cY
        simp only [apN, apC]
        apply draw_val
        · intro g w hb hdep; replace hL := hL.grow hb; have d3 := yv hdep 3; clear hdep; simp only [fillD, fLa, fLb, sTa, sTb]; simp only [d3]
          refine loc_loadB HR.out hL rfl rfl ?_
          exact cY
        simp only [apN, apC]
        apply draw_val
        · intro g w hb hdep; replace hL := hL.grow hb; have d0 := yv hdep 0; have d4 := yv hdep 4; clear hdep; simp only [fillD, fLa, fLb, sTa, sTb]; simp only [d0, d4]
          go_wp2_with ((with_reducible refine (HK2.out _ hL.below).mono ?_); rintro e w3 ⟨rfl, hb3⟩; dsimp only)
          exact ⟨rfl, _, rfl, hb3, rfl⟩
        simp only [apN, apC]
        refine seq_end hL (by kernel_rfl) ?_
        intro g w2 hb hR; simp only [List.length_cons, List.length_nil, Nat.reduceAdd] at hR
        have e0 := yv hR 0
        have e1 := yv hR 1
        have e2 := yv hR 2
        have e3 := yv hR 3
        have e4 := yv hR 4
        have e5 := yv hR 5
        clear hR; simp only [fillD, fLa, fLb, sTa, sTb]
        simp only [e0, e1, e2, e3, e4, e5]
        clear e0 e1 e2 e3 e4 e5
        replace hL := hL.grow hb
        clear hb
        go_wp2
        go_roundw
        case rel =>
          refine ⟨k + 1, by omega, by go_num, fun j hj => ?_, hL⟩
          rcases Nat.lt_or_ge j k with h | h
          · exact HQ.out j h
          · obtain rfl : j = k := by omega
            exact HA.out
        case measure => simp [intOf]; omega
    · obtain rfl : k = l.length := by omega
      go_wp2
      go_ret
      exact ⟨_, rfl, by rw [anyN_no HQ.out]; rfl, hL.below⟩

set_option maxRecDepth 100000 in
set_option maxHeartbeats 1600000 in
theorem containsInts (s : Sl) (l : List Int) (q : Nat → Bool) (K : FuncId) (c : Value) (w : World) (hl : IntsAt w s l) (hf : FnAt Tryz.prog K c w l.length (fun k => .int .i64 (l.getD k 0)) q) :
    Calls Tryz.prog 60 #[s.v, .func (.func K) #[] #[c]] w fun e w' => e = .returned (.bool (anyN q l.length)) ∧ Below w.heap.size w w' := by
  have HI := Lib.hid (indexInts s l q K c w hl hf)
  clear hl hf
  go_enter Tryz.func60, Tryz.ntmps60
  go_wp2_with (go_at_call 85; refine HI.out.mono ?_; rintro e w1 ⟨r, rfl, hr, hb⟩; dsimp only)
  go_ret
  exact ⟨by rw [← hr]; rfl, hb⟩

theorem Loc.readsG {P : Program} {w0 w : World} {L : List LBlk} {D : List Datum} {b : Nat} {T Tv : TypeId} {cs : List Value} {f : List Value → List LBlk} {off : Nat} {v : Value} (hL : Loc w0 w L D) (hm : InL b T cs L f) (hv : Reads P Tv cs off v) : ReadsAt P Tv w b off v :=
  ⟨heap_lt (hL.heap hm), fun w' h => hv.run w' b (fun j => (h j).trans (hL.cell hm j))⟩
theorem enterR : ∀ args w, (callFunc 68 args).run Tryz.prog w = .ok (.enter 68 args) w := fun args w => by kernel_rfl
theorem enterI : ∀ args w, (callFunc 61 args).run Tryz.prog w = .ok (.enter 61 args) w := fun args w => by kernel_rfl
theorem enterS : ∀ args w, (callFunc 71 args).run Tryz.prog w = .ok (.enter 71 args) w := fun args w => by kernel_rfl
set_option maxRecDepth 100000 in
set_option maxHeartbeats 1600000 in
theorem gright1_any (p : Pg) (is : Nat → Ins) (x : Int) (b : Nat) (w : World) (hr : ReadsAt Tryz.prog 24 w b 0 p.v) (hc : CodeAt w p is) :
    Calls Tryz.prog 68 #[.int .i64 x, .pointer (some ⟨b, 0, none⟩)] w fun e w' => e = .returned (.bool (!isSite p is x)) ∧ Below w.heap.size w w' := by
  have HC := Lib.hid hc
  clear hc
  have hL := Loc.start w
  go_enter Tryz.func68, Tryz.ntmps68
  go_wp2_with (first | (with_reducible refine lld hL ?_) | ((with_reducible first | refine lbx hL ?_ | refine lal hL ?_ | refine lbs hL ?_); clear hL; intro bl w1 hL) | ((with_reducible refine lst' hL ?_); clear hL; intro w1 hL) | (refine loc_loadB hr hL rfl rfl ?_) | (go_at_call 69; refine (isSite_any p is _ _ (HC.out.grow hL.below)).mono ?_; rintro e w1 ⟨rfl, hb⟩; replace hL := hL.grow hb; clear hb; dsimp only))
  (try simp only [Exit.inBlock, Exit.then]); refine' ret1 rfl ?_ rfl ?_; (case refine'_2 => exact cRes)
  exact ⟨rfl, hL.below⟩
set_option maxRecDepth 100000 in
set_option maxHeartbeats 1600000 in
theorem inside1_any (t : Sl) (m : List Int) (x : Int) (b : Nat) (w : World) (hr : ReadsAt Tryz.prog 27 w b 6 t.v) (hm : IntsAt w t m) :
    Calls Tryz.prog 61 #[.int .i64 x, .pointer (some ⟨b, 0, none⟩)] w fun e w' => e = .returned (.bool (!hasI m x)) ∧ Below w.heap.size w w' := by
  have HC := Lib.hid hm
  clear hm
  have hL := Loc.start w
  go_enter Tryz.func61, Tryz.ntmps61
  go_wp2_with (first | (with_reducible refine lld hL ?_) | ((with_reducible first | refine lbx hL ?_ | refine lal hL ?_ | refine lbs hL ?_); clear hL; intro bl w1 hL) | ((with_reducible refine lst' hL ?_); clear hL; intro w1 hL) | (refine loc_loadB hr hL rfl rfl ?_) | (go_at_call 62; refine (containsI_any t m x _ (HC.out.grow hL.below)).mono ?_; rintro e w1 ⟨rfl, hb⟩; replace hL := hL.grow hb; clear hb; dsimp only))
  (try simp only [Exit.inBlock, Exit.then]); refine' ret1 rfl ?_ rfl ?_; (case refine'_2 => exact cRes)
  exact ⟨rfl, hL.below⟩
set_option maxRecDepth 100000 in
set_option maxHeartbeats 1600000 in
theorem same1_any (t : Sl) (m : List Int) (x : Int) (b : Nat) (w : World) (hr : ReadsAt Tryz.prog 27 w b 6 t.v) (hm : IntsAt w t m) :
    Calls Tryz.prog 71 #[.int .i64 x, .pointer (some ⟨b, 0, none⟩)] w fun e w' => e = .returned (.bool (hasI m x)) ∧ Below w.heap.size w w' := by
  have HC := Lib.hid hm
  clear hm
  have hL := Loc.start w
  go_enter Tryz.func71, Tryz.ntmps71
  go_wp2_with (first | (with_reducible refine lld hL ?_) | ((with_reducible first | refine lbx hL ?_ | refine lal hL ?_ | refine lbs hL ?_); clear hL; intro bl w1 hL) | ((with_reducible refine lst' hL ?_); clear hL; intro w1 hL) | (refine loc_loadB hr hL rfl rfl ?_) | (go_at_call 62; refine (containsI_any t m x _ (HC.out.grow hL.below)).mono ?_; rintro e w1 ⟨rfl, hb⟩; replace hL := hL.grow hb; clear hb; dsimp only))
  (try simp only [Exit.inBlock, Exit.then]); refine' ret1 rfl ?_ rfl ?_; (case refine'_2 => exact cRes)
  exact ⟨rfl, hL.below⟩
end Go.Proofs.YteimpfplgdhclaaGreat
