/- The walk over the reference's CheckProgram. Conditions: the instructions lie in memory that was there. -/
import Derived.Test.YteimpfplgdhclaaGreatRefCodeC
set_option linter.unusedSimpArgs false
set_option linter.unusedVariables false
namespace Go.Proofs.YteimpfplgdhclaaGreat
open Go.RowKit

/-- The first of f k, f (k + 1), .. that is not 0, of m; else 0. -/
def firstErr (f : Nat → Int) : Nat → Nat → Int
  | _, 0 => 0
  | k, m + 1 => if f k ≠ 0 then f k else firstErr f (k + 1) m
def headBad (p : Pg) : Bool := !betw p.vars 1 8 || !betw p.fields 0 3
def checkProg (p : Pg) (is : Nat → Ins) : Int := if headBad p then 3 else if 60 < p.n then 2 else firstErr (fun k => checkOne p (is k)) 0 p.n
/-- A program's instructions lie in memory. -/
def CodeAt (w : World) (p : Pg) (is : Nat → Ins) : Prop := ∃ b o : Nat, (0 < p.n → p.pc = some ⟨b, o, none⟩) ∧ ∀ k, k < p.n → b < w.heap.size ∧ ∀ j v, (is k).cells[j]? = some v → w.cell? ⟨b, o + k * 6 + j, none⟩ = some v
theorem CodeAt.reads {w : World} {p : Pg} {is : Nat → Ins} (h : CodeAt w p is) : ∃ b o : Nat, (0 < p.n → p.pc = some ⟨b, o, none⟩) ∧ ∀ k, k < p.n → ReadsAt Tryz.prog 76 w b (o + k * 6) (is k).v := by
  obtain ⟨b, o, h1, h2⟩ := h
  exact ⟨b, o, h1, fun k hk => ReadsAt.agg tInstr (h2 k hk).1 (fun j v hj => (h2 k hk).2 j v hj) rfl⟩
theorem CodeAt.kinds {w : World} {p : Pg} {is : Nat → Ins} (h : CodeAt w p is) : ∃ b o : Nat, (0 < p.n → p.pc = some ⟨b, o, none⟩) ∧ ∀ k, k < p.n → ReadsAt Tryz.prog 3 w b (o + k * 6) (.int .i64 (is k).kind) := by
  obtain ⟨b, o, h1, h2⟩ := h
  exact ⟨b, o, h1, fun k hk => ReadsAt.cell tInt (h2 k hk).1 ((h2 k hk).2 0 _ rfl)⟩
theorem CodeAt.grow {w w' : World} {p : Pg} {is : Nat → Ins} (h : CodeAt w p is) (hb : Below w.heap.size w w') : CodeAt w' p is := by
  obtain ⟨b, o, h1, h2⟩ := h
  exact ⟨b, o, h1, fun k hk => ⟨Nat.lt_of_lt_of_le (h2 k hk).1 hb.size, fun j v hj => (hb.cell (p := ⟨b, o + k * 6 + j, none⟩) (h2 k hk).1).trans ((h2 k hk).2 j v hj)⟩⟩
theorem small_of {p : Pg} (h : headBad p = false) (hn : ¬ 60 < p.n) : Small p := by
  simp [headBad, betw] at h
  exact ⟨by omega, by omega, by omega, by omega, by omega⟩

set_option maxRecDepth 100000 in
set_option maxHeartbeats 4000000 in
theorem rCheckProgram_any (p : Pg) (is : Nat → Ins) (w : World) (hc : CodeAt w p is) (hn : p.n ≤ 9223372036854775807) :
    Calls Tryz.prog 23 #[p.v] w fun e w' => e = .returned (.int .i64 (checkProg p is)) ∧ Below w.heap.size w w' := by
  obtain ⟨b, o, hpc, hc⟩ := hc.reads
  have HP := Lib.hid hpc
  have HC := Lib.hid hc
  clear hpc hc
  have HF := Lib.hid (show checkProg p is = if headBad p then 3 else if 60 < p.n then 2 else firstErr (fun k => checkOne p (is k)) 0 p.n from rfl)
  have hL := Loc.start w
  go_enter Tryz.func23, Tryz.ntmps23
  go_step
  go_step
  go_step
  ((with_reducible refine lbx hL ?_); clear hL; intro b1 w1 hL)
  go_upto_region 1 with (first | (with_reducible refine lld hL ?_) | ((with_reducible first | refine lbx hL ?_ | refine lal hL ?_ | refine lbs hL ?_); clear hL; intro bl w1 hL) | ((with_reducible refine lst' hL ?_); clear hL; intro w1 hL))
  refine seq_begin [5, 6, 7, 8, 9, 10, 11, 12, 13, 14] ?_
  apply draw_val
  · intro g w hb hdep; replace hL := hL.grow hb; clear hdep; simp only [fillD, fLa, fLb, sTa, sTb]
    go_wp2
    exact cY
  simp only [apN, apC]
  apply draw_val
  · intro g w hb hdep; replace hL := hL.grow hb; have d0 := yv hdep 0; clear hdep; simp only [fillD, fLa, fLb, sTa, sTb]; simp only [d0]
    go_wp2_with (first | (with_reducible refine lld hL ?_) | (with_reducible refine ldD hL ?_))
    exact cY
  simp only [apN, apC]
  apply draw_val
  · intro g w hb hdep; replace hL := hL.grow hb; have d1 := yv hdep 1; clear hdep; simp only [fillD, fLa, fLb, sTa, sTb]; simp only [d1]
    go_wp2_with (go_at_call 51; refine (between_any _ _ _ _).mono ?_; rintro e w' ⟨rfl, rfl⟩; dsimp only)
    exact ⟨rfl, _, rfl, Below.refl _ _, rfl⟩
  simp only [apN, apC]
  apply draw_val
  · intro g w hb hdep; replace hL := hL.grow hb; have d2 := yv hdep 2; clear hdep; simp only [fillD, fLa, fLb, sTa, sTb]; simp only [d2]
    go_wp2
    exact cY
  simp only [apN, apC]
  apply draw_val
  · intro g w hb hdep; replace hL := hL.grow hb; have d3 := yv hdep 3; clear hdep; simp only [fillD, fLa, fLb, sTa, sTb]; simp only [d3]
    go_wp2
    exact cY
  simp only [apN, apC]
  refine' draw_guard (j := 4) rfl rfl rfl (by decide) (by simp) ?_ ?_; rotate_left
  · intro hcs; simp only [Bool.and_eq_true, beqT, beqF] at hcs; intro g w hb hdep; replace hL := hL.grow hb; clear hdep; simp only [fillD, fLa, fLb, sTa, sTb]
    go_wp2
    exact cY
  simp only [apN, apC]
  refine' draw_guard (j := 4) rfl rfl rfl (by decide) (by simp) ?_ ?_; rotate_left
  · intro hcs; simp only [Bool.and_eq_true, beqT, beqF] at hcs; intro g w hb hdep; replace hL := hL.grow hb; have d5 := yv hdep 5; simp only [hcs, beq_self_eq_true, Bool.and_self, Bool.true_and, Bool.and_true, cnd_true] at d5; clear hdep; simp only [fillD, fLa, fLb, sTa, sTb]; simp only [d5]
    go_wp2_with (first | (with_reducible refine lld hL ?_) | (with_reducible refine ldD hL ?_))
    exact cY
  simp only [apN, apC]
  refine' draw_guard (j := 4) rfl rfl rfl (by decide) (by simp) ?_ ?_; rotate_left
  · intro hcs; simp only [Bool.and_eq_true, beqT, beqF] at hcs; intro g w hb hdep; replace hL := hL.grow hb; have d6 := yv hdep 6; simp only [hcs, beq_self_eq_true, Bool.and_self, Bool.true_and, Bool.and_true, cnd_true] at d6; clear hdep; simp only [fillD, fLa, fLb, sTa, sTb]; simp only [d6]
    go_wp2_with (go_at_call 51; refine (between_any _ _ _ _).mono ?_; rintro e w' ⟨rfl, rfl⟩; dsimp only)
    exact ⟨rfl, _, rfl, Below.refl _ _, rfl⟩
  simp only [apN, apC]
  refine' draw_guard (j := 4) rfl rfl rfl (by decide) (by simp) ?_ ?_; rotate_left
  · intro hcs; simp only [Bool.and_eq_true, beqT, beqF] at hcs; intro g w hb hdep; replace hL := hL.grow hb; have d7 := yv hdep 7; simp only [hcs, beq_self_eq_true, Bool.and_self, Bool.true_and, Bool.and_true, cnd_true] at d7; clear hdep; simp only [fillD, fLa, fLb, sTa, sTb]; simp only [d7]
    go_wp2
    exact cY
  simp only [apN, apC]
  apply draw_val
  · intro g w hb hdep; replace hL := hL.grow hb; have d4 := yv hdep 4; have d8 := yv hdep 8; clear hdep; simp only [fillD, fLa, fLb, sTa, sTb]; simp only [d4, d8]
    first | refine wp_pick_or rfl rfl ?_ | go_wp2
    exact cY
  simp only [apN, apC]
  refine seq_end hL (by kernel_rfl) ?_
  intro g w2 hb hR; simp only [List.length_cons, List.length_nil, Nat.reduceAdd] at hR
  have e0 := yv hR 0
  have e1 := yv hR 1
  have e2 := yv hR 2
  have e3 := yv hR 3
  have e4 := yv hR 4
  have e5 := yv hR 5
  have e6 := yv hR 6
  have e7 := yv hR 7
  have e8 := yv hR 8
  have e9 := yv hR 9
  clear hR; simp only [fillD, fLa, fLb, sTa, sTb]
  simp only [e0, e1, e2, e3, e4, e5, e6, e7, e8, e9]
  clear e0 e1 e2 e3 e4 e5 e6 e7 e8 e9
  replace hL := hL.grow hb
  clear hb
  cases h1 : headBad p with
  | true =>
    have h0 := h1
    unfold headBad at h0
    simp only [h0]
    clear h0
    have H1 := Lib.hid h1
    clear h1
    go_wp2
    (try simp only [Exit.inBlock, Exit.then]); refine' ret1 rfl ?_ rfl ?_; (case refine'_2 => exact cRes)
    exact ⟨by rw [HF.out, if_pos H1.out]; rfl, hL.below⟩
  | false =>
  have h0 := h1
  unfold headBad at h0
  simp only [h0]
  clear h0
  have H1 := Lib.hid h1
  clear h1
  by_cases hm : 60 < p.n
  · go_wp2_with (first | (with_reducible refine lld hL ?_) | ((with_reducible first | refine lbx hL ?_ | refine lal hL ?_ | refine lbs hL ?_); clear hL; intro bl w1 hL) | ((with_reducible refine lst' hL ?_); clear hL; intro w1 hL))
    (try simp only [Exit.inBlock, Exit.then]); refine' ret1 rfl ?_ rfl ?_; (case refine'_2 => exact cRes)
    exact ⟨by rw [HF.out, if_neg (by rw [H1.out]; decide), if_pos hm]; rfl, hL.below⟩
  have HS := Lib.hid (small_of H1.out hm)
  have HG := Lib.hid (show checkProg p is = firstErr (fun k => checkOne p (is k)) 0 p.n from by rw [HF.out, if_neg (by rw [H1.out]; decide), if_neg hm])
  have hle : p.n ≤ 60 := by omega
  clear hm
  go_wp2_with (first | (with_reducible refine lld hL ?_) | ((with_reducible first | refine lbx hL ?_ | refine lal hL ?_ | refine lbs hL ?_); clear hL; intro bl w1 hL) | ((with_reducible refine lst' hL ?_); clear hL; intro w1 hL))
  go_loopw [3] (fun c wr => ∃ k : Nat, k ≤ p.n ∧ c = .int .i64 k ∧ checkProg p is = firstErr (fun k => checkOne p (is k)) k (p.n - k) ∧ Loc w wr [(b1, 24, [.int .i64 p.vars, .int .i64 p.fields, .slice p.pc p.n p.cap])] []) (fun c _ => p.n - (intOf c).toNat)
  case atStart => exact ⟨0, Nat.zero_le _, rfl, HG.out, hL⟩
  case round =>
    obtain ⟨k, hk, rfl, hg, hL⟩ := hrel
    have HK := Lib.hid hg
    clear hg
    by_cases hlt : k < p.n
    · obtain ⟨m, hm⟩ : ∃ m, p.n - k = m + 1 := ⟨p.n - k - 1, by omega⟩
      have hstep := HK.out
      rw [hm, firstErr] at hstep
      have hm2 : p.n - (k + 1) = m := by omega
      rw [← hm2] at hstep
      have HST := Lib.hid hstep
      have hp := HP.out (by omega)
      have HPC := Lib.hid hp
      have hr := HC.out k hlt
      have hone := rCheckOne_any p (is k) HS.out
      have HR := Lib.hid hr
      clear hstep hm hm2 hp hr
      by_cases he : checkOne p (is k) = 0
      · rw [he] at hone
        have HO := Lib.hid hone
        have HE := Lib.hid he
        clear hone he
        go_upto_region 8 with (first | (with_reducible refine lld hL ?_) | ((with_reducible first | refine lbx hL ?_ | refine lal hL ?_ | refine lbs hL ?_); clear hL; intro bl w1 hL) | ((with_reducible refine lst' hL ?_); clear hL; intro w1 hL))
        refine draw_begin [26, 27, 28, 29, 30, 31, 32, 4] ?_
        apply draw_val
        · intro g w hb hdep; replace hL := hL.grow hb; clear hdep; simp only [fillD, fLa, fLb, sTa, sTb]
          go_wp2_with (first | (with_reducible refine lld hL ?_) | (with_reducible refine ldD hL ?_))
          exact cY
        simp only [apN, apC]
        apply draw_val
        · intro g w hb hdep; replace hL := hL.grow hb; clear hdep; simp only [fillD, fLa, fLb, sTa, sTb]
          go_wp2
          exact cY
        simp only [apN, apC]
        apply draw_val
        · intro g w hb hdep; replace hL := hL.grow hb; have d1 := yv hdep 1; clear hdep; simp only [fillD, fLa, fLb, sTa, sTb]; simp only [d1]
          go_wp2_with (first | (with_reducible refine lld hL ?_) | (with_reducible refine ldD hL ?_))
          exact cY
        simp only [apN, apC]
        apply draw_val
        · intro g w hb hdep; replace hL := hL.grow hb; clear hdep; simp only [fillD, fLa, fLb, sTa, sTb]
          go_wp2
          exact cY
        simp only [apN, apC]
        apply draw_val
        · intro g w hb hdep; replace hL := hL.grow hb; have d2 := yv hdep 2; have d3 := yv hdep 3; clear hdep; simp only [fillD, fLa, fLb, sTa, sTb]; simp only [d2, d3]
          (simp only [HPC.out]; go_wp2)
          exact cY
        simp only [apN, apC]
        apply draw_val
        · intro g w hb hdep; replace hL := hL.grow hb; have d4 := yv hdep 4; clear hdep; simp only [fillD, fLa, fLb, sTa, sTb]; simp only [d4]
          refine loc_loadB HR.out hL rfl rfl ?_
          exact cY
        simp only [apN, apC]
        apply draw_val
        · intro g w hb hdep; replace hL := hL.grow hb; have d0 := yv hdep 0; have d5 := yv hdep 5; clear hdep; simp only [fillD, fLa, fLb, sTa, sTb]; simp only [d0, d5]
          go_wp2_with (go_at_call 52; refine (HO.out _).mono ?_; rintro e w3 ⟨rfl, hb3⟩; dsimp only)
          exact ⟨rfl, _, rfl, hb3, rfl⟩
        simp only [apN, apC]
        apply draw_val
        · intro g w hb hdep; replace hL := hL.grow hb; have d6 := yv hdep 6; clear hdep; simp only [fillD, fLa, fLb, sTa, sTb]; simp only [d6]
          go_wp2
          exact cY
        simp only [apN, apC]
        refine draw_end hL (by kernel_rfl) (by kernel_rfl) ?_
        intro g w2 hb hR; simp only [List.length_cons, List.length_nil, Nat.reduceAdd] at hR
        have e0 := yv hR 0
        have e1 := yv hR 1
        have e2 := yv hR 2
        have e3 := yv hR 3
        have e4 := yv hR 4
        have e5 := yv hR 5
        have e6 := yv hR 6
        have e7 := yv hR 7
        clear hR; simp only [fillD, fLa, fLb, sTa, sTb]
        simp only [e0, e1, e2, e3, e4, e5, e6, e7]
        clear e0 e1 e2 e3 e4 e5 e6 e7
        replace hL := hL.grow hb
        clear hb
        go_wp2
        go_roundw
        case rel => exact ⟨k + 1, by omega, by go_num, by have h := HST.out; rw [if_neg (by simp [HE.out])] at h; exact h, hL⟩
        case measure => simp [intOf]; omega
      · have hst : checkProg p is = checkOne p (is k) := by have h := HST.out; rw [if_pos he] at h; exact h
        have hne : (checkOne p (is k) != 0) = true := by simp [he]
        generalize checkOne p (is k) = ce at hone hst hne
        have HO := Lib.hid hone
        have HE := Lib.hid hst
        clear hone hst he
        go_upto_region 8 with (first | (with_reducible refine lld hL ?_) | ((with_reducible first | refine lbx hL ?_ | refine lal hL ?_ | refine lbs hL ?_); clear hL; intro bl w1 hL) | ((with_reducible refine lst' hL ?_); clear hL; intro w1 hL))
        refine draw_begin [26, 27, 28, 29, 30, 31, 32, 4] ?_
        apply draw_val
        · intro g w hb hdep; replace hL := hL.grow hb; clear hdep; simp only [fillD, fLa, fLb, sTa, sTb]
          go_wp2_with (first | (with_reducible refine lld hL ?_) | (with_reducible refine ldD hL ?_))
          exact cY
        simp only [apN, apC]
        apply draw_val
        · intro g w hb hdep; replace hL := hL.grow hb; clear hdep; simp only [fillD, fLa, fLb, sTa, sTb]
          go_wp2
          exact cY
        simp only [apN, apC]
        apply draw_val
        · intro g w hb hdep; replace hL := hL.grow hb; have d1 := yv hdep 1; clear hdep; simp only [fillD, fLa, fLb, sTa, sTb]; simp only [d1]
          go_wp2_with (first | (with_reducible refine lld hL ?_) | (with_reducible refine ldD hL ?_))
          exact cY
        simp only [apN, apC]
        apply draw_val
        · intro g w hb hdep; replace hL := hL.grow hb; clear hdep; simp only [fillD, fLa, fLb, sTa, sTb]
          go_wp2
          exact cY
        simp only [apN, apC]
        apply draw_val
        · intro g w hb hdep; replace hL := hL.grow hb; have d2 := yv hdep 2; have d3 := yv hdep 3; clear hdep; simp only [fillD, fLa, fLb, sTa, sTb]; simp only [d2, d3]
          (simp only [HPC.out]; go_wp2)
          exact cY
        simp only [apN, apC]
        apply draw_val
        · intro g w hb hdep; replace hL := hL.grow hb; have d4 := yv hdep 4; clear hdep; simp only [fillD, fLa, fLb, sTa, sTb]; simp only [d4]
          refine loc_loadB HR.out hL rfl rfl ?_
          exact cY
        simp only [apN, apC]
        apply draw_val
        · intro g w hb hdep; replace hL := hL.grow hb; have d0 := yv hdep 0; have d5 := yv hdep 5; clear hdep; simp only [fillD, fLa, fLb, sTa, sTb]; simp only [d0, d5]
          go_wp2_with (go_at_call 52; refine (HO.out _).mono ?_; rintro e w3 ⟨rfl, hb3⟩; dsimp only)
          exact ⟨rfl, _, rfl, hb3, rfl⟩
        simp only [apN, apC]
        apply draw_val
        · intro g w hb hdep; replace hL := hL.grow hb; have d6 := yv hdep 6; clear hdep; simp only [fillD, fLa, fLb, sTa, sTb]; simp only [d6]
          go_wp2
          exact cY
        simp only [apN, apC]
        refine draw_end hL (by kernel_rfl) (by kernel_rfl) ?_
        intro g w2 hb hR; simp only [List.length_cons, List.length_nil, Nat.reduceAdd] at hR
        have e0 := yv hR 0
        have e1 := yv hR 1
        have e2 := yv hR 2
        have e3 := yv hR 3
        have e4 := yv hR 4
        have e5 := yv hR 5
        have e6 := yv hR 6
        have e7 := yv hR 7
        clear hR; simp only [fillD, fLa, fLb, sTa, sTb]
        simp only [e0, e1, e2, e3, e4, e5, e6, e7]
        clear e0 e1 e2 e3 e4 e5 e6 e7
        replace hL := hL.grow hb
        clear hb
        go_wp2
        (try simp only [Exit.inBlock, Exit.then]); refine' ret1 rfl ?_ rfl ?_; (case refine'_2 => exact cRes)
        exact ⟨by rw [HE.out]; rfl, hL.below⟩
    · go_wp2_with (first | (with_reducible refine lld hL ?_) | ((with_reducible first | refine lbx hL ?_ | refine lal hL ?_ | refine lbs hL ?_); clear hL; intro bl w1 hL) | ((with_reducible refine lst' hL ?_); clear hL; intro w1 hL))
      (try simp only [Exit.inBlock, Exit.then]); refine' ret1 rfl ?_ rfl ?_; (case refine'_2 => exact cRes)
      exact ⟨by rw [HK.out, show p.n - k = 0 by omega]; rfl, hL.below⟩
end Go.Proofs.YteimpfplgdhclaaGreat
