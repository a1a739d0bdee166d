/- The walks over Held and HeldOf. Conditions: what they read lies in memory that was there. -/
import Derived.Test.YteimpfplgdhclaaGreatGuessD1
set_option linter.unusedSimpArgs false
set_option linter.unusedVariables false
namespace Go.Proofs.YteimpfplgdhclaaGreat
open Go.RowKit

/-! ### Held, HeldOf -/
def held (g : Gu) (l : List Int) (v : Vl) (site : Int) : Bool := if v.kind = 1 then inSpan g.span v.n else if v.kind = 2 then (v.n == 1 && g.tr || v.n == 0 && g.fa) else if v.kind = 3 then hasI l site else g.null
set_option maxRecDepth 100000 in
set_option maxHeartbeats 1600000 in
theorem gheld_any (g : Gu) (l : List Int) (v : Vl) (site : Int) (w : World) (hl : IntsAt w g.s l) :
    Calls Tryz.prog 38 #[g.v, v.v, .int .i64 site] w fun e w' => e = .returned (.bool (held g l v site)) ∧ Below w.heap.size w w' := by
  obtain ⟨nl, ⟨sn, slo, shi⟩, tr, fa, t⟩ := g
  obtain ⟨k, n⟩ := v
  have HI := Lib.hid (fun w' hb => containsI_any t l site w' (hl.grow hb))
  have HS := Lib.hid (fun w' => in_any ⟨sn, slo, shi⟩ n w')
  have HF := Lib.hid (show held ⟨nl, ⟨sn, slo, shi⟩, tr, fa, t⟩ l ⟨k, n⟩ site = if k = 1 then inSpan ⟨sn, slo, shi⟩ n else if k = 2 then (n == 1 && tr || n == 0 && fa) else if k = 3 then hasI l site else nl from rfl)
  obtain ⟨tp, tn, tc⟩ := t
  clear hl
  have hL := Loc.start w
  go_enter Tryz.func38, Tryz.ntmps38
  by_cases h1 : k = 1
  · subst h1
    have HX := Lib.hid (HF.out.trans (if_pos rfl))
    clear HF
    go_wp2_with (first | (with_reducible refine lld hL ?_) | ((with_reducible first | refine lbx hL ?_ | refine lal hL ?_ | refine lbs hL ?_); clear hL; intro bl w1 hL) | ((with_reducible refine lst' hL ?_); clear hL; intro w1 hL) | (go_at_call 64; refine (HS.out _).mono ?_; rintro e w1 ⟨rfl, hb⟩; replace hL := hL.grow hb; clear hb; dsimp only))
    (try simp only [Exit.inBlock, Exit.then]); refine' ret1 rfl ?_ rfl ?_; (case refine'_2 => exact cRes)
    exact ⟨by rw [HX.out]; rfl, hL.below⟩
  by_cases h2 : k = 2
  · subst h2
    have HX := Lib.hid (HF.out.trans ((if_neg (by decide)).trans (if_pos rfl)))
    clear h1 HF
    go_upto_region 5 with (first | (with_reducible refine lld hL ?_) | ((with_reducible first | refine lbx hL ?_ | refine lal hL ?_ | refine lbs hL ?_); clear hL; intro bl w1 hL) | ((with_reducible refine lst' hL ?_); clear hL; intro w1 hL))
    refine seq_begin [18, 19, 20, 21, 22, 23, 24, 25, 26, 27, 28, 29, 30, 31, 32, 33, 6] ?_
    apply draw_val
    · intro g w hb hdep; replace hL := hL.grow hb; clear hdep; simp only [fillD, fLa, fLb, sTa, sTb]
      go_wp2
      exact cY
    simp only [apN, apC]
    apply draw_val
    · intro g w hb hdep; replace hL := hL.grow hb; have d0 := yv hdep 0; clear hdep; simp only [fillD, fLa, fLb, sTa, sTb]; simp only [d0]
      go_wp2_with (first | (with_reducible refine lld hL ?_) | (with_reducible refine ldD hL ?_))
      exact cY
    simp only [apN, apC]
    apply draw_val
    · intro g w hb hdep; replace hL := hL.grow hb; have d1 := yv hdep 1; clear hdep; simp only [fillD, fLa, fLb, sTa, sTb]; simp only [d1]
      go_wp2
      exact cY
    simp only [apN, apC]
    apply draw_val
    · intro g w hb hdep; replace hL := hL.grow hb; have d2 := yv hdep 2; clear hdep; simp only [fillD, fLa, fLb, sTa, sTb]; simp only [d2]
      go_wp2
      exact cY
    simp only [apN, apC]
    refine' draw_guard (j := 3) rfl rfl rfl (by decide) (by simp) ?_ ?_; rotate_left
    · intro hcs; simp only [Bool.and_eq_true, beqT, beqF] at hcs; intro g w hb hdep; replace hL := hL.grow hb; clear hdep; simp only [fillD, fLa, fLb, sTa, sTb]
      go_wp2
      exact cY
    simp only [apN, apC]
    refine' draw_guard (j := 3) rfl rfl rfl (by decide) (by simp) ?_ ?_; rotate_left
    · intro hcs; simp only [Bool.and_eq_true, beqT, beqF] at hcs; intro g w hb hdep; replace hL := hL.grow hb; have d4 := yv hdep 4; simp only [hcs, beq_self_eq_true, Bool.and_self, Bool.true_and, Bool.and_true, cnd_true] at d4; clear hdep; simp only [fillD, fLa, fLb, sTa, sTb]; simp only [d4]
      go_wp2_with (first | (with_reducible refine lld hL ?_) | (with_reducible refine ldD hL ?_))
      exact cY
    simp only [apN, apC]
    apply draw_val
    · intro g w hb hdep; replace hL := hL.grow hb; have d3 := yv hdep 3; have d5 := yv hdep 5; clear hdep; simp only [fillD, fLa, fLb, sTa, sTb]; simp only [d3, d5]
      first | refine wp_pick_and rfl rfl ?_ | go_wp2
      exact cY
    simp only [apN, apC]
    apply draw_val
    · intro g w hb hdep; replace hL := hL.grow hb; have d6 := yv hdep 6; clear hdep; simp only [fillD, fLa, fLb, sTa, sTb]; simp only [d6]
      go_wp2
      exact cY
    simp only [apN, apC]
    refine' draw_guard (j := 7) rfl rfl rfl (by decide) (by simp) ?_ ?_; rotate_left
    · intro hcs; simp only [Bool.and_eq_true, beqT, beqF] at hcs; intro g w hb hdep; replace hL := hL.grow hb; clear hdep; simp only [fillD, fLa, fLb, sTa, sTb]
      go_wp2
      exact cY
    simp only [apN, apC]
    refine' draw_guard (j := 7) rfl rfl rfl (by decide) (by simp) ?_ ?_; rotate_left
    · intro hcs; simp only [Bool.and_eq_true, beqT, beqF] at hcs; intro g w hb hdep; replace hL := hL.grow hb; have d8 := yv hdep 8; simp only [hcs, beq_self_eq_true, Bool.and_self, Bool.true_and, Bool.and_true, cnd_true] at d8; clear hdep; simp only [fillD, fLa, fLb, sTa, sTb]; simp only [d8]
      go_wp2_with (first | (with_reducible refine lld hL ?_) | (with_reducible refine ldD hL ?_))
      exact cY
    simp only [apN, apC]
    refine' draw_guard (j := 7) rfl rfl rfl (by decide) (by simp) ?_ ?_; rotate_left
    · intro hcs; simp only [Bool.and_eq_true, beqT, beqF] at hcs; intro g w hb hdep; replace hL := hL.grow hb; have d9 := yv hdep 9; simp only [hcs, beq_self_eq_true, Bool.and_self, Bool.true_and, Bool.and_true, cnd_true] at d9; clear hdep; simp only [fillD, fLa, fLb, sTa, sTb]; simp only [d9]
      go_wp2
      exact cY
    simp only [apN, apC]
    refine' draw_guard (j := 7) rfl rfl rfl (by decide) (by simp) ?_ ?_; rotate_left
    · intro hcs; simp only [Bool.and_eq_true, beqT, beqF] at hcs; intro g w hb hdep; replace hL := hL.grow hb; have d10 := yv hdep 10; simp only [hcs, beq_self_eq_true, Bool.and_self, Bool.true_and, Bool.and_true, cnd_true] at d10; clear hdep; simp only [fillD, fLa, fLb, sTa, sTb]; simp only [d10]
      go_wp2
      exact cY
    simp only [apN, apC]
    refine' draw_guardC (j := 11) rfl rfl rfl (by decide) (by simp) ?_ ?_; rotate_left
    · intro hcs; simp only [Bool.and_eq_true, beqT, beqF] at hcs; intro g w hb hdep; replace hL := hL.grow hb; clear hdep; simp only [fillD, fLa, fLb, sTa, sTb]
      go_wp2
      exact cY
    simp only [apN, apC]
    refine' draw_guardC (j := 11) rfl rfl rfl (by decide) (by simp) ?_ ?_; rotate_left
    · intro hcs; simp only [Bool.and_eq_true, beqT, beqF] at hcs; intro g w hb hdep; replace hL := hL.grow hb; have d12 := yv hdep 12; simp only [hcs, beq_self_eq_true, Bool.and_self, Bool.true_and, Bool.and_true, cnd_true] at d12; clear hdep; simp only [fillD, fLa, fLb, sTa, sTb]; simp only [d12]
      go_wp2_with (first | (with_reducible refine lld hL ?_) | (with_reducible refine ldD hL ?_))
      exact cY
    simp only [apN, apC]
    refine' draw_guard (j := 7) rfl rfl rfl (by decide) (by simp) ?_ ?_; rotate_left
    · intro hcs; simp only [Bool.and_eq_true, beqT, beqF] at hcs; intro g w hb hdep; replace hL := hL.grow hb; have d11 := yv hdep 11; simp only [hcs, beq_self_eq_true, Bool.and_self, Bool.true_and, Bool.and_true, cnd_true] at d11; have d13 := yv hdep 13; simp only [hcs, beq_self_eq_true, Bool.and_self, Bool.true_and, Bool.and_true, cnd_true] at d13; clear hdep; simp only [fillD, fLa, fLb, sTa, sTb]; simp only [d11, d13]
      first | refine wp_pick_and rfl rfl ?_ | go_wp2
      exact cY
    simp only [apN, apC]
    apply draw_val
    · intro g w hb hdep; replace hL := hL.grow hb; have d7 := yv hdep 7; have d14 := yv hdep 14; clear hdep; simp only [fillD, fLa, fLb, sTa, sTb]; simp only [d7, d14]
      first | refine wp_pick_or rfl rfl ?_ | go_wp2
      exact cY
    simp only [apN, apC]
    apply draw_val
    · intro g w hb hdep; replace hL := hL.grow hb; have d15 := yv hdep 15; clear hdep; simp only [fillD, fLa, fLb, sTa, sTb]; simp only [d15]
      go_wp2
      exact cY
    simp only [apN, apC]
    refine seq_end hL (by kernel_rfl) ?_
    intro g w2 hb hR; simp only [List.length_cons, List.length_nil, Nat.reduceAdd] at hR
    have e0 := yv hR 0
    have e1 := yv hR 1
    have e2 := yv hR 2
    have e3 := yv hR 3
    have e4 := yv hR 4
    have e5 := yv hR 5
    have e6 := yv hR 6
    have e7 := yv hR 7
    have e8 := yv hR 8
    have e9 := yv hR 9
    have e10 := yv hR 10
    have e11 := yv hR 11
    have e12 := yv hR 12
    have e13 := yv hR 13
    have e14 := yv hR 14
    have e15 := yv hR 15
    have e16 := yv hR 16
    clear hR; simp only [fillD, fLa, fLb, sTa, sTb]
    simp only [e0, e1, e2, e3, e4, e5, e6, e7, e8, e9, e10, e11, e12, e13, e14, e15, e16]
    clear e0 e1 e2 e3 e4 e5 e6 e7 e8 e9 e10 e11 e12 e13 e14 e15 e16
    replace hL := hL.grow hb
    clear hb
    go_wp2_with (first | (with_reducible refine lld hL ?_) | ((with_reducible first | refine lbx hL ?_ | refine lal hL ?_ | refine lbs hL ?_); clear hL; intro bl w1 hL) | ((with_reducible refine lst' hL ?_); clear hL; intro w1 hL))
    (try simp only [Exit.inBlock, Exit.then]); refine' ret1 rfl ?_ rfl ?_; (case refine'_2 => exact cRes)
    exact ⟨by rw [HX.out]; rfl, hL.below⟩
  by_cases h3 : k = 3
  · subst h3
    have HX := Lib.hid (HF.out.trans ((if_neg (by decide)).trans ((if_neg (by decide)).trans (if_pos rfl))))
    clear h1 h2 HF
    go_wp2_with (first | (with_reducible refine lld hL ?_) | ((with_reducible first | refine lbx hL ?_ | refine lal hL ?_ | refine lbs hL ?_); clear hL; intro bl w1 hL) | ((with_reducible refine lst' hL ?_); clear hL; intro w1 hL) | (go_at_call 62; refine (HI.out _ hL.below).mono ?_; rintro e w1 ⟨rfl, hb⟩; replace hL := hL.grow hb; clear hb; dsimp only))
    (try simp only [Exit.inBlock, Exit.then]); refine' ret1 rfl ?_ rfl ?_; (case refine'_2 => exact cRes)
    exact ⟨by rw [HX.out]; rfl, hL.below⟩
  have k1 : (k == 1) = false := beq_eq_false_iff_ne.2 h1
  have k2 : (k == 2) = false := beq_eq_false_iff_ne.2 h2
  have k3 : (k == 3) = false := beq_eq_false_iff_ne.2 h3
  have HX := Lib.hid (HF.out.trans ((if_neg h1).trans ((if_neg h2).trans (if_neg h3))))
  clear h1 h2 h3 HF
  go_wp2_with (first | (with_reducible refine lld hL ?_) | ((with_reducible first | refine lbx hL ?_ | refine lal hL ?_ | refine lbs hL ?_); clear hL; intro bl w1 hL) | ((with_reducible refine lst' hL ?_); clear hL; intro w1 hL))
  (try simp only [Exit.inBlock, Exit.then]); refine' ret1 rfl ?_ rfl ?_; (case refine'_2 => exact cRes)
  exact ⟨by rw [HX.out]; rfl, hL.below⟩
set_option maxRecDepth 100000 in
set_option maxHeartbeats 1600000 in
theorem rHeldOf_any (g : Gu) (l : List Int) (v : Vl) (site : Int) (w : World) (hl : IntsAt w g.s l) (hk : betw v.kind 0 3 = true) :
    Calls Tryz.prog 17 #[g.v, v.v, .int .i64 site] w fun e w' => e = .returned (.bool (held g l v site)) ∧ Below w.heap.size w w' := by
  obtain ⟨nl, ⟨sn, slo, shi⟩, tr, fa, t⟩ := g
  obtain ⟨k, n⟩ := v
  have HI := Lib.hid (fun w' hb => rHas_any t l site w' (hl.grow hb))
  have HS := Lib.hid (fun w' => rIn_any ⟨sn, slo, shi⟩ n w')
  have HF := Lib.hid (show held ⟨nl, ⟨sn, slo, shi⟩, tr, fa, t⟩ l ⟨k, n⟩ site = if k = 1 then inSpan ⟨sn, slo, shi⟩ n else if k = 2 then (n == 1 && tr || n == 0 && fa) else if k = 3 then hasI l site else nl from rfl)
  obtain ⟨tp, tn, tc⟩ := t
  have hk' : k = 0 ∨ k = 1 ∨ k = 2 ∨ k = 3 := by simp [betw] at hk; omega
  clear hl hk
  have hL := Loc.start w
  go_enter Tryz.func17, Tryz.ntmps17
  rcases hk' with rfl | rfl | rfl | rfl
  · have HX := Lib.hid (HF.out.trans ((if_neg (by decide)).trans ((if_neg (by decide)).trans (if_neg (by decide)))))
    clear HF
    go_wp2_with (first | (with_reducible refine lld hL ?_) | ((with_reducible first | refine lbx hL ?_ | refine lal hL ?_ | refine lbs hL ?_); clear hL; intro bl w1 hL) | ((with_reducible refine lst' hL ?_); clear hL; intro w1 hL))
    (try simp only [Exit.inBlock, Exit.then]); refine' ret1 rfl ?_ rfl ?_; (case refine'_2 => exact cRes)
    exact ⟨by rw [HX.out]; rfl, hL.below⟩
  · have HX := Lib.hid (HF.out.trans (if_pos rfl))
    clear HF
    go_wp2_with (first | (with_reducible refine lld hL ?_) | ((with_reducible first | refine lbx hL ?_ | refine lal hL ?_ | refine lbs hL ?_); clear hL; intro bl w1 hL) | ((with_reducible refine lst' hL ?_); clear hL; intro w1 hL) | (go_at_call 42; refine (HS.out _).mono ?_; rintro e w1 ⟨rfl, hb⟩; replace hL := hL.grow hb; clear hb; dsimp only))
    (try simp only [Exit.inBlock, Exit.then]); refine' ret1 rfl ?_ rfl ?_; (case refine'_2 => exact cRes)
    exact ⟨by rw [HX.out]; rfl, hL.below⟩
  · have HX := Lib.hid (HF.out.trans ((if_neg (by decide)).trans (if_pos rfl)))
    clear HF
    by_cases h1 : n = 1
    · subst h1
      go_wp2_with (first | (with_reducible refine lld hL ?_) | ((with_reducible first | refine lbx hL ?_ | refine lal hL ?_ | refine lbs hL ?_); clear hL; intro bl w1 hL) | ((with_reducible refine lst' hL ?_); clear hL; intro w1 hL))
      (try simp only [Exit.inBlock, Exit.then]); refine' ret1 rfl ?_ rfl ?_; (case refine'_2 => exact cRes)
      exact ⟨by rw [HX.out]; cases tr <;> cases fa <;> rfl, hL.below⟩
    · have k1 : (n == 1) = false := beq_eq_false_iff_ne.2 h1
      have H1 := Lib.hid k1
      clear h1
      go_upto_region 9 with (first | (with_reducible refine lld hL ?_) | ((with_reducible first | refine lbx hL ?_ | refine lal hL ?_ | refine lbs hL ?_); clear hL; intro bl w1 hL) | ((with_reducible refine lst' hL ?_); clear hL; intro w1 hL))
      refine seq_begin [27, 28, 29, 30, 31, 32, 33, 6] ?_
      apply draw_val
      · intro g w hb hdep; replace hL := hL.grow hb; clear hdep; simp only [fillD, fLa, fLb, sTa, sTb]
        go_wp2
        exact cY
      simp only [apN, apC]
      apply draw_val
      · intro g w hb hdep; replace hL := hL.grow hb; have d0 := yv hdep 0; clear hdep; simp only [fillD, fLa, fLb, sTa, sTb]; simp only [d0]
        go_wp2_with (first | (with_reducible refine lld hL ?_) | (with_reducible refine ldD hL ?_))
        exact cY
      simp only [apN, apC]
      apply draw_val
      · intro g w hb hdep; replace hL := hL.grow hb; have d1 := yv hdep 1; clear hdep; simp only [fillD, fLa, fLb, sTa, sTb]; simp only [d1]
        go_wp2
        exact cY
      simp only [apN, apC]
      apply draw_val
      · intro g w hb hdep; replace hL := hL.grow hb; have d2 := yv hdep 2; clear hdep; simp only [fillD, fLa, fLb, sTa, sTb]; simp only [d2]
        go_wp2
        exact cY
      simp only [apN, apC]
      refine' draw_guard (j := 3) rfl rfl rfl (by decide) (by simp) ?_ ?_; rotate_left
      · intro hcs; simp only [Bool.and_eq_true, beqT, beqF] at hcs; intro g w hb hdep; replace hL := hL.grow hb; clear hdep; simp only [fillD, fLa, fLb, sTa, sTb]
        go_wp2
        exact cY
      simp only [apN, apC]
      refine' draw_guard (j := 3) rfl rfl rfl (by decide) (by simp) ?_ ?_; rotate_left
      · intro hcs; simp only [Bool.and_eq_true, beqT, beqF] at hcs; intro g w hb hdep; replace hL := hL.grow hb; have d4 := yv hdep 4; simp only [hcs, beq_self_eq_true, Bool.and_self, Bool.true_and, Bool.and_true, cnd_true] at d4; clear hdep; simp only [fillD, fLa, fLb, sTa, sTb]; simp only [d4]
        go_wp2_with (first | (with_reducible refine lld hL ?_) | (with_reducible refine ldD hL ?_))
        exact cY
      simp only [apN, apC]
      apply draw_val
      · intro g w hb hdep; replace hL := hL.grow hb; have d3 := yv hdep 3; have d5 := yv hdep 5; clear hdep; simp only [fillD, fLa, fLb, sTa, sTb]; simp only [d3, d5]
        first | refine wp_pick_and rfl rfl ?_ | go_wp2
        exact cY
      simp only [apN, apC]
      apply draw_val
      · intro g w hb hdep; replace hL := hL.grow hb; have d6 := yv hdep 6; clear hdep; simp only [fillD, fLa, fLb, sTa, sTb]; simp only [d6]
        go_wp2
        exact cY
      simp only [apN, apC]
      refine seq_end hL (by kernel_rfl) ?_
      intro g w2 hb hR; simp only [List.length_cons, List.length_nil, Nat.reduceAdd] at hR
      have e0 := yv hR 0
      have e1 := yv hR 1
      have e2 := yv hR 2
      have e3 := yv hR 3
      have e4 := yv hR 4
      have e5 := yv hR 5
      have e6 := yv hR 6
      have e7 := yv hR 7
      clear hR; simp only [fillD, fLa, fLb, sTa, sTb]
      simp only [e0, e1, e2, e3, e4, e5, e6, e7]
      clear e0 e1 e2 e3 e4 e5 e6 e7
      replace hL := hL.grow hb
      clear hb
      go_wp2_with (first | (with_reducible refine lld hL ?_) | ((with_reducible first | refine lbx hL ?_ | refine lal hL ?_ | refine lbs hL ?_); clear hL; intro bl w1 hL) | ((with_reducible refine lst' hL ?_); clear hL; intro w1 hL))
      (try simp only [Exit.inBlock, Exit.then]); refine' ret1 rfl ?_ rfl ?_; (case refine'_2 => exact cRes)
      exact ⟨by rw [HX.out, H1.out]; simp, hL.below⟩
  · have HX := Lib.hid (HF.out.trans ((if_neg (by decide)).trans ((if_neg (by decide)).trans (if_pos rfl))))
    clear HF
    go_wp2_with (first | (with_reducible refine lld hL ?_) | ((with_reducible first | refine lbx hL ?_ | refine lal hL ?_ | refine lbs hL ?_); clear hL; intro bl w1 hL) | ((with_reducible refine lst' hL ?_); clear hL; intro w1 hL) | (go_at_call 27; refine (HI.out _ hL.below).mono ?_; rintro e w1 ⟨rfl, hb⟩; replace hL := hL.grow hb; clear hb; dsimp only))
    (try simp only [Exit.inBlock, Exit.then]); refine' ret1 rfl ?_ rfl ?_; (case refine'_2 => exact cRes)
    exact ⟨by rw [HX.out]; rfl, hL.below⟩
end Go.Proofs.YteimpfplgdhclaaGreat
