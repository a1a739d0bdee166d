/- The walk over the reference's DoGuess at 'same' and 'less'. Conditions: the sites lie in memory that was there. -/
import Derived.Test.YteimpfplgdhclaaGreatGuessL
set_option linter.unusedSimpArgs false
set_option linter.unusedVariables false
namespace Go.Proofs.YteimpfplgdhclaaGreat
open Go.RowKit

set_option maxRecDepth 100000 in
set_option maxHeartbeats 4000000 in
theorem rdo_less (g h : Gu) (w : World) (hz : emptyG g = false) (hz2 : emptyG h = false) :
    Calls Tryz.prog 7 #[.int .i64 8, g.v, h.v] w fun e w' => e = .returned (.tuple #[(twoG 8 g h).v, .bool (otherG g || otherG h)]) ∧ Below w.heap.size w w' := by
  have HE1 := Lib.hid (fun w' => rIsNothing_any g w')
  have HE2 := Lib.hid (fun w' => rIsNothing_any h w')
  rw [hz] at HE1
  rw [hz2] at HE2
  have HO1 := Lib.hid (fun w' => rNoNumber_any g w')
  have HO2 := Lib.hid (fun w' => rNoNumber_any h w')
  clear hz hz2
  generalize otherG g = og at HO1 ⊢
  generalize otherG h = oh at HO2 ⊢
  unfold twoG
  obtain ⟨gl, ⟨gn, glo, ghi⟩, gt, gf, ⟨gp, gk, gc⟩⟩ := g
  obtain ⟨hl', ⟨hn, hlo, hhi⟩, ht, hf, ⟨hp, hk, hc⟩⟩ := h
  dsimp only
  generalize ha : decide (glo < hhi) = a
  generalize hb : decide (hlo ≤ ghi) = b
  have HA := Lib.hid ha
  have HB := Lib.hid hb
  clear ha hb
  cases gn <;> cases hn
  all_goals
    have hL := Loc.start w
    go_enter Tryz.func7, Tryz.ntmps7
    go_upto_region 24 with (first | (with_reducible refine lld hL ?_) | ((with_reducible first | refine lbx hL ?_ | refine lal hL ?_ | refine lbs hL ?_); clear hL; intro bl w1 hL) | ((with_reducible refine lst' hL ?_); clear hL; intro w1 hL) | (go_at_call 26; (with_reducible refine (HE1.out _).mono ?_); rintro e w1 ⟨rfl, hb⟩; replace hL := hL.grow hb; clear hb; dsimp only) | (go_at_call 26; (with_reducible refine (HE2.out _).mono ?_); rintro e w1 ⟨rfl, hb⟩; replace hL := hL.grow hb; clear hb; dsimp only) | (go_at_call 25; refine (rNothing_any _).mono ?_; rintro e w1 ⟨rfl, hb⟩; replace hL := hL.grow hb; clear hb; dsimp only))
    refine draw_begin [147, 148, 149, 150, 151, 152, 153] ?_
    apply draw_val
    · intro g w hb hdep; replace hL := hL.grow hb; clear hdep; simp only [fillD, fLa, fLb, sTa, sTb]
      go_wp2_with (first | (with_reducible refine lld hL ?_) | (with_reducible refine ldD hL ?_))
      exact cY
    simp only [apN, apC]
    apply draw_val
    · intro g w hb hdep; replace hL := hL.grow hb; clear hdep; simp only [fillD, fLa, fLb, sTa, sTb]
      go_wp2_with (first | (with_reducible refine lld hL ?_) | (with_reducible refine ldD hL ?_))
      exact cY
    simp only [apN, apC]
    apply draw_val
    · intro g w hb hdep; replace hL := hL.grow hb; have d1 := yv hdep 1; clear hdep; simp only [fillD, fLa, fLb, sTa, sTb]; simp only [d1]
      go_wp2_with (go_at_call 30; (with_reducible refine (HO1.out _).mono ?_); rintro e w3 ⟨rfl, hb3⟩; dsimp only)
      exact ⟨rfl, _, rfl, (by assumption), rfl⟩
    simp only [apN, apC]
    apply draw_val
    · intro g w hb hdep; replace hL := hL.grow hb; have d2 := yv hdep 2; clear hdep; simp only [fillD, fLa, fLb, sTa, sTb]; simp only [d2]
      go_wp2
      exact cY
    simp only [apN, apC]
    refine' draw_guard (j := 3) rfl rfl rfl (by decide) (by simp) ?_ ?_; rotate_left
    · intro hcs; simp only [Bool.and_eq_true, beqT, beqF] at hcs; intro g w hb hdep; replace hL := hL.grow hb; clear hdep; simp only [fillD, fLa, fLb, sTa, sTb]
      go_wp2_with (first | (with_reducible refine lld hL ?_) | (with_reducible refine ldD hL ?_))
      exact cY
    simp only [apN, apC]
    refine' draw_guard (j := 3) rfl rfl rfl (by decide) (by simp) ?_ ?_; rotate_left
    · intro hcs; simp only [Bool.and_eq_true, beqT, beqF] at hcs; intro g w hb hdep; replace hL := hL.grow hb; have d4 := yv hdep 4; simp only [hcs, beq_self_eq_true, Bool.and_self, Bool.true_and, Bool.and_true, cnd_true] at d4; clear hdep; simp only [fillD, fLa, fLb, sTa, sTb]; simp only [d4]
      go_wp2_with (go_at_call 30; (with_reducible refine (HO2.out _).mono ?_); rintro e w3 ⟨rfl, hb3⟩; dsimp only)
      exact ⟨rfl, _, rfl, (by assumption), rfl⟩
    simp only [apN, apC]
    apply draw_val
    · intro g w hb hdep; replace hL := hL.grow hb; have d3 := yv hdep 3; have d5 := yv hdep 5; clear hdep; simp only [fillD, fLa, fLb, sTa, sTb]; simp only [d3, d5]
      first | refine wp_pick_or rfl rfl ?_ | go_wp2
      exact cY
    simp only [apN, apC]
    refine draw_end1 6 hL (by kernel_rfl) (by kernel_rfl) (fun _ _ _ _ _ h => h) ?_ ?_
    · (refine late_ok rfl rfl ?_; intro g w hb hdep; (try simp [depsOf, List.filter_cons, Region.binds, AllR, RAt] at hdep); simp only [fillD, List.foldl_cons, List.foldl_nil, List.set_cons_succ, List.set_cons_zero]; (try simp only [hdep]); exact ⟨_, .inl ⟨rfl, fun w => (by go_simp <;> (try (split <;> (rename_i hs; simp [hs, cnd]))))⟩, rfl⟩)
    intro g w2 hb hR; simp only [List.length_cons, List.length_nil, Nat.reduceAdd] at hR
    have e0 := yv hR 0
    have e1 := yv hR 1
    have e2 := yv hR 2
    have e3 := yv hR 3
    have e4 := yv hR 4
    have e5 := yv hR 5
    have e6 := yv hR 6
    clear hR; simp only [fillD, fLa, fLb, sTa, sTb]
    simp only [e0, e1, e2, e3, e4, e5, e6]
    clear e0 e1 e2 e3 e4 e5 e6
    replace hL := hL.grow hb
    clear hb
    go_wp2_with (first | (with_reducible refine lld hL ?_) | ((with_reducible first | refine lbx hL ?_ | refine lal hL ?_ | refine lbs hL ?_); clear hL; intro bl w1 hL) | ((with_reducible refine lst' hL ?_); clear hL; intro w1 hL))
    (try simp only [Exit.inBlock, Exit.then]); refine' ret2 rfl ?_ ?_ rfl ?_; (case refine'_3 => exact cRes); (case refine'_4 => exact cRes)
    first
    | exact ⟨rfl, hL.below⟩
    | exact ⟨by rw [← HA.out, ← HB.out]; rfl, hL.below⟩

set_option maxRecDepth 100000 in
set_option maxHeartbeats 4000000 in
theorem rdo_same (g h : Gu) (l m : List Int) (w : World) (hl : IntsAt w g.s l) (hm : IntsAt w h.s m) (hz : emptyG g = false) (hz2 : emptyG h = false) :
    Calls Tryz.prog 7 #[.int .i64 9, g.v, h.v] w fun e w' => e = .returned (.tuple #[Gu.v ⟨false, noSpan, maySame g h l m, rNotSame g h, nilSl⟩, .bool false]) ∧ Below w.heap.size w w' := by
  have HE1 := Lib.hid (fun w' => rIsNothing_any g w')
  have HE2 := Lib.hid (fun w' => rIsNothing_any h w')
  rw [hz] at HE1
  rw [hz2] at HE2
  have HS1 := Lib.hid (fun w' => rSingle_any g w')
  have HS2 := Lib.hid (fun w' => rSingle_any h w')
  have HM := Lib.hid (fun w' => rMeet_any g.span h.span w')
  have HF := Lib.hid (show maySame g h l m = (commonI l m || g.null && h.null || g.tr && h.tr || g.fa && h.fa || !(common g.span h.span).none) from rfl)
  have HN := Lib.hid (show rNotSame g h = (decide (singleG g < 0) || singleG g != singleG h || !(g.span.none == h.span.none && g.span.lo == h.span.lo && g.span.hi == h.span.hi)) from rfl)
  clear hz hz2
  generalize singleG g = s1 at HS1 HN
  generalize singleG h = s2 at HS2 HN
  generalize hms : maySame g h l m = ms at HF ⊢
  generalize hns : rNotSame g h = ns at HN ⊢
  clear hms hns
  obtain ⟨b, o, hpp, hcc⟩ := hl.reads tInt
  have hnn := hl.n
  have hm64 := hl.m
  have HI := Lib.hid (fun x w' (hb : Below w.heap.size w w') => rHas_any h.s m x w' (hm.grow hb))
  obtain ⟨gl, ⟨gn, glo, ghi⟩, gt, gf, ⟨gp, gk, gc⟩⟩ := g
  obtain ⟨hl', ⟨hn, hlo, hhi⟩, ht, hf, ⟨hp, hk, hc⟩⟩ := h
  dsimp only at hnn hpp hcc hm64 HF HN HM
  subst hnn
  have HP := Lib.hid hpp
  have HC := Lib.hid hcc
  clear hl hm hpp hcc
  generalize common ⟨gn, glo, ghi⟩ ⟨hn, hlo, hhi⟩ = cs at HF HM
  obtain ⟨cn, clo, chi⟩ := cs
  have HQ0 := Lib.hid (show commonI l m = anyN (fun k => hasI m (l.getD k 0)) l.length from rfl)
  have hL := Loc.start w
  go_enter Tryz.func7, Tryz.ntmps7
  go_step
  go_step
  go_step
  ((with_reducible refine lbx hL ?_); clear hL; intro b4 w1 hL)
  ((with_reducible refine lbx hL ?_); clear hL; intro b5 w1 hL)
  ((with_reducible refine lal hL ?_); clear hL; intro b6 w1 hL)
  go_upto_region 1 with (first | (with_reducible refine lld hL ?_) | ((with_reducible first | refine lbx hL ?_ | refine lal hL ?_ | refine lbs hL ?_); clear hL; intro bl w1 hL) | ((with_reducible refine lst' hL ?_); clear hL; intro w1 hL))
  go_upto_region 2 with (first | ((with_reducible refine lal hL ?_); clear hL; intro b8 w1 hL) | (with_reducible refine lld hL ?_) | ((with_reducible first | refine lbx hL ?_ | refine lal hL ?_ | refine lbs hL ?_); clear hL; intro bl w1 hL) | ((with_reducible refine lst' hL ?_); clear hL; intro w1 hL) | (go_at_call 25; refine (rNothing_any _).mono ?_; rintro e w1 ⟨rfl, hb⟩; replace hL := hL.grow hb; clear hb; dsimp only))
  go_wp2_with (first | (with_reducible refine lld hL ?_) | ((with_reducible first | refine lbx hL ?_ | refine lal hL ?_ | refine lbs hL ?_); clear hL; intro bl w1 hL) | ((with_reducible refine lst' hL ?_); clear hL; intro w1 hL) | (go_at_call 26; (with_reducible refine (HE1.out _).mono ?_); rintro e w1 ⟨rfl, hb⟩; replace hL := hL.grow hb; clear hb; dsimp only) | (go_at_call 26; (with_reducible refine (HE2.out _).mono ?_); rintro e w1 ⟨rfl, hb⟩; replace hL := hL.grow hb; clear hb; dsimp only))
  go_loopw [11, 12] (fun c d wr => ∃ k : Nat, k ≤ l.length ∧ c = .bool (anyN (fun k => hasI m (l.getD k 0)) k) ∧ d = .int .i64 k ∧ Loc w wr [(b8, 29, [.bool false, .bool true, .int .i64 0, .int .i64 0, .bool false, .bool false, .slice none 0 0]), (b6, 29, [.bool false, .bool false, .int .i64 0, .int .i64 0, .bool false, .bool false, .slice none 0 0]), (b5, 29, [.bool hl', .bool hn, .int .i64 hlo, .int .i64 hhi, .bool ht, .bool hf, .slice hp hk hc]), (b4, 29, [.bool gl, .bool gn, .int .i64 glo, .int .i64 ghi, .bool gt, .bool gf, .slice gp l.length gc])] []) (fun _ d _ => l.length - (intOf d).toNat)
  case atStart => exact ⟨0, Nat.zero_le _, rfl, rfl, hL⟩
  case round =>
    obtain ⟨k, hk, rfl, rfl, hL⟩ := hrel
    by_cases hlt : k < l.length
    · have HP2 := Lib.hid (HP.out (by omega))
      have hr := HC.out k hlt
      have hs := anyN_succ (fun k => hasI m (l.getD k 0)) k
      try dsimp only at hs
      generalize anyN (fun k => hasI m (l.getD k 0)) k = x at hs ⊢
      generalize l.getD k 0 = y at hr hs
      generalize hz : hasI m y = z at hs
      have HZ := Lib.hid (fun w' (hb : Below w.heap.size w w') => hz ▸ HI.out y w' hb)
      have HS := Lib.hid hs
      have HR1 := Lib.hid hr
      clear hr hs hz
      go_upto_region 16 with (first | (with_reducible refine lld hL ?_) | ((with_reducible first | refine lbx hL ?_ | refine lal hL ?_ | refine lbs hL ?_); clear hL; intro bl w1 hL) | ((with_reducible refine lst' hL ?_); clear hL; intro w1 hL))
      refine draw_begin [54, 55, 56, 57, 58, 59, 60, 61, 62, 63, 64, 11] ?_
      refine' draw_valU [(11, 11)] 0 rfl (by kernel_rfl) ?_ ?_; rotate_left
      · intro g w hb hdep hun; replace hL := hL.grow hb; simp [AllU] at hun; clear hdep; simp only [fillD, fLa, fLb, sTa, sTb]; simp only [hun]
        go_wp2
        exact cY
      simp only [apN, apC]
      apply draw_val
      · intro g w hb hdep; replace hL := hL.grow hb; have d0 := yv hdep 0; clear hdep; simp only [fillD, fLa, fLb, sTa, sTb]; simp only [d0]
        go_wp2
        exact cY
      simp only [apN, apC]
      refine' draw_guard (j := 1) rfl rfl rfl (by decide) (by simp) ?_ ?_; rotate_left
      · intro hcs; simp only [Bool.and_eq_true, beqT, beqF] at hcs; intro g w hb hdep; replace hL := hL.grow hb; clear hdep; simp only [fillD, fLa, fLb, sTa, sTb]
        go_wp2
        exact cY
      simp only [apN, apC]
      refine' draw_guard (j := 1) rfl rfl rfl (by decide) (by simp) ?_ ?_; rotate_left
      · intro hcs; simp only [Bool.and_eq_true, beqT, beqF] at hcs; intro g w hb hdep; replace hL := hL.grow hb; have d2 := yv hdep 2; simp only [hcs, beq_self_eq_true, Bool.and_self, Bool.true_and, Bool.and_true, cnd_true] at d2; clear hdep; simp only [fillD, fLa, fLb, sTa, sTb]; simp only [d2]
        go_wp2_with (first | (with_reducible refine lld hL ?_) | (with_reducible refine ldD hL ?_))
        exact cY
      simp only [apN, apC]
      refine' draw_guard (j := 1) rfl rfl rfl (by decide) (by simp) ?_ ?_; rotate_left
      · intro hcs; simp only [Bool.and_eq_true, beqT, beqF] at hcs; intro g w hb hdep; replace hL := hL.grow hb; clear hdep; simp only [fillD, fLa, fLb, sTa, sTb]
        go_wp2
        exact cY
      simp only [apN, apC]
      refine' draw_guard (j := 1) rfl rfl rfl (by decide) (by simp) ?_ ?_; rotate_left
      · intro hcs; simp only [Bool.and_eq_true, beqT, beqF] at hcs; intro g w hb hdep; replace hL := hL.grow hb; have d4 := yv hdep 4; simp only [hcs, beq_self_eq_true, Bool.and_self, Bool.true_and, Bool.and_true, cnd_true] at d4; clear hdep; simp only [fillD, fLa, fLb, sTa, sTb]; simp only [d4]
        go_wp2_with (first | (with_reducible refine lld hL ?_) | (with_reducible refine ldD hL ?_))
        exact cY
      simp only [apN, apC]
      refine' draw_guard (j := 1) rfl rfl rfl (by decide) (by simp) ?_ ?_; rotate_left
      · intro hcs; simp only [Bool.and_eq_true, beqT, beqF] at hcs; intro g w hb hdep; replace hL := hL.grow hb; clear hdep; simp only [fillD, fLa, fLb, sTa, sTb]
        go_wp2
        exact cY
      simp only [apN, apC]
      refine' draw_guard (j := 1) rfl rfl rfl (by decide) (by simp) ?_ ?_; rotate_left
      · intro hcs; simp only [Bool.and_eq_true, beqT, beqF] at hcs; intro g w hb hdep; replace hL := hL.grow hb; have d5 := yv hdep 5; simp only [hcs, beq_self_eq_true, Bool.and_self, Bool.true_and, Bool.and_true, cnd_true] at d5; have d6 := yv hdep 6; simp only [hcs, beq_self_eq_true, Bool.and_self, Bool.true_and, Bool.and_true, cnd_true] at d6; clear hdep; simp only [fillD, fLa, fLb, sTa, sTb]; simp only [d5, d6]
        (simp only [HP2.out]; go_wp2)
        exact cY
      simp only [apN, apC]
      refine' draw_guard (j := 1) rfl rfl rfl (by decide) (by simp) ?_ ?_; rotate_left
      · intro hcs; simp only [Bool.and_eq_true, beqT, beqF] at hcs; intro g w hb hdep; replace hL := hL.grow hb; have d7 := yv hdep 7; simp only [hcs, beq_self_eq_true, Bool.and_self, Bool.true_and, Bool.and_true, cnd_true] at d7; clear hdep; simp only [fillD, fLa, fLb, sTa, sTb]; simp only [d7]
        refine loc_loadB HR1.out hL rfl rfl ?_
        exact cY
      simp only [apN, apC]
      refine' draw_guard (j := 1) rfl rfl rfl (by decide) (by simp) ?_ ?_; rotate_left
      · intro hcs; simp only [Bool.and_eq_true, beqT, beqF] at hcs; intro g w hb hdep; replace hL := hL.grow hb; have d3 := yv hdep 3; simp only [hcs, beq_self_eq_true, Bool.and_self, Bool.true_and, Bool.and_true, cnd_true] at d3; have d8 := yv hdep 8; simp only [hcs, beq_self_eq_true, Bool.and_self, Bool.true_and, Bool.and_true, cnd_true] at d8; clear hdep; simp only [fillD, fLa, fLb, sTa, sTb]; simp only [d3, d8]
        go_wp2_with (go_at_call 27; refine (HZ.out _ hL.below).mono ?_; rintro e w3 ⟨rfl, hb3⟩; dsimp only)
        exact ⟨rfl, _, rfl, hb3, rfl⟩
      simp only [apN, apC]
      apply draw_val
      · intro g w hb hdep; replace hL := hL.grow hb; have d1 := yv hdep 1; have d9 := yv hdep 9; clear hdep; simp only [fillD, fLa, fLb, sTa, sTb]; simp only [d1, d9]
        first | refine wp_pick_or rfl rfl ?_ | go_wp2
        exact cY
      simp only [apN, apC]
      apply draw_val
      · intro g w hb hdep; replace hL := hL.grow hb; have d10 := yv hdep 10; clear hdep; simp only [fillD, fLa, fLb, sTa, sTb]; simp only [d10]
        go_wp2
        exact cY
      simp only [apN, apC]
      refine draw_end hL (by kernel_rfl) (by kernel_rfl) ?_
      intro g w2 hb hR; simp only [List.length_cons, List.length_nil, Nat.reduceAdd] at hR
      have e0 := yv hR 0
      have e1 := yv hR 1
      have e2 := yv hR 2
      have e3 := yv hR 3
      have e4 := yv hR 4
      have e5 := yv hR 5
      have e6 := yv hR 6
      have e7 := yv hR 7
      have e8 := yv hR 8
      have e9 := yv hR 9
      have e10 := yv hR 10
      have e11 := yv hR 11
      clear hR; simp only [fillD, fLa, fLb, sTa, sTb]
      simp only [e0, e1, e2, e3, e4, e5, e6, e7, e8, e9, e10, e11]
      clear e0 e1 e2 e3 e4 e5 e6 e7 e8 e9 e10 e11
      replace hL := hL.grow hb
      clear hb
      simp only [beq_true, beq_false, Bool.not_and, Bool.not_or, Bool.not_not]
      generalize (x || z) = y2 at HS ⊢
      go_wp2_with (first | (with_reducible refine lld hL ?_) | ((with_reducible first | refine lbx hL ?_ | refine lal hL ?_ | refine lbs hL ?_); clear hL; intro bl w1 hL) | ((with_reducible refine lst' hL ?_); clear hL; intro w1 hL))
      go_roundw
      case rel => exact ⟨k + 1, by omega, by rw [HS.out], by go_num, hL⟩
      case measure => simp [intOf]; omega
    · obtain rfl : k = l.length := by omega
      rw [← HQ0.out]
      generalize commonI l m = co at HF ⊢
      clear HQ0 HP HC HI
      go_upto_region 17 with (first | (with_reducible refine lld hL ?_) | ((with_reducible first | refine lbx hL ?_ | refine lal hL ?_ | refine lbs hL ?_); clear hL; intro bl w1 hL) | ((with_reducible refine lst' hL ?_); clear hL; intro w1 hL))
      refine seq_begin [65, 66, 67, 68, 69, 70, 71, 72, 73, 74, 75, 76, 77, 78, 79, 80, 81, 82, 83, 84, 85, 86, 87, 88, 89, 90, 91, 92, 93, 94, 95, 96, 97, 98, 99] ?_
      apply draw_val
      · intro g w hb hdep; replace hL := hL.grow hb; clear hdep; simp only [fillD, fLa, fLb, sTa, sTb]
        go_wp2
        exact cY
      simp only [apN, apC]
      apply draw_val
      · intro g w hb hdep; replace hL := hL.grow hb; have d0 := yv hdep 0; clear hdep; simp only [fillD, fLa, fLb, sTa, sTb]; simp only [d0]
        go_wp2
        exact cY
      simp only [apN, apC]
      refine' draw_guard (j := 1) rfl rfl rfl (by decide) (by simp) ?_ ?_; rotate_left
      · intro hcs; simp only [Bool.and_eq_true, beqT, beqF] at hcs; intro g w hb hdep; replace hL := hL.grow hb; clear hdep; simp only [fillD, fLa, fLb, sTa, sTb]
        go_wp2
        exact cY
      simp only [apN, apC]
      refine' draw_guard (j := 1) rfl rfl rfl (by decide) (by simp) ?_ ?_; rotate_left
      · intro hcs; simp only [Bool.and_eq_true, beqT, beqF] at hcs; intro g w hb hdep; replace hL := hL.grow hb; have d2 := yv hdep 2; simp only [hcs, beq_self_eq_true, Bool.and_self, Bool.true_and, Bool.and_true, cnd_true] at d2; clear hdep; simp only [fillD, fLa, fLb, sTa, sTb]; simp only [d2]
        go_wp2_with (first | (with_reducible refine lld hL ?_) | (with_reducible refine ldD hL ?_))
        exact cY
      simp only [apN, apC]
      refine' draw_guard (j := 1) rfl rfl rfl (by decide) (by simp) ?_ ?_; rotate_left
      · intro hcs; simp only [Bool.and_eq_true, beqT, beqF] at hcs; intro g w hb hdep; replace hL := hL.grow hb; have d3 := yv hdep 3; simp only [hcs, beq_self_eq_true, Bool.and_self, Bool.true_and, Bool.and_true, cnd_true] at d3; clear hdep; simp only [fillD, fLa, fLb, sTa, sTb]; simp only [d3]
        go_wp2
        exact cY
      simp only [apN, apC]
      refine' draw_guardC (j := 4) rfl rfl rfl (by decide) (by simp) ?_ ?_; rotate_left
      · intro hcs; simp only [Bool.and_eq_true, beqT, beqF] at hcs; intro g w hb hdep; replace hL := hL.grow hb; clear hdep; simp only [fillD, fLa, fLb, sTa, sTb]
        go_wp2
        exact cY
      simp only [apN, apC]
      refine' draw_guardC (j := 4) rfl rfl rfl (by decide) (by simp) ?_ ?_; rotate_left
      · intro hcs; simp only [Bool.and_eq_true, beqT, beqF] at hcs; intro g w hb hdep; replace hL := hL.grow hb; have d5 := yv hdep 5; simp only [hcs, beq_self_eq_true, Bool.and_self, Bool.true_and, Bool.and_true, cnd_true] at d5; clear hdep; simp only [fillD, fLa, fLb, sTa, sTb]; simp only [d5]
        go_wp2_with (first | (with_reducible refine lld hL ?_) | (with_reducible refine ldD hL ?_))
        exact cY
      simp only [apN, apC]
      refine' draw_guard (j := 1) rfl rfl rfl (by decide) (by simp) ?_ ?_; rotate_left
      · intro hcs; simp only [Bool.and_eq_true, beqT, beqF] at hcs; intro g w hb hdep; replace hL := hL.grow hb; have d4 := yv hdep 4; simp only [hcs, beq_self_eq_true, Bool.and_self, Bool.true_and, Bool.and_true, cnd_true] at d4; have d6 := yv hdep 6; simp only [hcs, beq_self_eq_true, Bool.and_self, Bool.true_and, Bool.and_true, cnd_true] at d6; clear hdep; simp only [fillD, fLa, fLb, sTa, sTb]; simp only [d4, d6]
        first | refine wp_pick_and rfl rfl ?_ | go_wp2
        exact cY
      simp only [apN, apC]
      apply draw_val
      · intro g w hb hdep; replace hL := hL.grow hb; have d1 := yv hdep 1; have d7 := yv hdep 7; clear hdep; simp only [fillD, fLa, fLb, sTa, sTb]; simp only [d1, d7]
        first | refine wp_pick_or rfl rfl ?_ | go_wp2
        exact cY
      simp only [apN, apC]
      apply draw_val
      · intro g w hb hdep; replace hL := hL.grow hb; have d8 := yv hdep 8; clear hdep; simp only [fillD, fLa, fLb, sTa, sTb]; simp only [d8]
        go_wp2
        exact cY
      simp only [apN, apC]
      refine' draw_guard (j := 9) rfl rfl rfl (by decide) (by simp) ?_ ?_; rotate_left
      · intro hcs; simp only [Bool.and_eq_true, beqT, beqF] at hcs; intro g w hb hdep; replace hL := hL.grow hb; clear hdep; simp only [fillD, fLa, fLb, sTa, sTb]
        go_wp2
        exact cY
      simp only [apN, apC]
      refine' draw_guard (j := 9) rfl rfl rfl (by decide) (by simp) ?_ ?_; rotate_left
      · intro hcs; simp only [Bool.and_eq_true, beqT, beqF] at hcs; intro g w hb hdep; replace hL := hL.grow hb; have d10 := yv hdep 10; simp only [hcs, beq_self_eq_true, Bool.and_self, Bool.true_and, Bool.and_true, cnd_true] at d10; clear hdep; simp only [fillD, fLa, fLb, sTa, sTb]; simp only [d10]
        go_wp2_with (first | (with_reducible refine lld hL ?_) | (with_reducible refine ldD hL ?_))
        exact cY
      simp only [apN, apC]
      refine' draw_guard (j := 9) rfl rfl rfl (by decide) (by simp) ?_ ?_; rotate_left
      · intro hcs; simp only [Bool.and_eq_true, beqT, beqF] at hcs; intro g w hb hdep; replace hL := hL.grow hb; have d11 := yv hdep 11; simp only [hcs, beq_self_eq_true, Bool.and_self, Bool.true_and, Bool.and_true, cnd_true] at d11; clear hdep; simp only [fillD, fLa, fLb, sTa, sTb]; simp only [d11]
        go_wp2
        exact cY
      simp only [apN, apC]
      refine' draw_guardC (j := 12) rfl rfl rfl (by decide) (by simp) ?_ ?_; rotate_left
      · intro hcs; simp only [Bool.and_eq_true, beqT, beqF] at hcs; intro g w hb hdep; replace hL := hL.grow hb; clear hdep; simp only [fillD, fLa, fLb, sTa, sTb]
        go_wp2
        exact cY
      simp only [apN, apC]
      refine' draw_guardC (j := 12) rfl rfl rfl (by decide) (by simp) ?_ ?_; rotate_left
      · intro hcs; simp only [Bool.and_eq_true, beqT, beqF] at hcs; intro g w hb hdep; replace hL := hL.grow hb; have d13 := yv hdep 13; simp only [hcs, beq_self_eq_true, Bool.and_self, Bool.true_and, Bool.and_true, cnd_true] at d13; clear hdep; simp only [fillD, fLa, fLb, sTa, sTb]; simp only [d13]
        go_wp2_with (first | (with_reducible refine lld hL ?_) | (with_reducible refine ldD hL ?_))
        exact cY
      simp only [apN, apC]
      refine' draw_guard (j := 9) rfl rfl rfl (by decide) (by simp) ?_ ?_; rotate_left
      · intro hcs; simp only [Bool.and_eq_true, beqT, beqF] at hcs; intro g w hb hdep; replace hL := hL.grow hb; have d12 := yv hdep 12; simp only [hcs, beq_self_eq_true, Bool.and_self, Bool.true_and, Bool.and_true, cnd_true] at d12; have d14 := yv hdep 14; simp only [hcs, beq_self_eq_true, Bool.and_self, Bool.true_and, Bool.and_true, cnd_true] at d14; clear hdep; simp only [fillD, fLa, fLb, sTa, sTb]; simp only [d12, d14]
        first | refine wp_pick_and rfl rfl ?_ | go_wp2
        exact cY
      simp only [apN, apC]
      apply draw_val
      · intro g w hb hdep; replace hL := hL.grow hb; have d9 := yv hdep 9; have d15 := yv hdep 15; clear hdep; simp only [fillD, fLa, fLb, sTa, sTb]; simp only [d9, d15]
        first | refine wp_pick_or rfl rfl ?_ | go_wp2
        exact cY
      simp only [apN, apC]
      apply draw_val
      · intro g w hb hdep; replace hL := hL.grow hb; have d16 := yv hdep 16; clear hdep; simp only [fillD, fLa, fLb, sTa, sTb]; simp only [d16]
        go_wp2
        exact cY
      simp only [apN, apC]
      refine' draw_guard (j := 17) rfl rfl rfl (by decide) (by simp) ?_ ?_; rotate_left
      · intro hcs; simp only [Bool.and_eq_true, beqT, beqF] at hcs; intro g w hb hdep; replace hL := hL.grow hb; clear hdep; simp only [fillD, fLa, fLb, sTa, sTb]
        go_wp2
        exact cY
      simp only [apN, apC]
      refine' draw_guard (j := 17) rfl rfl rfl (by decide) (by simp) ?_ ?_; rotate_left
      · intro hcs; simp only [Bool.and_eq_true, beqT, beqF] at hcs; intro g w hb hdep; replace hL := hL.grow hb; have d18 := yv hdep 18; simp only [hcs, beq_self_eq_true, Bool.and_self, Bool.true_and, Bool.and_true, cnd_true] at d18; clear hdep; simp only [fillD, fLa, fLb, sTa, sTb]; simp only [d18]
        go_wp2_with (first | (with_reducible refine lld hL ?_) | (with_reducible refine ldD hL ?_))
        exact cY
      simp only [apN, apC]
      refine' draw_guard (j := 17) rfl rfl rfl (by decide) (by simp) ?_ ?_; rotate_left
      · intro hcs; simp only [Bool.and_eq_true, beqT, beqF] at hcs; intro g w hb hdep; replace hL := hL.grow hb; have d19 := yv hdep 19; simp only [hcs, beq_self_eq_true, Bool.and_self, Bool.true_and, Bool.and_true, cnd_true] at d19; clear hdep; simp only [fillD, fLa, fLb, sTa, sTb]; simp only [d19]
        go_wp2
        exact cY
      simp only [apN, apC]
      refine' draw_guardC (j := 20) rfl rfl rfl (by decide) (by simp) ?_ ?_; rotate_left
      · intro hcs; simp only [Bool.and_eq_true, beqT, beqF] at hcs; intro g w hb hdep; replace hL := hL.grow hb; clear hdep; simp only [fillD, fLa, fLb, sTa, sTb]
        go_wp2
        exact cY
      simp only [apN, apC]
      refine' draw_guardC (j := 20) rfl rfl rfl (by decide) (by simp) ?_ ?_; rotate_left
      · intro hcs; simp only [Bool.and_eq_true, beqT, beqF] at hcs; intro g w hb hdep; replace hL := hL.grow hb; have d21 := yv hdep 21; simp only [hcs, beq_self_eq_true, Bool.and_self, Bool.true_and, Bool.and_true, cnd_true] at d21; clear hdep; simp only [fillD, fLa, fLb, sTa, sTb]; simp only [d21]
        go_wp2_with (first | (with_reducible refine lld hL ?_) | (with_reducible refine ldD hL ?_))
        exact cY
      simp only [apN, apC]
      refine' draw_guard (j := 17) rfl rfl rfl (by decide) (by simp) ?_ ?_; rotate_left
      · intro hcs; simp only [Bool.and_eq_true, beqT, beqF] at hcs; intro g w hb hdep; replace hL := hL.grow hb; have d20 := yv hdep 20; simp only [hcs, beq_self_eq_true, Bool.and_self, Bool.true_and, Bool.and_true, cnd_true] at d20; have d22 := yv hdep 22; simp only [hcs, beq_self_eq_true, Bool.and_self, Bool.true_and, Bool.and_true, cnd_true] at d22; clear hdep; simp only [fillD, fLa, fLb, sTa, sTb]; simp only [d20, d22]
        first | refine wp_pick_and rfl rfl ?_ | go_wp2
        exact cY
      simp only [apN, apC]
      apply draw_val
      · intro g w hb hdep; replace hL := hL.grow hb; have d17 := yv hdep 17; have d23 := yv hdep 23; clear hdep; simp only [fillD, fLa, fLb, sTa, sTb]; simp only [d17, d23]
        first | refine wp_pick_or rfl rfl ?_ | go_wp2
        exact cY
      simp only [apN, apC]
      apply draw_val
      · intro g w hb hdep; replace hL := hL.grow hb; have d24 := yv hdep 24; clear hdep; simp only [fillD, fLa, fLb, sTa, sTb]; simp only [d24]
        go_wp2
        exact cY
      simp only [apN, apC]
      refine' draw_guard (j := 25) rfl rfl rfl (by decide) (by simp) ?_ ?_; rotate_left
      · intro hcs; simp only [Bool.and_eq_true, beqT, beqF] at hcs; intro g w hb hdep; replace hL := hL.grow hb; clear hdep; simp only [fillD, fLa, fLb, sTa, sTb]
        go_wp2
        exact cY
      simp only [apN, apC]
      refine' draw_guard (j := 25) rfl rfl rfl (by decide) (by simp) ?_ ?_; rotate_left
      · intro hcs; simp only [Bool.and_eq_true, beqT, beqF] at hcs; intro g w hb hdep; replace hL := hL.grow hb; have d26 := yv hdep 26; simp only [hcs, beq_self_eq_true, Bool.and_self, Bool.true_and, Bool.and_true, cnd_true] at d26; clear hdep; simp only [fillD, fLa, fLb, sTa, sTb]; simp only [d26]
        go_wp2_with (first | (with_reducible refine lld hL ?_) | (with_reducible refine ldD hL ?_))
        exact cY
      simp only [apN, apC]
      refine' draw_guard (j := 25) rfl rfl rfl (by decide) (by simp) ?_ ?_; rotate_left
      · intro hcs; simp only [Bool.and_eq_true, beqT, beqF] at hcs; intro g w hb hdep; replace hL := hL.grow hb; clear hdep; simp only [fillD, fLa, fLb, sTa, sTb]
        go_wp2
        exact cY
      simp only [apN, apC]
      refine' draw_guard (j := 25) rfl rfl rfl (by decide) (by simp) ?_ ?_; rotate_left
      · intro hcs; simp only [Bool.and_eq_true, beqT, beqF] at hcs; intro g w hb hdep; replace hL := hL.grow hb; have d28 := yv hdep 28; simp only [hcs, beq_self_eq_true, Bool.and_self, Bool.true_and, Bool.and_true, cnd_true] at d28; clear hdep; simp only [fillD, fLa, fLb, sTa, sTb]; simp only [d28]
        go_wp2_with (first | (with_reducible refine lld hL ?_) | (with_reducible refine ldD hL ?_))
        exact cY
      simp only [apN, apC]
      refine' draw_guard (j := 25) rfl rfl rfl (by decide) (by simp) ?_ ?_; rotate_left
      · intro hcs; simp only [Bool.and_eq_true, beqT, beqF] at hcs; intro g w hb hdep; replace hL := hL.grow hb; have d27 := yv hdep 27; simp only [hcs, beq_self_eq_true, Bool.and_self, Bool.true_and, Bool.and_true, cnd_true] at d27; have d29 := yv hdep 29; simp only [hcs, beq_self_eq_true, Bool.and_self, Bool.true_and, Bool.and_true, cnd_true] at d29; clear hdep; simp only [fillD, fLa, fLb, sTa, sTb]; simp only [d27, d29]
        go_wp2_with (go_at_call 28; refine (HM.out _).mono ?_; rintro e w3 ⟨rfl, hb3⟩; dsimp only)
        exact ⟨rfl, _, rfl, (by assumption), rfl⟩
      simp only [apN, apC]
      refine' draw_guard (j := 25) rfl rfl rfl (by decide) (by simp) ?_ ?_; rotate_left
      · intro hcs; simp only [Bool.and_eq_true, beqT, beqF] at hcs; intro g w hb hdep; replace hL := hL.grow hb; have d30 := yv hdep 30; simp only [hcs, beq_self_eq_true, Bool.and_self, Bool.true_and, Bool.and_true, cnd_true] at d30; clear hdep; simp only [fillD, fLa, fLb, sTa, sTb]; simp only [d30]
        refine wp_field_span (s := ⟨cn, clo, chi⟩) rfl ?_; go_wp2
        exact cY
      simp only [apN, apC]
      refine' draw_guard (j := 25) rfl rfl rfl (by decide) (by simp) ?_ ?_; rotate_left
      · intro hcs; simp only [Bool.and_eq_true, beqT, beqF] at hcs; intro g w hb hdep; replace hL := hL.grow hb; have d31 := yv hdep 31; simp only [hcs, beq_self_eq_true, Bool.and_self, Bool.true_and, Bool.and_true, cnd_true] at d31; clear hdep; simp only [fillD, fLa, fLb, sTa, sTb]; simp only [d31]
        go_wp2
        exact cY
      simp only [apN, apC]
      apply draw_val
      · intro g w hb hdep; replace hL := hL.grow hb; have d25 := yv hdep 25; have d32 := yv hdep 32; clear hdep; simp only [fillD, fLa, fLb, sTa, sTb]; simp only [d25, d32]
        first | refine wp_pick_or rfl rfl ?_ | go_wp2
        exact cY
      simp only [apN, apC]
      apply draw_val
      · intro g w hb hdep; replace hL := hL.grow hb; clear hdep; simp only [fillD, fLa, fLb, sTa, sTb]
        go_wp2
        exact cY
      simp only [apN, apC]
      refine seq_end hL (by kernel_rfl) ?_
      intro g w2 hb hR; simp only [List.length_cons, List.length_nil, Nat.reduceAdd] at hR
      have e0 := yv hR 0
      have e1 := yv hR 1
      have e2 := yv hR 2
      have e3 := yv hR 3
      have e4 := yv hR 4
      have e5 := yv hR 5
      have e6 := yv hR 6
      have e7 := yv hR 7
      have e8 := yv hR 8
      have e9 := yv hR 9
      have e10 := yv hR 10
      have e11 := yv hR 11
      have e12 := yv hR 12
      have e13 := yv hR 13
      have e14 := yv hR 14
      have e15 := yv hR 15
      have e16 := yv hR 16
      have e17 := yv hR 17
      have e18 := yv hR 18
      have e19 := yv hR 19
      have e20 := yv hR 20
      have e21 := yv hR 21
      have e22 := yv hR 22
      have e23 := yv hR 23
      have e24 := yv hR 24
      have e25 := yv hR 25
      have e26 := yv hR 26
      have e27 := yv hR 27
      have e28 := yv hR 28
      have e29 := yv hR 29
      have e30 := yv hR 30
      have e31 := yv hR 31
      have e32 := yv hR 32
      have e33 := yv hR 33
      have e34 := yv hR 34
      clear hR; simp only [fillD, fLa, fLb, sTa, sTb]
      simp only [e0, e1, e2, e3, e4, e5, e6, e7, e8, e9, e10, e11, e12, e13, e14, e15, e16, e17, e18, e19, e20, e21, e22, e23, e24, e25, e26, e27, e28, e29, e30, e31, e32, e33, e34]
      clear e0 e1 e2 e3 e4 e5 e6 e7 e8 e9 e10 e11 e12 e13 e14 e15 e16 e17 e18 e19 e20 e21 e22 e23 e24 e25 e26 e27 e28 e29 e30 e31 e32 e33 e34
      replace hL := hL.grow hb
      clear hb
      rw [← HF.out]
      go_upto_region 18 with (first | (with_reducible refine lld hL ?_) | ((with_reducible first | refine lbx hL ?_ | refine lal hL ?_ | refine lbs hL ?_); clear hL; intro bl w1 hL) | ((with_reducible refine lst' hL ?_); clear hL; intro w1 hL))
      refine draw_begin [100, 101, 102, 103, 104, 105, 106, 107, 108, 109, 110, 111, 112, 113, 114, 115, 116, 117] ?_
      apply draw_val
      · intro g w hb hdep; replace hL := hL.grow hb; clear hdep; simp only [fillD, fLa, fLb, sTa, sTb]
        go_wp2_with (first | (with_reducible refine lld hL ?_) | (with_reducible refine ldD hL ?_))
        exact cY
      simp only [apN, apC]
      apply draw_val
      · intro g w hb hdep; replace hL := hL.grow hb; have d0 := yv hdep 0; clear hdep; simp only [fillD, fLa, fLb, sTa, sTb]; simp only [d0]
        go_wp2_with (go_at_call 29; (with_reducible refine (HS1.out _).mono ?_); rintro e w3 ⟨rfl, hb3⟩; dsimp only)
        exact ⟨rfl, _, rfl, (by assumption), rfl⟩
      simp only [apN, apC]
      apply draw_val
      · intro g w hb hdep; replace hL := hL.grow hb; have d1 := yv hdep 1; clear hdep; simp only [fillD, fLa, fLb, sTa, sTb]; simp only [d1]
        go_wp2
        exact cY
      simp only [apN, apC]
      apply draw_val
      · intro g w hb hdep; replace hL := hL.grow hb; have d2 := yv hdep 2; clear hdep; simp only [fillD, fLa, fLb, sTa, sTb]; simp only [d2]
        go_wp2
        exact cY
      simp only [apN, apC]
      refine' draw_guard (j := 3) rfl rfl rfl (by decide) (by simp) ?_ ?_; rotate_left
      · intro hcs; simp only [Bool.and_eq_true, beqT, beqF] at hcs; intro g w hb hdep; replace hL := hL.grow hb; clear hdep; simp only [fillD, fLa, fLb, sTa, sTb]
        go_wp2_with (first | (with_reducible refine lld hL ?_) | (with_reducible refine ldD hL ?_))
        exact cY
      simp only [apN, apC]
      refine' draw_guard (j := 3) rfl rfl rfl (by decide) (by simp) ?_ ?_; rotate_left
      · intro hcs; simp only [Bool.and_eq_true, beqT, beqF] at hcs; intro g w hb hdep; replace hL := hL.grow hb; have d4 := yv hdep 4; simp only [hcs, beq_self_eq_true, Bool.and_self, Bool.true_and, Bool.and_true, cnd_true] at d4; clear hdep; simp only [fillD, fLa, fLb, sTa, sTb]; simp only [d4]
        go_wp2_with (go_at_call 29; (with_reducible refine (HS1.out _).mono ?_); rintro e w3 ⟨rfl, hb3⟩; dsimp only)
        exact ⟨rfl, _, rfl, (by assumption), rfl⟩
      simp only [apN, apC]
      refine' draw_guard (j := 3) rfl rfl rfl (by decide) (by simp) ?_ ?_; rotate_left
      · intro hcs; simp only [Bool.and_eq_true, beqT, beqF] at hcs; intro g w hb hdep; replace hL := hL.grow hb; clear hdep; simp only [fillD, fLa, fLb, sTa, sTb]
        go_wp2_with (first | (with_reducible refine lld hL ?_) | (with_reducible refine ldD hL ?_))
        exact cY
      simp only [apN, apC]
      refine' draw_guard (j := 3) rfl rfl rfl (by decide) (by simp) ?_ ?_; rotate_left
      · intro hcs; simp only [Bool.and_eq_true, beqT, beqF] at hcs; intro g w hb hdep; replace hL := hL.grow hb; have d6 := yv hdep 6; simp only [hcs, beq_self_eq_true, Bool.and_self, Bool.true_and, Bool.and_true, cnd_true] at d6; clear hdep; simp only [fillD, fLa, fLb, sTa, sTb]; simp only [d6]
        go_wp2_with (go_at_call 29; (with_reducible refine (HS2.out _).mono ?_); rintro e w3 ⟨rfl, hb3⟩; dsimp only)
        exact ⟨rfl, _, rfl, (by assumption), rfl⟩
      simp only [apN, apC]
      refine' draw_guard (j := 3) rfl rfl rfl (by decide) (by simp) ?_ ?_; rotate_left
      · intro hcs; simp only [Bool.and_eq_true, beqT, beqF] at hcs; intro g w hb hdep; replace hL := hL.grow hb; have d5 := yv hdep 5; simp only [hcs, beq_self_eq_true, Bool.and_self, Bool.true_and, Bool.and_true, cnd_true] at d5; have d7 := yv hdep 7; simp only [hcs, beq_self_eq_true, Bool.and_self, Bool.true_and, Bool.and_true, cnd_true] at d7; clear hdep; simp only [fillD, fLa, fLb, sTa, sTb]; simp only [d5, d7]
        go_wp2
        exact cY
      simp only [apN, apC]
      apply draw_val
      · intro g w hb hdep; replace hL := hL.grow hb; have d3 := yv hdep 3; have d8 := yv hdep 8; clear hdep; simp only [fillD, fLa, fLb, sTa, sTb]; simp only [d3, d8]
        first | refine wp_pick_or rfl rfl ?_ | go_wp2
        exact cY
      simp only [apN, apC]
      apply draw_val
      · intro g w hb hdep; replace hL := hL.grow hb; have d9 := yv hdep 9; clear hdep; simp only [fillD, fLa, fLb, sTa, sTb]; simp only [d9]
        go_wp2
        exact cY
      simp only [apN, apC]
      refine' draw_guard (j := 10) rfl rfl rfl (by decide) (by simp) ?_ ?_; rotate_left
      · intro hcs; simp only [Bool.and_eq_true, beqT, beqF] at hcs; intro g w hb hdep; replace hL := hL.grow hb; clear hdep; simp only [fillD, fLa, fLb, sTa, sTb]
        go_wp2
        exact cY
      simp only [apN, apC]
      refine' draw_guard (j := 10) rfl rfl rfl (by decide) (by simp) ?_ ?_; rotate_left
      · intro hcs; simp only [Bool.and_eq_true, beqT, beqF] at hcs; intro g w hb hdep; replace hL := hL.grow hb; have d11 := yv hdep 11; simp only [hcs, beq_self_eq_true, Bool.and_self, Bool.true_and, Bool.and_true, cnd_true] at d11; clear hdep; simp only [fillD, fLa, fLb, sTa, sTb]; simp only [d11]
        go_wp2_with (first | (with_reducible refine lld hL ?_) | (with_reducible refine ldD hL ?_))
        exact cY
      simp only [apN, apC]
      refine' draw_guard (j := 10) rfl rfl rfl (by decide) (by simp) ?_ ?_; rotate_left
      · intro hcs; simp only [Bool.and_eq_true, beqT, beqF] at hcs; intro g w hb hdep; replace hL := hL.grow hb; clear hdep; simp only [fillD, fLa, fLb, sTa, sTb]
        go_wp2
        exact cY
      simp only [apN, apC]
      refine' draw_guard (j := 10) rfl rfl rfl (by decide) (by simp) ?_ ?_; rotate_left
      · intro hcs; simp only [Bool.and_eq_true, beqT, beqF] at hcs; intro g w hb hdep; replace hL := hL.grow hb; have d13 := yv hdep 13; simp only [hcs, beq_self_eq_true, Bool.and_self, Bool.true_and, Bool.and_true, cnd_true] at d13; clear hdep; simp only [fillD, fLa, fLb, sTa, sTb]; simp only [d13]
        go_wp2_with (first | (with_reducible refine lld hL ?_) | (with_reducible refine ldD hL ?_))
        exact cY
      simp only [apN, apC]
      refine' draw_guard (j := 10) rfl rfl rfl (by decide) (by simp) ?_ ?_; rotate_left
      · intro hcs; simp only [Bool.and_eq_true, beqT, beqF] at hcs; intro g w hb hdep; replace hL := hL.grow hb; have d12 := yv hdep 12; simp only [hcs, beq_self_eq_true, Bool.and_self, Bool.true_and, Bool.and_true, cnd_true] at d12; have d14 := yv hdep 14; simp only [hcs, beq_self_eq_true, Bool.and_self, Bool.true_and, Bool.and_true, cnd_true] at d14; clear hdep; simp only [fillD, fLa, fLb, sTa, sTb]; simp only [d12, d14]
        refine wp_neq_span (a := ⟨gn, glo, ghi⟩) (b := ⟨hn, hlo, hhi⟩) rfl rfl rfl ?_; go_wp2
        exact cY
      simp only [apN, apC]
      apply draw_val
      · intro g w hb hdep; replace hL := hL.grow hb; have d10 := yv hdep 10; have d15 := yv hdep 15; clear hdep; simp only [fillD, fLa, fLb, sTa, sTb]; simp only [d10, d15]
        first | refine wp_pick_or rfl rfl ?_ | go_wp2
        exact cY
      simp only [apN, apC]
      apply draw_val
      · intro g w hb hdep; replace hL := hL.grow hb; clear hdep; simp only [fillD, fLa, fLb, sTa, sTb]
        go_wp2
        exact cY
      simp only [apN, apC]
      refine draw_end hL (by kernel_rfl) (by kernel_rfl) ?_
      intro g w2 hb hR; simp only [List.length_cons, List.length_nil, Nat.reduceAdd] at hR
      have e0 := yv hR 0
      have e1 := yv hR 1
      have e2 := yv hR 2
      have e3 := yv hR 3
      have e4 := yv hR 4
      have e5 := yv hR 5
      have e6 := yv hR 6
      have e7 := yv hR 7
      have e8 := yv hR 8
      have e9 := yv hR 9
      have e10 := yv hR 10
      have e11 := yv hR 11
      have e12 := yv hR 12
      have e13 := yv hR 13
      have e14 := yv hR 14
      have e15 := yv hR 15
      have e16 := yv hR 16
      have e17 := yv hR 17
      clear hR; simp only [fillD, fLa, fLb, sTa, sTb]
      simp only [e0, e1, e2, e3, e4, e5, e6, e7, e8, e9, e10, e11, e12, e13, e14, e15, e16, e17]
      clear e0 e1 e2 e3 e4 e5 e6 e7 e8 e9 e10 e11 e12 e13 e14 e15 e16 e17
      replace hL := hL.grow hb
      clear hb
      go_wp2_with (first | (with_reducible refine lld hL ?_) | ((with_reducible first | refine lbx hL ?_ | refine lal hL ?_ | refine lbs hL ?_); clear hL; intro bl w1 hL) | ((with_reducible refine lst' hL ?_); clear hL; intro w1 hL))
      (try simp only [Exit.inBlock, Exit.then]); refine' ret2 rfl ?_ ?_ rfl ?_; (case refine'_3 => exact cRes); (case refine'_4 => exact cRes)
      first
      | exact ⟨by rw [HN.out]; rfl, hL.below⟩
      | exact ⟨by rw [HN.out]; simp, hL.below⟩
end Go.Proofs.YteimpfplgdhclaaGreat
