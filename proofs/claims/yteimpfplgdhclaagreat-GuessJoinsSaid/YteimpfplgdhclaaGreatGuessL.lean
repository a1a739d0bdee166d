/- The walk over the reference's DoGuess. Conditions: right spans; the sites lie in memory that was there. -/
import Derived.Test.YteimpfplgdhclaaGreatGuessK
import Derived.Test.YteimpfplgdhclaaGreatRefDo
set_option linter.unusedSimpArgs false
set_option linter.unusedVariables false
namespace Go.Proofs.YteimpfplgdhclaaGreat
open Go.RowKit

theorem twoG_made {k : Int} (h8 : k ≠ 8) (g h : Gu) : twoG k g h = ⟨false, made k g.span h.span, false, false, nilSl⟩ := by
  unfold twoG
  by_cases hn : (g.span.none || h.span.none) = true
  · rw [if_pos hn]
    unfold made
    rw [if_pos hn]
  · rw [if_neg hn, if_neg h8]
theorem anyN_succ (q : Nat → Bool) (n : Nat) : anyN q (n + 1) = (anyN q n || q n) := by
  simp [anyN, List.range_succ]
def rNotSame (g h : Gu) : Bool := decide (singleG g < 0) || singleG g != singleG h || !(g.span.none == h.span.none && g.span.lo == h.span.lo && g.span.hi == h.span.hi)

set_option maxRecDepth 100000 in
set_option maxHeartbeats 4000000 in
theorem rDoSpan_none (k : Int) (s t : Span) (hz : (s.none || t.none) = true) (w : World) : Calls Tryz.prog 31 #[.int .i64 k, s.v, t.v] w fun e w' => e = .returned noSpan.v ∧ Below w.heap.size w w' := by
  obtain ⟨sn, slo, shi⟩ := s
  obtain ⟨tn, tlo, thi⟩ := t
  dsimp only at hz
  have hL := Loc.start w
  go_enter Tryz.func31, Tryz.ntmps31
  cases sn with
  | true =>
    clear hz
    go_wp2_with (first | (with_reducible refine lld hL ?_) | ((with_reducible first | refine lbx hL ?_ | refine lal hL ?_ | refine lbs hL ?_); clear hL; intro bl w1 hL) | ((with_reducible refine lst' hL ?_); clear hL; intro w1 hL))
    (try simp only [Exit.inBlock, Exit.then]); refine' ret1 rfl ?_ rfl ?_; (case refine'_2 => exact cRes)
    exact ⟨rfl, hL.below⟩
  | false =>
    obtain rfl : tn = true := by simpa using hz
    clear hz
    go_wp2_with (first | (with_reducible refine lld hL ?_) | ((with_reducible first | refine lbx hL ?_ | refine lal hL ?_ | refine lbs hL ?_); clear hL; intro bl w1 hL) | ((with_reducible refine lst' hL ?_); clear hL; intro w1 hL))
    (try simp only [Exit.inBlock, Exit.then]); refine' ret1 rfl ?_ rfl ?_; (case refine'_2 => exact cRes)
    exact ⟨rfl, hL.below⟩
theorem rDoSpan_any (k : Int) (hk : k = 5 ∨ k = 6 ∨ k = 7) (s t : Span) (hs : checkSpan s = 0) (ht : checkSpan t = 0) (w : World) : Calls Tryz.prog 31 #[.int .i64 k, s.v, t.v] w fun e w' => e = .returned (made k s t).v ∧ Below w.heap.size w w' := by
  by_cases hz : (s.none || t.none) = true
  · rw [show made k s t = noSpan from if_pos hz]
    exact rDoSpan_none k s t hz w
  · obtain ⟨h1, h2⟩ : s.none = false ∧ t.none = false := by simpa using hz
    rcases hk with rfl | rfl | rfl
    · exact rDo_5 s t hs ht h1 h2 w
    · exact rDo_6 s t hs ht h1 h2 w
    · exact rDo_7 s t hs ht h1 h2 w

set_option maxRecDepth 100000 in
set_option maxHeartbeats 4000000 in
theorem rdo_nil (k : Int) (g h : Gu) (hz : (emptyG g || (!(k == 10 || k == 4) && emptyG h)) = true) (w : World) :
    Calls Tryz.prog 7 #[.int .i64 k, g.v, h.v] w fun e w' => e = .returned (.tuple #[nothingG.v, .bool false]) ∧ Below w.heap.size w w' := by
  have HE1 := Lib.hid (fun w' => rIsNothing_any g w')
  have HE2 := Lib.hid (fun w' => rIsNothing_any h w')
  generalize emptyG g = eg at HE1 hz
  generalize emptyG h = eh at HE2 hz
  obtain ⟨gl, ⟨gn, glo, ghi⟩, gt, gf, ⟨gp, gk, gc⟩⟩ := g
  obtain ⟨hl', ⟨hn, hlo, hhi⟩, ht, hf, ⟨hp, hk, hc⟩⟩ := h
  have hL := Loc.start w
  go_enter Tryz.func7, Tryz.ntmps7
  cases eg with
  | true =>
    clear hz
    go_wp2_with (first | (with_reducible refine lld hL ?_) | ((with_reducible first | refine lbx hL ?_ | refine lal hL ?_ | refine lbs hL ?_); clear hL; intro bl w1 hL) | ((with_reducible refine lst' hL ?_); clear hL; intro w1 hL) | (go_at_call 26; (with_reducible refine (HE1.out _).mono ?_); rintro e w1 ⟨rfl, hb⟩; replace hL := hL.grow hb; clear hb; dsimp only) | (go_at_call 25; refine (rNothing_any _).mono ?_; rintro e w1 ⟨rfl, hb⟩; replace hL := hL.grow hb; clear hb; dsimp only))
    (try simp only [Exit.inBlock, Exit.then]); refine' ret2 rfl ?_ ?_ rfl ?_; (case refine'_3 => exact cRes); (case refine'_4 => exact cRes)
    exact ⟨rfl, hL.below⟩
  | false =>
    obtain ⟨h4, h10, rfl⟩ : k ≠ 4 ∧ k ≠ 10 ∧ eh = true := by
      simp at hz
      exact ⟨hz.1.2, hz.1.1, hz.2⟩
    have k4 : (k != 4) = true := by simpa using h4
    have k10 : (k != 10) = true := by simpa using h10
    clear hz h4 h10
    go_wp2_with (first | (with_reducible refine lld hL ?_) | ((with_reducible first | refine lbx hL ?_ | refine lal hL ?_ | refine lbs hL ?_); clear hL; intro bl w1 hL) | ((with_reducible refine lst' hL ?_); clear hL; intro w1 hL) | (go_at_call 26; (with_reducible refine (HE1.out _).mono ?_); rintro e w1 ⟨rfl, hb⟩; replace hL := hL.grow hb; clear hb; dsimp only) | (go_at_call 26; (with_reducible refine (HE2.out _).mono ?_); rintro e w1 ⟨rfl, hb⟩; replace hL := hL.grow hb; clear hb; dsimp only) | (go_at_call 25; refine (rNothing_any _).mono ?_; rintro e w1 ⟨rfl, hb⟩; replace hL := hL.grow hb; clear hb; dsimp only))
    (try simp only [Exit.inBlock, Exit.then]); refine' ret2 rfl ?_ ?_ rfl ?_; (case refine'_3 => exact cRes); (case refine'_4 => exact cRes)
    exact ⟨rfl, hL.below⟩
set_option maxRecDepth 100000 in
set_option maxHeartbeats 4000000 in
theorem rdo_copy (g h : Gu) (w : World) (hz : emptyG g = false) :
    Calls Tryz.prog 7 #[.int .i64 4, g.v, h.v] w fun e w' => e = .returned (.tuple #[g.v, .bool false]) ∧ Below w.heap.size w w' := by
  have HE1 := Lib.hid (fun w' => rIsNothing_any g w')
  rw [hz] at HE1
  clear hz
  obtain ⟨gl, ⟨gn, glo, ghi⟩, gt, gf, ⟨gp, gk, gc⟩⟩ := g
  obtain ⟨hl', ⟨hn, hlo, hhi⟩, ht, hf, ⟨hp, hk, hc⟩⟩ := h
  have hL := Loc.start w
  go_enter Tryz.func7, Tryz.ntmps7
  go_wp2_with (first | (with_reducible refine lld hL ?_) | ((with_reducible first | refine lbx hL ?_ | refine lal hL ?_ | refine lbs hL ?_); clear hL; intro bl w1 hL) | ((with_reducible refine lst' hL ?_); clear hL; intro w1 hL) | (go_at_call 26; (with_reducible refine (HE1.out _).mono ?_); rintro e w1 ⟨rfl, hb⟩; replace hL := hL.grow hb; clear hb; dsimp only) | (go_at_call 25; refine (rNothing_any _).mono ?_; rintro e w1 ⟨rfl, hb⟩; replace hL := hL.grow hb; clear hb; dsimp only))
  (try simp only [Exit.inBlock, Exit.then]); refine' ret2 rfl ?_ ?_ rfl ?_; (case refine'_3 => exact cRes); (case refine'_4 => exact cRes)
  exact ⟨rfl, hL.below⟩
set_option maxRecDepth 100000 in
set_option maxHeartbeats 4000000 in
theorem rdo_not (g h : Gu) (w : World) (hz : emptyG g = false) :
    Calls Tryz.prog 7 #[.int .i64 10, g.v, h.v] w fun e w' => e = .returned (.tuple #[Gu.v ⟨false, noSpan, noG g, yesG g, nilSl⟩, .bool false]) ∧ Below w.heap.size w w' := by
  have HE1 := Lib.hid (fun w' => rIsNothing_any g w')
  rw [hz] at HE1
  have HC := Lib.hid (fun w' => rTruthOf_any g w')
  clear hz
  generalize yesG g = y at HC ⊢
  generalize noG g = n at HC ⊢
  obtain ⟨gl, ⟨gn, glo, ghi⟩, gt, gf, ⟨gp, gk, gc⟩⟩ := g
  obtain ⟨hl', ⟨hn, hlo, hhi⟩, ht, hf, ⟨hp, hk, hc⟩⟩ := h
  have hL := Loc.start w
  go_enter Tryz.func7, Tryz.ntmps7
  go_wp2_with (first | (with_reducible refine lld hL ?_) | ((with_reducible first | refine lbx hL ?_ | refine lal hL ?_ | refine lbs hL ?_); clear hL; intro bl w1 hL) | ((with_reducible refine lst' hL ?_); clear hL; intro w1 hL) | (go_at_call 26; (with_reducible refine (HE1.out _).mono ?_); rintro e w1 ⟨rfl, hb⟩; replace hL := hL.grow hb; clear hb; dsimp only) | (go_at_call 25; refine (rNothing_any _).mono ?_; rintro e w1 ⟨rfl, hb⟩; replace hL := hL.grow hb; clear hb; dsimp only) | (go_at_call 18; refine (HC.out _).mono ?_; rintro e w1 ⟨rfl, hb⟩; replace hL := hL.grow hb; clear hb; dsimp only))
  (try simp only [Exit.inBlock, Exit.then]); refine' ret2 rfl ?_ ?_ rfl ?_; (case refine'_3 => exact cRes); (case refine'_4 => exact cRes)
  exact ⟨rfl, hL.below⟩
set_option maxRecDepth 100000 in
set_option maxHeartbeats 4000000 in
theorem rdo_span (k : Int) (hk : k = 5 ∨ k = 6 ∨ k = 7) (g h : Gu) (h1 : checkSpan g.span = 0) (h2 : checkSpan h.span = 0) (w : World) (hz : emptyG g = false) (hz2 : emptyG h = false) :
    Calls Tryz.prog 7 #[.int .i64 k, g.v, h.v] w fun e w' => e = .returned (.tuple #[(twoG k g h).v, .bool (otherG g || otherG h)]) ∧ Below w.heap.size w w' := by
  have HE1 := Lib.hid (fun w' => rIsNothing_any g w')
  have HE2 := Lib.hid (fun w' => rIsNothing_any h w')
  rw [hz] at HE1
  rw [hz2] at HE2
  have HC := Lib.hid (fun w' => rDoSpan_any k hk g.span h.span h1 h2 w')
  have HO1 := Lib.hid (fun w' => rNoNumber_any g w')
  have HO2 := Lib.hid (fun w' => rNoNumber_any h w')
  have k4 : (k == 4) = false := beq_eq_false_iff_ne.2 (by omega)
  have k9 : (k == 9) = false := beq_eq_false_iff_ne.2 (by omega)
  have k8 : (k == 8) = false := beq_eq_false_iff_ne.2 (by omega)
  have k10 : (k == 10) = false := beq_eq_false_iff_ne.2 (by omega)
  have m4 : (k != 4) = true := by simpa using (show k ≠ 4 by omega)
  have m10 : (k != 10) = true := by simpa using (show k ≠ 10 by omega)
  rw [twoG_made (by omega)]
  clear hz hz2 h1 h2 hk
  generalize made k g.span h.span = t at HC ⊢
  generalize otherG g = og at HO1 ⊢
  generalize otherG h = oh at HO2 ⊢
  obtain ⟨tn, tlo, thi⟩ := t
  obtain ⟨gl, ⟨gn, glo, ghi⟩, gt, gf, ⟨gp, gk, gc⟩⟩ := g
  obtain ⟨hl', ⟨hn, hlo, hhi⟩, ht, hf, ⟨hp, hk, hc⟩⟩ := h
  have hL := Loc.start w
  go_enter Tryz.func7, Tryz.ntmps7
  go_upto_region 26 with (first | (with_reducible refine lld hL ?_) | ((with_reducible first | refine lbx hL ?_ | refine lal hL ?_ | refine lbs hL ?_); clear hL; intro bl w1 hL) | ((with_reducible refine lst' hL ?_); clear hL; intro w1 hL) | (go_at_call 26; (with_reducible refine (HE1.out _).mono ?_); rintro e w1 ⟨rfl, hb⟩; replace hL := hL.grow hb; clear hb; dsimp only) | (go_at_call 26; (with_reducible refine (HE2.out _).mono ?_); rintro e w1 ⟨rfl, hb⟩; replace hL := hL.grow hb; clear hb; dsimp only) | (go_at_call 25; refine (rNothing_any _).mono ?_; rintro e w1 ⟨rfl, hb⟩; replace hL := hL.grow hb; clear hb; dsimp only) | (go_at_call 31; refine (HC.out _).mono ?_; rintro e w1 ⟨rfl, hb⟩; replace hL := hL.grow hb; clear hb; dsimp only))
  refine draw_begin [161, 162, 163, 164, 165, 166, 167] ?_
  apply draw_val
  · intro g w hb hdep; replace hL := hL.grow hb; clear hdep; simp only [fillD, fLa, fLb, sTa, sTb]
    go_wp2_with (first | (with_reducible refine lld hL ?_) | (with_reducible refine ldD hL ?_))
    exact cY
  simp only [apN, apC]
  apply draw_val
  · intro g w hb hdep; replace hL := hL.grow hb; clear hdep; simp only [fillD, fLa, fLb, sTa, sTb]
    go_wp2_with (first | (with_reducible refine lld hL ?_) | (with_reducible refine ldD hL ?_))
    exact cY
  simp only [apN, apC]
  apply draw_val
  · intro g w hb hdep; replace hL := hL.grow hb; have d1 := yv hdep 1; clear hdep; simp only [fillD, fLa, fLb, sTa, sTb]; simp only [d1]
    go_wp2_with (go_at_call 30; (with_reducible refine (HO1.out _).mono ?_); rintro e w3 ⟨rfl, hb3⟩; dsimp only)
    exact ⟨rfl, _, rfl, (by assumption), rfl⟩
  simp only [apN, apC]
  apply draw_val
  · intro g w hb hdep; replace hL := hL.grow hb; have d2 := yv hdep 2; clear hdep; simp only [fillD, fLa, fLb, sTa, sTb]; simp only [d2]
    go_wp2
    exact cY
  simp only [apN, apC]
  refine' draw_guard (j := 3) rfl rfl rfl (by decide) (by simp) ?_ ?_; rotate_left
  · intro hcs; simp only [Bool.and_eq_true, beqT, beqF] at hcs; intro g w hb hdep; replace hL := hL.grow hb; clear hdep; simp only [fillD, fLa, fLb, sTa, sTb]
    go_wp2_with (first | (with_reducible refine lld hL ?_) | (with_reducible refine ldD hL ?_))
    exact cY
  simp only [apN, apC]
  refine' draw_guard (j := 3) rfl rfl rfl (by decide) (by simp) ?_ ?_; rotate_left
  · intro hcs; simp only [Bool.and_eq_true, beqT, beqF] at hcs; intro g w hb hdep; replace hL := hL.grow hb; have d4 := yv hdep 4; simp only [hcs, beq_self_eq_true, Bool.and_self, Bool.true_and, Bool.and_true, cnd_true] at d4; clear hdep; simp only [fillD, fLa, fLb, sTa, sTb]; simp only [d4]
    go_wp2_with (go_at_call 30; (with_reducible refine (HO2.out _).mono ?_); rintro e w3 ⟨rfl, hb3⟩; dsimp only)
    exact ⟨rfl, _, rfl, (by assumption), rfl⟩
  simp only [apN, apC]
  apply draw_val
  · intro g w hb hdep; replace hL := hL.grow hb; have d3 := yv hdep 3; have d5 := yv hdep 5; clear hdep; simp only [fillD, fLa, fLb, sTa, sTb]; simp only [d3, d5]
    first | refine wp_pick_or rfl rfl ?_ | go_wp2
    exact cY
  simp only [apN, apC]
  refine draw_end1 6 hL (by kernel_rfl) (by kernel_rfl) (fun _ _ _ _ _ h => h) ?_ ?_
  · (refine late_ok rfl rfl ?_; intro g w hb hdep; (try simp [depsOf, List.filter_cons, Region.binds, AllR, RAt] at hdep); simp only [fillD, List.foldl_cons, List.foldl_nil, List.set_cons_succ, List.set_cons_zero]; (try simp only [hdep]); exact ⟨_, .inl ⟨rfl, fun w => (by go_simp <;> (try (split <;> (rename_i hs; simp [hs, cnd]))))⟩, rfl⟩)
  intro g w2 hb hR; simp only [List.length_cons, List.length_nil, Nat.reduceAdd] at hR
  have e0 := yv hR 0
  have e1 := yv hR 1
  have e2 := yv hR 2
  have e3 := yv hR 3
  have e4 := yv hR 4
  have e5 := yv hR 5
  have e6 := yv hR 6
  clear hR; simp only [fillD, fLa, fLb, sTa, sTb]
  simp only [e0, e1, e2, e3, e4, e5, e6]
  clear e0 e1 e2 e3 e4 e5 e6
  replace hL := hL.grow hb
  clear hb
  go_wp2_with (first | (with_reducible refine lld hL ?_) | ((with_reducible first | refine lbx hL ?_ | refine lal hL ?_ | refine lbs hL ?_); clear hL; intro bl w1 hL) | ((with_reducible refine lst' hL ?_); clear hL; intro w1 hL))
  (try simp only [Exit.inBlock, Exit.then]); refine' ret2 rfl ?_ ?_ rfl ?_; (case refine'_3 => exact cRes); (case refine'_4 => exact cRes)
  exact ⟨rfl, hL.below⟩
end Go.Proofs.YteimpfplgdhclaaGreat
