/- The walks over more functions of guesses: Counts, TruthOf, truths, two, Is, Held, HeldOf. Conditions: sites lie in memory that was there. -/
import Derived.Test.YteimpfplgdhclaaGreatGuessA
import Derived.Test.YteimpfplgdhclaaGreatGuessB
import Derived.Test.YteimpfplgdhclaaGreatDraw3
import Derived.Test.YteimpfplgdhclaaGreatSpanC
set_option linter.unusedSimpArgs false
set_option linter.unusedVariables false
namespace Go.Proofs.YteimpfplgdhclaaGreat
open Go.RowKit

theorem neq_span (a b : Span) (w : World) : (binOp .neq 26 (.agg #[.bool a.none, .int .i64 a.lo, .int .i64 a.hi]) (.agg #[.bool b.none, .int .i64 b.lo, .int .i64 b.hi])).run Tryz.prog w = .ok (.bool (!(a.none == b.none && a.lo == b.lo && a.hi == b.hi))) w := by
  cases h1 : (a.none == b.none) <;> cases h2 : (a.lo == b.lo) <;> cases h3 : (a.hi == b.hi)
  all_goals
    go_simp
    try simp_all
set_option maxRecDepth 100000 in
theorem neq_guardS (x y : Operand) (a b : Span) (w : World) : (eqGuard .neq 26 x y (.agg #[.bool a.none, .int .i64 a.lo, .int .i64 a.hi]) (.agg #[.bool b.none, .int .i64 b.lo, .int .i64 b.hi])).run Tryz.prog w = .ok () w := by
  go_simp
theorem wp_neq_span {ops : Array Oper} {Q : Exit → Act → World → Prop} {act : Act} {w : World} {rest : List Oper} {d : Option Tmp} {ty u : TypeId} {pos : String} {after : Array Edge} {x y : Operand} {a b : Span} {r : Bool} (ha : act.eval x = a.v) (hb : act.eval y = b.v) (hr : (!(a.none == b.none && a.lo == b.lo && a.hi == b.hi)) = r)
    (h : wpList Tryz.prog ops Q rest (act.put d (.bool r)) w) : wpList Tryz.prog ops Q (⟨d, .binOp .neq 26 x y u, ty, pos, after, none⟩ :: rest) act w := by
  subst hr
  refine wp_bin (w' := w) ?_ ?_ h
  · rw [ha, hb]; exact neq_guardS x y a b w
  · rw [ha, hb]; exact neq_span a b w
theorem ret_two {a b c d : Bool} (h1 : a = c) (h2 : b = d) : Ending.returned (.tuple #[.bool a, .bool b]) = .returned (.tuple #[.bool c, .bool d]) := by rw [h1, h2]

set_option maxRecDepth 100000 in
set_option maxHeartbeats 1600000 in
theorem gcounts_any (g : Gu) (w : World) : Calls Tryz.prog 39 #[g.v] w fun e w' => e = .returned (.tuple #[.bool (yesG g), .bool (noG g)]) ∧ Below w.heap.size w w' := by
  obtain ⟨nl, ⟨sn, slo, shi⟩, tr, fa, ⟨sp, sc, scap⟩⟩ := g
  have hL := Loc.start w
  go_enter Tryz.func39, Tryz.ntmps39
  go_upto_region 2 with (first | (with_reducible refine lld hL ?_) | ((with_reducible first | refine lbx hL ?_ | refine lal hL ?_ | refine lbs hL ?_); clear hL; intro bl w1 hL) | ((with_reducible refine lst' hL ?_); clear hL; intro w1 hL) | (go_at_call 64; refine (in_any ⟨sn, slo, shi⟩ 0 _).mono ?_; rintro e w1 ⟨rfl, hb⟩; replace hL := hL.grow hb; clear hb; dsimp only))
  refine draw_begin [9, 10, 11, 12, 13, 14, 15, 16, 17, 18, 5] ?_
  apply draw_val
  · intro g w hb hdep; replace hL := hL.grow hb; clear hdep; simp only [fillD, fLa, fLb, sTa, sTb]
    go_wp2
    exact cY
  simp only [apN, apC]
  apply draw_val
  · intro g w hb hdep; replace hL := hL.grow hb; have d0 := yv hdep 0; clear hdep; simp only [fillD, fLa, fLb, sTa, sTb]; simp only [d0]
    go_wp2
    exact cY
  simp only [apN, apC]
  apply draw_val
  · intro g w hb hdep; replace hL := hL.grow hb; have d1 := yv hdep 1; clear hdep; simp only [fillD, fLa, fLb, sTa, sTb]; simp only [d1]
    go_wp2_with (first | (with_reducible refine lld hL ?_) | (with_reducible refine ldD hL ?_))
    exact cY
  simp only [apN, apC]
  apply draw_val
  · intro g w hb hdep; replace hL := hL.grow hb; have d2 := yv hdep 2; clear hdep; simp only [fillD, fLa, fLb, sTa, sTb]; simp only [d2]
    go_wp2
    exact cY
  simp only [apN, apC]
  apply draw_val
  · intro g w hb hdep; replace hL := hL.grow hb; have d3 := yv hdep 3; clear hdep; simp only [fillD, fLa, fLb, sTa, sTb]; simp only [d3]
    go_wp2
    exact cY
  simp only [apN, apC]
  refine' draw_guard (j := 4) rfl rfl rfl (by decide) (by simp) ?_ ?_; rotate_left
  · intro hcs; simp only [Bool.and_eq_true, beqT, beqF] at hcs; intro g w hb hdep; replace hL := hL.grow hb; clear hdep; simp only [fillD, fLa, fLb, sTa, sTb]
    go_wp2
    exact cY
  simp only [apN, apC]
  refine' draw_guard (j := 4) rfl rfl rfl (by decide) (by simp) ?_ ?_; rotate_left
  · intro hcs; simp only [Bool.and_eq_true, beqT, beqF] at hcs; intro g w hb hdep; replace hL := hL.grow hb; have d5 := yv hdep 5; simp only [hcs, beq_self_eq_true, Bool.and_self, Bool.true_and, Bool.and_true, cnd_true] at d5; clear hdep; simp only [fillD, fLa, fLb, sTa, sTb]; simp only [d5]
    go_wp2_with (first | (with_reducible refine lld hL ?_) | (with_reducible refine ldD hL ?_))
    exact cY
  simp only [apN, apC]
  refine' draw_guard (j := 4) rfl rfl rfl (by decide) (by simp) ?_ ?_; rotate_left
  · intro hcs; simp only [Bool.and_eq_true, beqT, beqF] at hcs; intro g w hb hdep; replace hL := hL.grow hb; clear hdep; simp only [fillD, fLa, fLb, sTa, sTb]
    go_wp2_with (go_at_call 59; refine (of_any _ _ _).mono ?_; rintro e w3 ⟨rfl, hb3⟩; dsimp only)
    exact ⟨rfl, _, rfl, (by assumption), rfl⟩
  simp only [apN, apC]
  refine' draw_guard (j := 4) rfl rfl rfl (by decide) (by simp) ?_ ?_; rotate_left
  · intro hcs; simp only [Bool.and_eq_true, beqT, beqF] at hcs; intro g w hb hdep; replace hL := hL.grow hb; have d6 := yv hdep 6; simp only [hcs, beq_self_eq_true, Bool.and_self, Bool.true_and, Bool.and_true, cnd_true] at d6; have d7 := yv hdep 7; simp only [hcs, beq_self_eq_true, Bool.and_self, Bool.true_and, Bool.and_true, cnd_true] at d7; clear hdep; simp only [fillD, fLa, fLb, sTa, sTb]; simp only [d6, d7]
    refine wp_neq_span (a := ⟨sn, slo, shi⟩) (b := ⟨false, 0, 0⟩) rfl rfl rfl ?_; go_wp2
    exact cY
  simp only [apN, apC]
  apply draw_val
  · intro g w hb hdep; replace hL := hL.grow hb; have d4 := yv hdep 4; have d8 := yv hdep 8; clear hdep; simp only [fillD, fLa, fLb, sTa, sTb]; simp only [d4, d8]
    first | refine wp_pick_and rfl rfl ?_ | go_wp2
    exact cY
  simp only [apN, apC]
  apply draw_val
  · intro g w hb hdep; replace hL := hL.grow hb; have d9 := yv hdep 9; clear hdep; simp only [fillD, fLa, fLb, sTa, sTb]; simp only [d9]
    go_wp2
    exact cY
  simp only [apN, apC]
  refine draw_end hL (by kernel_rfl) (by kernel_rfl) ?_
  intro g w2 hb hR; simp only [List.length_cons, List.length_nil, Nat.reduceAdd] at hR
  have e0 := yv hR 0
  have e1 := yv hR 1
  have e2 := yv hR 2
  have e3 := yv hR 3
  have e4 := yv hR 4
  have e5 := yv hR 5
  have e6 := yv hR 6
  have e7 := yv hR 7
  have e8 := yv hR 8
  have e9 := yv hR 9
  have e10 := yv hR 10
  clear hR; simp only [fillD, fLa, fLb, sTa, sTb]
  simp only [e0, e1, e2, e3, e4, e5, e6, e7, e8, e9, e10]
  clear e0 e1 e2 e3 e4 e5 e6 e7 e8 e9 e10
  replace hL := hL.grow hb
  clear hb
  go_upto_region 3 with (first | (with_reducible refine lld hL ?_) | ((with_reducible first | refine lbx hL ?_ | refine lal hL ?_ | refine lbs hL ?_); clear hL; intro bl w1 hL) | ((with_reducible refine lst' hL ?_); clear hL; intro w1 hL))
  refine seq_begin [19, 20, 21, 22, 23, 24, 25, 26, 27, 28, 29, 30, 31, 32, 33, 34, 35, 36, 37, 38, 2, 3] ?_
  apply draw_val
  · intro g w hb hdep; replace hL := hL.grow hb; clear hdep; simp only [fillD, fLa, fLb, sTa, sTb]
    go_wp2
    exact cY
  simp only [apN, apC]
  apply draw_val
  · intro g w hb hdep; replace hL := hL.grow hb; have d0 := yv hdep 0; clear hdep; simp only [fillD, fLa, fLb, sTa, sTb]; simp only [d0]
    go_wp2
    exact cY
  simp only [apN, apC]
  refine' draw_guard (j := 1) rfl rfl rfl (by decide) (by simp) ?_ ?_; rotate_left
  · intro hcs; simp only [Bool.and_eq_true, beqT, beqF] at hcs; intro g w hb hdep; replace hL := hL.grow hb; clear hdep; simp only [fillD, fLa, fLb, sTa, sTb]
    go_wp2
    exact cY
  simp only [apN, apC]
  refine' draw_guard (j := 1) rfl rfl rfl (by decide) (by simp) ?_ ?_; rotate_left
  · intro hcs; simp only [Bool.and_eq_true, beqT, beqF] at hcs; intro g w hb hdep; replace hL := hL.grow hb; have d2 := yv hdep 2; simp only [hcs, beq_self_eq_true, Bool.and_self, Bool.true_and, Bool.and_true, cnd_true] at d2; clear hdep; simp only [fillD, fLa, fLb, sTa, sTb]; simp only [d2]
    go_wp2_with (first | (with_reducible refine lld hL ?_) | (with_reducible refine ldD hL ?_))
    exact cY
  simp only [apN, apC]
  apply draw_val
  · intro g w hb hdep; replace hL := hL.grow hb; have d1 := yv hdep 1; have d3 := yv hdep 3; clear hdep; simp only [fillD, fLa, fLb, sTa, sTb]; simp only [d1, d3]
    first | refine wp_pick_or rfl rfl ?_ | go_wp2
    exact cY
  simp only [apN, apC]
  apply draw_val
  · intro g w hb hdep; replace hL := hL.grow hb; have d4 := yv hdep 4; clear hdep; simp only [fillD, fLa, fLb, sTa, sTb]; simp only [d4]
    go_wp2
    exact cY
  simp only [apN, apC]
  refine' draw_guard (j := 5) rfl rfl rfl (by decide) (by simp) ?_ ?_; rotate_left
  · intro hcs; simp only [Bool.and_eq_true, beqT, beqF] at hcs; intro g w hb hdep; replace hL := hL.grow hb; clear hdep; simp only [fillD, fLa, fLb, sTa, sTb]
    go_wp2
    exact cY
  simp only [apN, apC]
  refine' draw_guard (j := 5) rfl rfl rfl (by decide) (by simp) ?_ ?_; rotate_left
  · intro hcs; simp only [Bool.and_eq_true, beqT, beqF] at hcs; intro g w hb hdep; replace hL := hL.grow hb; have d6 := yv hdep 6; simp only [hcs, beq_self_eq_true, Bool.and_self, Bool.true_and, Bool.and_true, cnd_true] at d6; clear hdep; simp only [fillD, fLa, fLb, sTa, sTb]; simp only [d6]
    go_wp2_with (first | (with_reducible refine lld hL ?_) | (with_reducible refine ldD hL ?_))
    exact cY
  simp only [apN, apC]
  refine' draw_guard (j := 5) rfl rfl rfl (by decide) (by simp) ?_ ?_; rotate_left
  · intro hcs; simp only [Bool.and_eq_true, beqT, beqF] at hcs; intro g w hb hdep; replace hL := hL.grow hb; have d7 := yv hdep 7; simp only [hcs, beq_self_eq_true, Bool.and_self, Bool.true_and, Bool.and_true, cnd_true] at d7; clear hdep; simp only [fillD, fLa, fLb, sTa, sTb]; simp only [d7]
    go_wp2
    exact cY
  simp only [apN, apC]
  refine' draw_guard (j := 5) rfl rfl rfl (by decide) (by simp) ?_ ?_; rotate_left
  · intro hcs; simp only [Bool.and_eq_true, beqT, beqF] at hcs; intro g w hb hdep; replace hL := hL.grow hb; have d8 := yv hdep 8; simp only [hcs, beq_self_eq_true, Bool.and_self, Bool.true_and, Bool.and_true, cnd_true] at d8; clear hdep; simp only [fillD, fLa, fLb, sTa, sTb]; simp only [d8]
    go_wp2
    exact cY
  simp only [apN, apC]
  apply draw_val
  · intro g w hb hdep; replace hL := hL.grow hb; have d5 := yv hdep 5; have d9 := yv hdep 9; clear hdep; simp only [fillD, fLa, fLb, sTa, sTb]; simp only [d5, d9]
    first | refine wp_pick_or rfl rfl ?_ | go_wp2
    exact cY
  simp only [apN, apC]
  apply draw_val
  · intro g w hb hdep; replace hL := hL.grow hb; clear hdep; simp only [fillD, fLa, fLb, sTa, sTb]
    go_wp2
    exact cY
  simp only [apN, apC]
  apply draw_val
  · intro g w hb hdep; replace hL := hL.grow hb; have d11 := yv hdep 11; clear hdep; simp only [fillD, fLa, fLb, sTa, sTb]; simp only [d11]
    go_wp2_with (first | (with_reducible refine lld hL ?_) | (with_reducible refine ldD hL ?_))
    exact cY
  simp only [apN, apC]
  apply draw_val
  · intro g w hb hdep; replace hL := hL.grow hb; have d12 := yv hdep 12; clear hdep; simp only [fillD, fLa, fLb, sTa, sTb]; simp only [d12]
    go_wp2
    exact cY
  simp only [apN, apC]
  refine' draw_guard (j := 13) rfl rfl rfl (by decide) (by simp) ?_ ?_; rotate_left
  · intro hcs; simp only [Bool.and_eq_true, beqT, beqF] at hcs; intro g w hb hdep; replace hL := hL.grow hb; clear hdep; simp only [fillD, fLa, fLb, sTa, sTb]
    go_wp2
    exact cY
  simp only [apN, apC]
  refine' draw_guard (j := 13) rfl rfl rfl (by decide) (by simp) ?_ ?_; rotate_left
  · intro hcs; simp only [Bool.and_eq_true, beqT, beqF] at hcs; intro g w hb hdep; replace hL := hL.grow hb; have d14 := yv hdep 14; simp only [hcs, beq_self_eq_true, Bool.and_self, Bool.true_and, Bool.and_true, cnd_true] at d14; clear hdep; simp only [fillD, fLa, fLb, sTa, sTb]; simp only [d14]
    go_wp2_with (first | (with_reducible refine lld hL ?_) | (with_reducible refine ldD hL ?_))
    exact cY
  simp only [apN, apC]
  apply draw_val
  · intro g w hb hdep; replace hL := hL.grow hb; have d13 := yv hdep 13; have d15 := yv hdep 15; clear hdep; simp only [fillD, fLa, fLb, sTa, sTb]; simp only [d13, d15]
    first | refine wp_pick_or rfl rfl ?_ | go_wp2
    exact cY
  simp only [apN, apC]
  apply draw_val
  · intro g w hb hdep; replace hL := hL.grow hb; have d16 := yv hdep 16; clear hdep; simp only [fillD, fLa, fLb, sTa, sTb]; simp only [d16]
    go_wp2
    exact cY
  simp only [apN, apC]
  refine' draw_guard (j := 17) rfl rfl rfl (by decide) (by simp) ?_ ?_; rotate_left
  · intro hcs; simp only [Bool.and_eq_true, beqT, beqF] at hcs; intro g w hb hdep; replace hL := hL.grow hb; clear hdep; simp only [fillD, fLa, fLb, sTa, sTb]
    go_wp2
    exact cY
  simp only [apN, apC]
  apply draw_val
  · intro g w hb hdep; replace hL := hL.grow hb; have d17 := yv hdep 17; have d18 := yv hdep 18; clear hdep; simp only [fillD, fLa, fLb, sTa, sTb]; simp only [d17, d18]
    first | refine wp_pick_or rfl rfl ?_ | go_wp2
    exact cY
  simp only [apN, apC]
  apply draw_val
  · intro g w hb hdep; replace hL := hL.grow hb; have d10 := yv hdep 10; clear hdep; simp only [fillD, fLa, fLb, sTa, sTb]; simp only [d10]
    go_wp2
    exact cY
  simp only [apN, apC]
  apply draw_val
  · intro g w hb hdep; replace hL := hL.grow hb; have d19 := yv hdep 19; clear hdep; simp only [fillD, fLa, fLb, sTa, sTb]; simp only [d19]
    go_wp2
    exact cY
  simp only [apN, apC]
  refine seq_end hL (by kernel_rfl) ?_
  intro g w2 hb hR; simp only [List.length_cons, List.length_nil, Nat.reduceAdd] at hR
  have e0 := yv hR 0
  have e1 := yv hR 1
  have e2 := yv hR 2
  have e3 := yv hR 3
  have e4 := yv hR 4
  have e5 := yv hR 5
  have e6 := yv hR 6
  have e7 := yv hR 7
  have e8 := yv hR 8
  have e9 := yv hR 9
  have e10 := yv hR 10
  have e11 := yv hR 11
  have e12 := yv hR 12
  have e13 := yv hR 13
  have e14 := yv hR 14
  have e15 := yv hR 15
  have e16 := yv hR 16
  have e17 := yv hR 17
  have e18 := yv hR 18
  have e19 := yv hR 19
  have e20 := yv hR 20
  have e21 := yv hR 21
  clear hR; simp only [fillD, fLa, fLb, sTa, sTb]
  simp only [e0, e1, e2, e3, e4, e5, e6, e7, e8, e9, e10, e11, e12, e13, e14, e15, e16, e17, e18, e19, e20, e21]
  clear e0 e1 e2 e3 e4 e5 e6 e7 e8 e9 e10 e11 e12 e13 e14 e15 e16 e17 e18 e19 e20 e21
  replace hL := hL.grow hb
  clear hb
  go_wp2_with (first | (with_reducible refine lld hL ?_) | ((with_reducible first | refine lbx hL ?_ | refine lal hL ?_ | refine lbs hL ?_); clear hL; intro bl w1 hL) | ((with_reducible refine lst' hL ?_); clear hL; intro w1 hL))
  (try simp only [Exit.inBlock, Exit.then]); refine' ret2 rfl ?_ ?_ rfl ?_; (case refine'_3 => exact cRes); (case refine'_4 => exact cRes)
  refine ⟨ret_two ?_ ?_, hL.below⟩
  · cases sn <;> simp [yesG]
  · simp [noG]
set_option maxRecDepth 100000 in
set_option maxHeartbeats 1600000 in
theorem rTruthOf_any (g : Gu) (w : World) : Calls Tryz.prog 18 #[g.v] w fun e w' => e = .returned (.tuple #[.bool (yesG g), .bool (noG g)]) ∧ Below w.heap.size w w' := by
  obtain ⟨nl, ⟨sn, slo, shi⟩, tr, fa, ⟨sp, sc, scap⟩⟩ := g
  have hL := Loc.start w
  go_enter Tryz.func18, Tryz.ntmps18
  go_upto_region 1 with (first | (with_reducible refine lld hL ?_) | ((with_reducible first | refine lbx hL ?_ | refine lal hL ?_ | refine lbs hL ?_); clear hL; intro bl w1 hL) | ((with_reducible refine lst' hL ?_); clear hL; intro w1 hL))
  refine seq_begin [5, 6, 7, 8, 9, 10, 11, 12, 13, 14, 15, 16, 17, 18, 19, 20, 21, 22, 23, 24, 25, 26, 27, 28, 29, 30, 4] ?_
  apply draw_val
  · intro g w hb hdep; replace hL := hL.grow hb; clear hdep; simp only [fillD, fLa, fLb, sTa, sTb]
    go_wp2
    exact cY
  simp only [apN, apC]
  apply draw_val
  · intro g w hb hdep; replace hL := hL.grow hb; have d0 := yv hdep 0; clear hdep; simp only [fillD, fLa, fLb, sTa, sTb]; simp only [d0]
    go_wp2_with (first | (with_reducible refine lld hL ?_) | (with_reducible refine ldD hL ?_))
    exact cY
  simp only [apN, apC]
  apply draw_val
  · intro g w hb hdep; replace hL := hL.grow hb; have d1 := yv hdep 1; clear hdep; simp only [fillD, fLa, fLb, sTa, sTb]; simp only [d1]
    go_wp2
    exact cY
  simp only [apN, apC]
  refine' draw_guard (j := 2) rfl rfl rfl (by decide) (by simp) ?_ ?_; rotate_left
  · intro hcs; simp only [Bool.and_eq_true, beqT, beqF] at hcs; intro g w hb hdep; replace hL := hL.grow hb; clear hdep; simp only [fillD, fLa, fLb, sTa, sTb]
    go_wp2
    exact cY
  simp only [apN, apC]
  refine' draw_guard (j := 2) rfl rfl rfl (by decide) (by simp) ?_ ?_; rotate_left
  · intro hcs; simp only [Bool.and_eq_true, beqT, beqF] at hcs; intro g w hb hdep; replace hL := hL.grow hb; have d3 := yv hdep 3; simp only [hcs, beq_self_eq_true, Bool.and_self, Bool.true_and, Bool.and_true, cnd_true] at d3; clear hdep; simp only [fillD, fLa, fLb, sTa, sTb]; simp only [d3]
    go_wp2_with (first | (with_reducible refine lld hL ?_) | (with_reducible refine ldD hL ?_))
    exact cY
  simp only [apN, apC]
  refine' draw_guard (j := 2) rfl rfl rfl (by decide) (by simp) ?_ ?_; rotate_left
  · intro hcs; simp only [Bool.and_eq_true, beqT, beqF] at hcs; intro g w hb hdep; replace hL := hL.grow hb; have d4 := yv hdep 4; simp only [hcs, beq_self_eq_true, Bool.and_self, Bool.true_and, Bool.and_true, cnd_true] at d4; clear hdep; simp only [fillD, fLa, fLb, sTa, sTb]; simp only [d4]
    go_wp2
    exact cY
  simp only [apN, apC]
  refine' draw_guard (j := 2) rfl rfl rfl (by decide) (by simp) ?_ ?_; rotate_left
  · intro hcs; simp only [Bool.and_eq_true, beqT, beqF] at hcs; intro g w hb hdep; replace hL := hL.grow hb; have d5 := yv hdep 5; simp only [hcs, beq_self_eq_true, Bool.and_self, Bool.true_and, Bool.and_true, cnd_true] at d5; clear hdep; simp only [fillD, fLa, fLb, sTa, sTb]; simp only [d5]
    go_wp2
    exact cY
  simp only [apN, apC]
  apply draw_val
  · intro g w hb hdep; replace hL := hL.grow hb; have d2 := yv hdep 2; have d6 := yv hdep 6; clear hdep; simp only [fillD, fLa, fLb, sTa, sTb]; simp only [d2, d6]
    first | refine wp_pick_or rfl rfl ?_ | go_wp2
    exact cY
  simp only [apN, apC]
  apply draw_val
  · intro g w hb hdep; replace hL := hL.grow hb; have d7 := yv hdep 7; clear hdep; simp only [fillD, fLa, fLb, sTa, sTb]; simp only [d7]
    go_wp2
    exact cY
  simp only [apN, apC]
  refine' draw_guard (j := 8) rfl rfl rfl (by decide) (by simp) ?_ ?_; rotate_left
  · intro hcs; simp only [Bool.and_eq_true, beqT, beqF] at hcs; intro g w hb hdep; replace hL := hL.grow hb; clear hdep; simp only [fillD, fLa, fLb, sTa, sTb]
    go_wp2
    exact cY
  simp only [apN, apC]
  refine' draw_guard (j := 8) rfl rfl rfl (by decide) (by simp) ?_ ?_; rotate_left
  · intro hcs; simp only [Bool.and_eq_true, beqT, beqF] at hcs; intro g w hb hdep; replace hL := hL.grow hb; have d9 := yv hdep 9; simp only [hcs, beq_self_eq_true, Bool.and_self, Bool.true_and, Bool.and_true, cnd_true] at d9; clear hdep; simp only [fillD, fLa, fLb, sTa, sTb]; simp only [d9]
    go_wp2
    exact cY
  simp only [apN, apC]
  refine' draw_guard (j := 8) rfl rfl rfl (by decide) (by simp) ?_ ?_; rotate_left
  · intro hcs; simp only [Bool.and_eq_true, beqT, beqF] at hcs; intro g w hb hdep; replace hL := hL.grow hb; have d10 := yv hdep 10; simp only [hcs, beq_self_eq_true, Bool.and_self, Bool.true_and, Bool.and_true, cnd_true] at d10; clear hdep; simp only [fillD, fLa, fLb, sTa, sTb]; simp only [d10]
    go_wp2_with (first | (with_reducible refine lld hL ?_) | (with_reducible refine ldD hL ?_))
    exact cY
  simp only [apN, apC]
  refine' draw_guard (j := 8) rfl rfl rfl (by decide) (by simp) ?_ ?_; rotate_left
  · intro hcs; simp only [Bool.and_eq_true, beqT, beqF] at hcs; intro g w hb hdep; replace hL := hL.grow hb; have d11 := yv hdep 11; simp only [hcs, beq_self_eq_true, Bool.and_self, Bool.true_and, Bool.and_true, cnd_true] at d11; clear hdep; simp only [fillD, fLa, fLb, sTa, sTb]; simp only [d11]
    go_wp2
    exact cY
  simp only [apN, apC]
  refine' draw_guard (j := 8) rfl rfl rfl (by decide) (by simp) ?_ ?_; rotate_left
  · intro hcs; simp only [Bool.and_eq_true, beqT, beqF] at hcs; intro g w hb hdep; replace hL := hL.grow hb; have d12 := yv hdep 12; simp only [hcs, beq_self_eq_true, Bool.and_self, Bool.true_and, Bool.and_true, cnd_true] at d12; clear hdep; simp only [fillD, fLa, fLb, sTa, sTb]; simp only [d12]
    go_wp2
    exact cY
  simp only [apN, apC]
  refine' draw_guardC (j := 13) rfl rfl rfl (by decide) (by simp) ?_ ?_; rotate_left
  · intro hcs; simp only [Bool.and_eq_true, beqT, beqF] at hcs; intro g w hb hdep; replace hL := hL.grow hb; clear hdep; simp only [fillD, fLa, fLb, sTa, sTb]
    go_wp2
    exact cY
  simp only [apN, apC]
  refine' draw_guardC (j := 13) rfl rfl rfl (by decide) (by simp) ?_ ?_; rotate_left
  · intro hcs; simp only [Bool.and_eq_true, beqT, beqF] at hcs; intro g w hb hdep; replace hL := hL.grow hb; have d14 := yv hdep 14; simp only [hcs, beq_self_eq_true, Bool.and_self, Bool.true_and, Bool.and_true, cnd_true] at d14; clear hdep; simp only [fillD, fLa, fLb, sTa, sTb]; simp only [d14]
    go_wp2
    exact cY
  simp only [apN, apC]
  refine' draw_guardC (j := 13) rfl rfl rfl (by decide) (by simp) ?_ ?_; rotate_left
  · intro hcs; simp only [Bool.and_eq_true, beqT, beqF] at hcs; intro g w hb hdep; replace hL := hL.grow hb; have d15 := yv hdep 15; simp only [hcs, beq_self_eq_true, Bool.and_self, Bool.true_and, Bool.and_true, cnd_true] at d15; clear hdep; simp only [fillD, fLa, fLb, sTa, sTb]; simp only [d15]
    go_wp2_with (first | (with_reducible refine lld hL ?_) | (with_reducible refine ldD hL ?_))
    exact cY
  simp only [apN, apC]
  refine' draw_guardC (j := 13) rfl rfl rfl (by decide) (by simp) ?_ ?_; rotate_left
  · intro hcs; simp only [Bool.and_eq_true, beqT, beqF] at hcs; intro g w hb hdep; replace hL := hL.grow hb; have d16 := yv hdep 16; simp only [hcs, beq_self_eq_true, Bool.and_self, Bool.true_and, Bool.and_true, cnd_true] at d16; clear hdep; simp only [fillD, fLa, fLb, sTa, sTb]; simp only [d16]
    go_wp2
    exact cY
  simp only [apN, apC]
  refine' draw_guardC (j := 13) rfl rfl rfl (by decide) (by simp) ?_ ?_; rotate_left
  · intro hcs; simp only [Bool.and_eq_true, beqT, beqF] at hcs; intro g w hb hdep; replace hL := hL.grow hb; have d17 := yv hdep 17; simp only [hcs, beq_self_eq_true, Bool.and_self, Bool.true_and, Bool.and_true, cnd_true] at d17; clear hdep; simp only [fillD, fLa, fLb, sTa, sTb]; simp only [d17]
    go_wp2
    exact cY
  simp only [apN, apC]
  refine' draw_guardC (j := 18) rfl rfl rfl (by decide) (by simp) ?_ ?_; rotate_left
  · intro hcs; simp only [Bool.and_eq_true, beqT, beqF] at hcs; intro g w hb hdep; replace hL := hL.grow hb; clear hdep; simp only [fillD, fLa, fLb, sTa, sTb]
    go_wp2
    exact cY
  simp only [apN, apC]
  refine' draw_guardC (j := 18) rfl rfl rfl (by decide) (by simp) ?_ ?_; rotate_left
  · intro hcs; simp only [Bool.and_eq_true, beqT, beqF] at hcs; intro g w hb hdep; replace hL := hL.grow hb; have d19 := yv hdep 19; simp only [hcs, beq_self_eq_true, Bool.and_self, Bool.true_and, Bool.and_true, cnd_true] at d19; clear hdep; simp only [fillD, fLa, fLb, sTa, sTb]; simp only [d19]
    go_wp2
    exact cY
  simp only [apN, apC]
  refine' draw_guardC (j := 18) rfl rfl rfl (by decide) (by simp) ?_ ?_; rotate_left
  · intro hcs; simp only [Bool.and_eq_true, beqT, beqF] at hcs; intro g w hb hdep; replace hL := hL.grow hb; have d20 := yv hdep 20; simp only [hcs, beq_self_eq_true, Bool.and_self, Bool.true_and, Bool.and_true, cnd_true] at d20; clear hdep; simp only [fillD, fLa, fLb, sTa, sTb]; simp only [d20]
    go_wp2_with (first | (with_reducible refine lld hL ?_) | (with_reducible refine ldD hL ?_))
    exact cY
  simp only [apN, apC]
  refine' draw_guardC (j := 18) rfl rfl rfl (by decide) (by simp) ?_ ?_; rotate_left
  · intro hcs; simp only [Bool.and_eq_true, beqT, beqF] at hcs; intro g w hb hdep; replace hL := hL.grow hb; have d21 := yv hdep 21; simp only [hcs, beq_self_eq_true, Bool.and_self, Bool.true_and, Bool.and_true, cnd_true] at d21; clear hdep; simp only [fillD, fLa, fLb, sTa, sTb]; simp only [d21]
    go_wp2
    exact cY
  simp only [apN, apC]
  refine' draw_guardC (j := 13) rfl rfl rfl (by decide) (by simp) ?_ ?_; rotate_left
  · intro hcs; simp only [Bool.and_eq_true, beqT, beqF] at hcs; intro g w hb hdep; replace hL := hL.grow hb; have d18 := yv hdep 18; simp only [hcs, beq_self_eq_true, Bool.and_self, Bool.true_and, Bool.and_true, cnd_true] at d18; have d22 := yv hdep 22; simp only [hcs, beq_self_eq_true, Bool.and_self, Bool.true_and, Bool.and_true, cnd_true] at d22; clear hdep; simp only [fillD, fLa, fLb, sTa, sTb]; simp only [d18, d22]
    first | refine wp_pick_or rfl rfl ?_ | go_wp2
    exact cY
  simp only [apN, apC]
  refine' draw_guard (j := 8) rfl rfl rfl (by decide) (by simp) ?_ ?_; rotate_left
  · intro hcs; simp only [Bool.and_eq_true, beqT, beqF] at hcs; intro g w hb hdep; replace hL := hL.grow hb; have d13 := yv hdep 13; simp only [hcs, beq_self_eq_true, Bool.and_self, Bool.true_and, Bool.and_true, cnd_true] at d13; have d23 := yv hdep 23; simp only [hcs, beq_self_eq_true, Bool.and_self, Bool.true_and, Bool.and_true, cnd_true] at d23; clear hdep; simp only [fillD, fLa, fLb, sTa, sTb]; simp only [d13, d23]
    first | refine wp_pick_and rfl rfl ?_ | go_wp2
    exact cY
  simp only [apN, apC]
  apply draw_val
  · intro g w hb hdep; replace hL := hL.grow hb; have d8 := yv hdep 8; have d24 := yv hdep 24; clear hdep; simp only [fillD, fLa, fLb, sTa, sTb]; simp only [d8, d24]
    first | refine wp_pick_or rfl rfl ?_ | go_wp2
    exact cY
  simp only [apN, apC]
  apply draw_val
  · intro g w hb hdep; replace hL := hL.grow hb; have d25 := yv hdep 25; clear hdep; simp only [fillD, fLa, fLb, sTa, sTb]; simp only [d25]
    go_wp2
    exact cY
  simp only [apN, apC]
  refine seq_end hL (by kernel_rfl) ?_
  intro g w2 hb hR; simp only [List.length_cons, List.length_nil, Nat.reduceAdd] at hR
  have e0 := yv hR 0
  have e1 := yv hR 1
  have e2 := yv hR 2
  have e3 := yv hR 3
  have e4 := yv hR 4
  have e5 := yv hR 5
  have e6 := yv hR 6
  have e7 := yv hR 7
  have e8 := yv hR 8
  have e9 := yv hR 9
  have e10 := yv hR 10
  have e11 := yv hR 11
  have e12 := yv hR 12
  have e13 := yv hR 13
  have e14 := yv hR 14
  have e15 := yv hR 15
  have e16 := yv hR 16
  have e17 := yv hR 17
  have e18 := yv hR 18
  have e19 := yv hR 19
  have e20 := yv hR 20
  have e21 := yv hR 21
  have e22 := yv hR 22
  have e23 := yv hR 23
  have e24 := yv hR 24
  have e25 := yv hR 25
  have e26 := yv hR 26
  clear hR; simp only [fillD, fLa, fLb, sTa, sTb]
  simp only [e0, e1, e2, e3, e4, e5, e6, e7, e8, e9, e10, e11, e12, e13, e14, e15, e16, e17, e18, e19, e20, e21, e22, e23, e24, e25, e26]
  clear e0 e1 e2 e3 e4 e5 e6 e7 e8 e9 e10 e11 e12 e13 e14 e15 e16 e17 e18 e19 e20 e21 e22 e23 e24 e25 e26
  replace hL := hL.grow hb
  clear hb
  go_upto_region 2 with (first | (with_reducible refine lld hL ?_) | ((with_reducible first | refine lbx hL ?_ | refine lal hL ?_ | refine lbs hL ?_); clear hL; intro bl w1 hL) | ((with_reducible refine lst' hL ?_); clear hL; intro w1 hL))
  refine seq_begin [31, 32, 33, 34, 35, 36, 37, 38, 39, 40, 41, 42, 2, 3] ?_
  apply draw_val
  · intro g w hb hdep; replace hL := hL.grow hb; clear hdep; simp only [fillD, fLa, fLb, sTa, sTb]
    go_wp2
    exact cY
  simp only [apN, apC]
  apply draw_val
  · intro g w hb hdep; replace hL := hL.grow hb; clear hdep; simp only [fillD, fLa, fLb, sTa, sTb]
    go_wp2
    exact cY
  simp only [apN, apC]
  apply draw_val
  · intro g w hb hdep; replace hL := hL.grow hb; have d1 := yv hdep 1; clear hdep; simp only [fillD, fLa, fLb, sTa, sTb]; simp only [d1]
    go_wp2_with (first | (with_reducible refine lld hL ?_) | (with_reducible refine ldD hL ?_))
    exact cY
  simp only [apN, apC]
  apply draw_val
  · intro g w hb hdep; replace hL := hL.grow hb; have d2 := yv hdep 2; clear hdep; simp only [fillD, fLa, fLb, sTa, sTb]; simp only [d2]
    go_wp2
    exact cY
  simp only [apN, apC]
  refine' draw_guard (j := 3) rfl rfl rfl (by decide) (by simp) ?_ ?_; rotate_left
  · intro hcs; simp only [Bool.and_eq_true, beqT, beqF] at hcs; intro g w hb hdep; replace hL := hL.grow hb; clear hdep; simp only [fillD, fLa, fLb, sTa, sTb]
    go_wp2
    exact cY
  simp only [apN, apC]
  refine' draw_guard (j := 3) rfl rfl rfl (by decide) (by simp) ?_ ?_; rotate_left
  · intro hcs; simp only [Bool.and_eq_true, beqT, beqF] at hcs; intro g w hb hdep; replace hL := hL.grow hb; have d4 := yv hdep 4; simp only [hcs, beq_self_eq_true, Bool.and_self, Bool.true_and, Bool.and_true, cnd_true] at d4; clear hdep; simp only [fillD, fLa, fLb, sTa, sTb]; simp only [d4]
    go_wp2_with (first | (with_reducible refine lld hL ?_) | (with_reducible refine ldD hL ?_))
    exact cY
  simp only [apN, apC]
  apply draw_val
  · intro g w hb hdep; replace hL := hL.grow hb; have d3 := yv hdep 3; have d5 := yv hdep 5; clear hdep; simp only [fillD, fLa, fLb, sTa, sTb]; simp only [d3, d5]
    first | refine wp_pick_or rfl rfl ?_ | go_wp2
    exact cY
  simp only [apN, apC]
  apply draw_val
  · intro g w hb hdep; replace hL := hL.grow hb; have d6 := yv hdep 6; clear hdep; simp only [fillD, fLa, fLb, sTa, sTb]; simp only [d6]
    go_wp2
    exact cY
  simp only [apN, apC]
  refine' draw_guard (j := 7) rfl rfl rfl (by decide) (by simp) ?_ ?_; rotate_left
  · intro hcs; simp only [Bool.and_eq_true, beqT, beqF] at hcs; intro g w hb hdep; replace hL := hL.grow hb; clear hdep; simp only [fillD, fLa, fLb, sTa, sTb]
    go_wp2
    exact cY
  simp only [apN, apC]
  refine' draw_guard (j := 7) rfl rfl rfl (by decide) (by simp) ?_ ?_; rotate_left
  · intro hcs; simp only [Bool.and_eq_true, beqT, beqF] at hcs; intro g w hb hdep; replace hL := hL.grow hb; have d8 := yv hdep 8; simp only [hcs, beq_self_eq_true, Bool.and_self, Bool.true_and, Bool.and_true, cnd_true] at d8; clear hdep; simp only [fillD, fLa, fLb, sTa, sTb]; simp only [d8]
    go_wp2_with (first | (with_reducible refine lld hL ?_) | (with_reducible refine ldD hL ?_))
    exact cY
  simp only [apN, apC]
  refine' draw_guard (j := 7) rfl rfl rfl (by decide) (by simp) ?_ ?_; rotate_left
  · intro hcs; simp only [Bool.and_eq_true, beqT, beqF] at hcs; intro g w hb hdep; replace hL := hL.grow hb; have d9 := yv hdep 9; simp only [hcs, beq_self_eq_true, Bool.and_self, Bool.true_and, Bool.and_true, cnd_true] at d9; clear hdep; simp only [fillD, fLa, fLb, sTa, sTb]; simp only [d9]
    go_wp2_with (go_at_call 42; refine (rIn_any ⟨sn, slo, shi⟩ 0 _).mono ?_; rintro e w3 ⟨rfl, hb3⟩; dsimp only)
    exact ⟨rfl, _, rfl, (by assumption), rfl⟩
  simp only [apN, apC]
  apply draw_val
  · intro g w hb hdep; replace hL := hL.grow hb; have d7 := yv hdep 7; have d10 := yv hdep 10; clear hdep; simp only [fillD, fLa, fLb, sTa, sTb]; simp only [d7, d10]
    first | refine wp_pick_or rfl rfl ?_ | go_wp2
    exact cY
  simp only [apN, apC]
  apply draw_val
  · intro g w hb hdep; replace hL := hL.grow hb; have d0 := yv hdep 0; clear hdep; simp only [fillD, fLa, fLb, sTa, sTb]; simp only [d0]
    go_wp2
    exact cY
  simp only [apN, apC]
  apply draw_val
  · intro g w hb hdep; replace hL := hL.grow hb; have d11 := yv hdep 11; clear hdep; simp only [fillD, fLa, fLb, sTa, sTb]; simp only [d11]
    go_wp2
    exact cY
  simp only [apN, apC]
  refine seq_end hL (by kernel_rfl) ?_
  intro g w2 hb hR; simp only [List.length_cons, List.length_nil, Nat.reduceAdd] at hR
  have e0 := yv hR 0
  have e1 := yv hR 1
  have e2 := yv hR 2
  have e3 := yv hR 3
  have e4 := yv hR 4
  have e5 := yv hR 5
  have e6 := yv hR 6
  have e7 := yv hR 7
  have e8 := yv hR 8
  have e9 := yv hR 9
  have e10 := yv hR 10
  have e11 := yv hR 11
  have e12 := yv hR 12
  have e13 := yv hR 13
  clear hR; simp only [fillD, fLa, fLb, sTa, sTb]
  simp only [e0, e1, e2, e3, e4, e5, e6, e7, e8, e9, e10, e11, e12, e13]
  clear e0 e1 e2 e3 e4 e5 e6 e7 e8 e9 e10 e11 e12 e13
  replace hL := hL.grow hb
  clear hb
  go_wp2_with (first | (with_reducible refine lld hL ?_) | ((with_reducible first | refine lbx hL ?_ | refine lal hL ?_ | refine lbs hL ?_); clear hL; intro bl w1 hL) | ((with_reducible refine lst' hL ?_); clear hL; intro w1 hL))
  (try simp only [Exit.inBlock, Exit.then]); refine' ret2 rfl ?_ ?_ rfl ?_; (case refine'_3 => exact cRes); (case refine'_4 => exact cRes)
  refine ⟨ret_two ?_ ?_, hL.below⟩
  · rw [Bool.eq_iff_iff]; cases sn <;> cases tr <;> simp [yesG] <;> omega
  · simp [noG]
set_option maxRecDepth 100000 in
set_option maxHeartbeats 1600000 in
theorem truths_any (a b : Bool) (w : World) : Calls Tryz.prog 47 #[.bool a, .bool b] w fun e w' => e = .returned (Gu.v ⟨false, noSpan, a, b, nilSl⟩) ∧ Below w.heap.size w w' := by
  have hL := Loc.start w
  go_enter Tryz.func47, Tryz.ntmps47
  go_wp2_with (first | (with_reducible refine lld hL ?_) | ((with_reducible first | refine lbx hL ?_ | refine lal hL ?_ | refine lbs hL ?_); clear hL; intro bl w1 hL) | ((with_reducible refine lst' hL ?_); clear hL; intro w1 hL) | (go_at_call 46; refine (nothing_any _).mono ?_; rintro e w1 ⟨rfl, hb⟩; replace hL := hL.grow hb; clear hb; dsimp only))
  (try simp only [Exit.inBlock, Exit.then]); refine' ret1 rfl ?_ rfl ?_; (case refine'_2 => exact cRes)
  exact ⟨rfl, hL.below⟩
set_option maxRecDepth 100000 in
set_option maxHeartbeats 1600000 in
theorem gIs_any (k : Int) (w : World) : Calls Tryz.prog 21 #[.int .i64 k] w fun e w' => e = .returned (.bool (betw k 4 10)) ∧ Below w.heap.size w w' := by
  have hL := Loc.start w
  by_cases h1 : (4 : Int) ≤ k
  all_goals
    go_enter Tryz.func21, Tryz.ntmps21
    go_wp2_with (first | (with_reducible refine lld hL ?_) | ((with_reducible first | refine lbx hL ?_ | refine lal hL ?_ | refine lbs hL ?_); clear hL; intro bl w1 hL) | ((with_reducible refine lst' hL ?_); clear hL; intro w1 hL))
    (try simp only [Exit.inBlock, Exit.then]); refine' ret1 rfl ?_ rfl ?_; (case refine'_2 => exact cRes)
    exact ⟨by simp [betw]; omega, hL.below⟩

/-! ### two -/
set_option maxRecDepth 100000 in
set_option maxHeartbeats 1600000 in
theorem two_nil (k : Int) (g h : Gu) (hn : (g.span.none || h.span.none) = true) (w : World) : Calls Tryz.prog 49 #[.int .i64 k, g.v, h.v] w fun e w' => e = .returned nothingG.v ∧ Below w.heap.size w w' := by
  have hL := Loc.start w
  go_enter Tryz.func49, Tryz.ntmps49
  go_upto_region 3 with (first | (with_reducible refine lld hL ?_) | ((with_reducible first | refine lbx hL ?_ | refine lal hL ?_ | refine lbs hL ?_); clear hL; intro bl w1 hL) | ((with_reducible refine lst' hL ?_); clear hL; intro w1 hL) | (go_at_call 46; refine (nothing_any _).mono ?_; rintro e w1 ⟨rfl, hb⟩; replace hL := hL.grow hb; clear hb; dsimp only))
  refine seq_begin [17, 18, 19, 20, 21, 22, 23, 24, 16] ?_
  apply draw_val
  · intro g w hb hdep; replace hL := hL.grow hb; clear hdep; simp only [fillD, fLa, fLb, sTa, sTb]
    go_wp2
    exact cY
  simp only [apN, apC]
  apply draw_val
  · intro g w hb hdep; replace hL := hL.grow hb; have d0 := yv hdep 0; clear hdep; simp only [fillD, fLa, fLb, sTa, sTb]; simp only [d0]
    go_wp2
    exact cY
  simp only [apN, apC]
  apply draw_val
  · intro g w hb hdep; replace hL := hL.grow hb; have d1 := yv hdep 1; clear hdep; simp only [fillD, fLa, fLb, sTa, sTb]; simp only [d1]
    go_wp2_with (first | (with_reducible refine lld hL ?_) | (with_reducible refine ldD hL ?_))
    exact cY
  simp only [apN, apC]
  apply draw_val
  · intro g w hb hdep; replace hL := hL.grow hb; have d2 := yv hdep 2; clear hdep; simp only [fillD, fLa, fLb, sTa, sTb]; simp only [d2]
    go_wp2
    exact cY
  simp only [apN, apC]
  refine' draw_guard (j := 3) rfl rfl rfl (by decide) (by simp) ?_ ?_; rotate_left
  · intro hcs; simp only [Bool.and_eq_true, beqT, beqF] at hcs; intro g w hb hdep; replace hL := hL.grow hb; clear hdep; simp only [fillD, fLa, fLb, sTa, sTb]
    go_wp2
    exact cY
  simp only [apN, apC]
  refine' draw_guard (j := 3) rfl rfl rfl (by decide) (by simp) ?_ ?_; rotate_left
  · intro hcs; simp only [Bool.and_eq_true, beqT, beqF] at hcs; intro g w hb hdep; replace hL := hL.grow hb; have d4 := yv hdep 4; simp only [hcs, beq_self_eq_true, Bool.and_self, Bool.true_and, Bool.and_true, cnd_true] at d4; clear hdep; simp only [fillD, fLa, fLb, sTa, sTb]; simp only [d4]
    go_wp2
    exact cY
  simp only [apN, apC]
  refine' draw_guard (j := 3) rfl rfl rfl (by decide) (by simp) ?_ ?_; rotate_left
  · intro hcs; simp only [Bool.and_eq_true, beqT, beqF] at hcs; intro g w hb hdep; replace hL := hL.grow hb; have d5 := yv hdep 5; simp only [hcs, beq_self_eq_true, Bool.and_self, Bool.true_and, Bool.and_true, cnd_true] at d5; clear hdep; simp only [fillD, fLa, fLb, sTa, sTb]; simp only [d5]
    go_wp2_with (first | (with_reducible refine lld hL ?_) | (with_reducible refine ldD hL ?_))
    exact cY
  simp only [apN, apC]
  apply draw_val
  · intro g w hb hdep; replace hL := hL.grow hb; have d3 := yv hdep 3; have d6 := yv hdep 6; clear hdep; simp only [fillD, fLa, fLb, sTa, sTb]; simp only [d3, d6]
    first | refine wp_pick_or rfl rfl ?_ | go_wp2
    exact cY
  simp only [apN, apC]
  apply draw_val
  · intro g w hb hdep; replace hL := hL.grow hb; have d7 := yv hdep 7; clear hdep; simp only [fillD, fLa, fLb, sTa, sTb]; simp only [d7]
    go_wp2
    exact cY
  simp only [apN, apC]
  refine seq_end hL (by kernel_rfl) ?_
  intro g w2 hb hR; simp only [List.length_cons, List.length_nil, Nat.reduceAdd] at hR
  have e0 := yv hR 0
  have e1 := yv hR 1
  have e2 := yv hR 2
  have e3 := yv hR 3
  have e4 := yv hR 4
  have e5 := yv hR 5
  have e6 := yv hR 6
  have e7 := yv hR 7
  have e8 := yv hR 8
  clear hR; simp only [fillD, fLa, fLb, sTa, sTb]
  simp only [e0, e1, e2, e3, e4, e5, e6, e7, e8]
  clear e0 e1 e2 e3 e4 e5 e6 e7 e8
  replace hL := hL.grow hb
  clear hb
  simp only [hn]
  go_wp2_with (first | (with_reducible refine lld hL ?_) | ((with_reducible first | refine lbx hL ?_ | refine lal hL ?_ | refine lbs hL ?_); clear hL; intro bl w1 hL) | ((with_reducible refine lst' hL ?_); clear hL; intro w1 hL))
  (try simp only [Exit.inBlock, Exit.then]); refine' ret1 rfl ?_ rfl ?_; (case refine'_2 => exact cRes)
  exact ⟨rfl, hL.below⟩
set_option maxRecDepth 100000 in
set_option maxHeartbeats 1600000 in
theorem two_made (k : Int) (hk : k = 5 ∨ k = 6 ∨ k = 7) (g h : Gu) (h1 : Ends g.span) (h2 : Ends h.span) (hn : (g.span.none || h.span.none) = false) (w : World) : Calls Tryz.prog 49 #[.int .i64 k, g.v, h.v] w fun e w' => e = .returned (Gu.v ⟨false, made k g.span h.span, false, false, nilSl⟩) ∧ Below w.heap.size w w' := by
  have HM := Lib.hid (fun w' => made_any k hk g.span h.span h1 h2 w')
  have hk8 : (k == 8) = false := beq_eq_false_iff_ne.2 (by omega)
  clear hk h1 h2
  have hL := Loc.start w
  go_enter Tryz.func49, Tryz.ntmps49
  go_upto_region 3 with (first | (with_reducible refine lld hL ?_) | ((with_reducible first | refine lbx hL ?_ | refine lal hL ?_ | refine lbs hL ?_); clear hL; intro bl w1 hL) | ((with_reducible refine lst' hL ?_); clear hL; intro w1 hL) | (go_at_call 46; refine (nothing_any _).mono ?_; rintro e w1 ⟨rfl, hb⟩; replace hL := hL.grow hb; clear hb; dsimp only))
  refine seq_begin [17, 18, 19, 20, 21, 22, 23, 24, 16] ?_
  apply draw_val
  · intro g w hb hdep; replace hL := hL.grow hb; clear hdep; simp only [fillD, fLa, fLb, sTa, sTb]
    go_wp2
    exact cY
  simp only [apN, apC]
  apply draw_val
  · intro g w hb hdep; replace hL := hL.grow hb; have d0 := yv hdep 0; clear hdep; simp only [fillD, fLa, fLb, sTa, sTb]; simp only [d0]
    go_wp2
    exact cY
  simp only [apN, apC]
  apply draw_val
  · intro g w hb hdep; replace hL := hL.grow hb; have d1 := yv hdep 1; clear hdep; simp only [fillD, fLa, fLb, sTa, sTb]; simp only [d1]
    go_wp2_with (first | (with_reducible refine lld hL ?_) | (with_reducible refine ldD hL ?_))
    exact cY
  simp only [apN, apC]
  apply draw_val
  · intro g w hb hdep; replace hL := hL.grow hb; have d2 := yv hdep 2; clear hdep; simp only [fillD, fLa, fLb, sTa, sTb]; simp only [d2]
    go_wp2
    exact cY
  simp only [apN, apC]
  refine' draw_guard (j := 3) rfl rfl rfl (by decide) (by simp) ?_ ?_; rotate_left
  · intro hcs; simp only [Bool.and_eq_true, beqT, beqF] at hcs; intro g w hb hdep; replace hL := hL.grow hb; clear hdep; simp only [fillD, fLa, fLb, sTa, sTb]
    go_wp2
    exact cY
  simp only [apN, apC]
  refine' draw_guard (j := 3) rfl rfl rfl (by decide) (by simp) ?_ ?_; rotate_left
  · intro hcs; simp only [Bool.and_eq_true, beqT, beqF] at hcs; intro g w hb hdep; replace hL := hL.grow hb; have d4 := yv hdep 4; simp only [hcs, beq_self_eq_true, Bool.and_self, Bool.true_and, Bool.and_true, cnd_true] at d4; clear hdep; simp only [fillD, fLa, fLb, sTa, sTb]; simp only [d4]
    go_wp2
    exact cY
  simp only [apN, apC]
  refine' draw_guard (j := 3) rfl rfl rfl (by decide) (by simp) ?_ ?_; rotate_left
  · intro hcs; simp only [Bool.and_eq_true, beqT, beqF] at hcs; intro g w hb hdep; replace hL := hL.grow hb; have d5 := yv hdep 5; simp only [hcs, beq_self_eq_true, Bool.and_self, Bool.true_and, Bool.and_true, cnd_true] at d5; clear hdep; simp only [fillD, fLa, fLb, sTa, sTb]; simp only [d5]
    go_wp2_with (first | (with_reducible refine lld hL ?_) | (with_reducible refine ldD hL ?_))
    exact cY
  simp only [apN, apC]
  apply draw_val
  · intro g w hb hdep; replace hL := hL.grow hb; have d3 := yv hdep 3; have d6 := yv hdep 6; clear hdep; simp only [fillD, fLa, fLb, sTa, sTb]; simp only [d3, d6]
    first | refine wp_pick_or rfl rfl ?_ | go_wp2
    exact cY
  simp only [apN, apC]
  apply draw_val
  · intro g w hb hdep; replace hL := hL.grow hb; have d7 := yv hdep 7; clear hdep; simp only [fillD, fLa, fLb, sTa, sTb]; simp only [d7]
    go_wp2
    exact cY
  simp only [apN, apC]
  refine seq_end hL (by kernel_rfl) ?_
  intro g w2 hb hR; simp only [List.length_cons, List.length_nil, Nat.reduceAdd] at hR
  have e0 := yv hR 0
  have e1 := yv hR 1
  have e2 := yv hR 2
  have e3 := yv hR 3
  have e4 := yv hR 4
  have e5 := yv hR 5
  have e6 := yv hR 6
  have e7 := yv hR 7
  have e8 := yv hR 8
  clear hR; simp only [fillD, fLa, fLb, sTa, sTb]
  simp only [e0, e1, e2, e3, e4, e5, e6, e7, e8]
  clear e0 e1 e2 e3 e4 e5 e6 e7 e8
  replace hL := hL.grow hb
  clear hb
  simp only [hn]
  go_wp2_with (first | (with_reducible refine lld hL ?_) | ((with_reducible first | refine lbx hL ?_ | refine lal hL ?_ | refine lbs hL ?_); clear hL; intro bl w1 hL) | ((with_reducible refine lst' hL ?_); clear hL; intro w1 hL) | (go_at_call 74; refine (HM.out _).mono ?_; rintro e w1 ⟨rfl, hb⟩; replace hL := hL.grow hb; clear hb; dsimp only))
  (try simp only [Exit.inBlock, Exit.then]); refine' ret1 rfl ?_ rfl ?_; (case refine'_2 => exact cRes)
  exact ⟨rfl, hL.below⟩
end Go.Proofs.YteimpfplgdhclaaGreat
