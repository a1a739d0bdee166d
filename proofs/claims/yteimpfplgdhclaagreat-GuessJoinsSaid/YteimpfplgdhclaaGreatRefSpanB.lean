/- The walks over the reference's functions on spans. Conditions: the ends of DoSpan's spans lie in range. -/
import Derived.Test.YteimpfplgdhclaaGreatRefSpan
import Derived.Test.YteimpfplgdhclaaGreatLib
set_option linter.unusedSimpArgs false
set_option linter.unusedVariables false
namespace Go.Proofs.YteimpfplgdhclaaGreat
open Go.RowKit

set_option maxRecDepth 100000 in
set_option maxHeartbeats 4000000 in
theorem rJoin_any (s t : Span) (w : World) :
    Calls Tryz.prog 40 #[s.v, t.v, .bool false] w fun e w' => e = .returned ((both s t).v) ∧ Below w.heap.size w w' := by
  have hL := Loc.start w
  go_enter Tryz.func40, Tryz.ntmps40
  go_wp2_with (first | (with_reducible refine lld hL ?_) | ((with_reducible first | refine lbx hL ?_ | refine lal hL ?_ | refine lbs hL ?_); clear hL; intro bl w1 hL) | ((with_reducible refine lst' hL ?_); clear hL; intro w1 hL))
  · (try simp only [Exit.inBlock, Exit.then]); refine' ret1 rfl ?_ rfl ?_; (case refine'_2 => exact cRes)
    exact ⟨by simp_all [both], hL.below⟩
  · (try simp only [Exit.inBlock, Exit.then]); refine' ret1 rfl ?_ rfl ?_; (case refine'_2 => exact cRes)
    exact ⟨by simp_all [both], hL.below⟩
  have h1 : s.none = false := by assumption
  have h2 : t.none = false := by assumption
  simp only [h1, h2]
  refine draw_begin [14, 15, 16, 17, 18, 19, 20, 21, 22, 23, 24, 25, 26, 7] ?_
  iterate 4 (refine' draw_val ?_ ?_; rotate_left; (focus (intro g w hb hdep; replace hL := hL.grow hb; (try simp [depsOf, List.filter_cons, Region.binds, AllR, RAt] at hdep); simp only [fillD, List.foldl_cons, List.foldl_nil, List.set_cons_succ, List.set_cons_zero]; (try simp only [hdep]); go_wp2_with (first | (with_reducible refine lld hL ?_) | (with_reducible refine ldD hL ?_)); exact ⟨rfl, _, rfl, Below.refl _ _, rfl⟩)); simp only [List.nil_append, List.cons_append])
  refine draw_next (RowR 3 2 [.int .i64 s.lo, .int .i64 t.lo]) RowR.stable ?_ ?_
  · intro g w hb hdep; replace hL := hL.grow hb; (try simp [depsOf, List.filter_cons, Region.binds, AllR, RAt] at hdep); simp only [fillD, List.foldl_cons, List.foldl_nil, List.set_cons_succ, List.set_cons_zero]
    (try simp only [hdep])
    go_wp2
    exact ⟨rfl, _, rfl, (Below.refl _ _).alloc (Nat.le_refl _) _, _, rfl, heap_new _ _⟩
  simp only [apN, apC]
  refine' draw_val ?_ ?_
  rotate_left
  focus
    intro g w hb hdep; replace hL := hL.grow hb; (try simp [depsOf, List.filter_cons, Region.binds, AllR, RAt] at hdep); simp only [fillD, List.foldl_cons, List.foldl_nil, List.set_cons_succ, List.set_cons_zero]
    obtain ⟨b, e1, e2⟩ := hdep; simp only [e1]
    go_wp2_with (go_at_call 56; refine (least2 _ _ _ _ _ _ (heap_cell e2 0 rfl) (heap_cell e2 1 rfl)).mono ?_; rintro e w' ⟨rfl, rfl⟩; dsimp only)
    exact ⟨rfl, _, rfl, Below.refl _ _, rfl⟩
  simp only [apN, apC]
  iterate 4 (refine' draw_val ?_ ?_; rotate_left; (focus (intro g w hb hdep; replace hL := hL.grow hb; (try simp [depsOf, List.filter_cons, Region.binds, AllR, RAt] at hdep); simp only [fillD, List.foldl_cons, List.foldl_nil, List.set_cons_succ, List.set_cons_zero]; (try simp only [hdep]); go_wp2_with (first | (with_reducible refine lld hL ?_) | (with_reducible refine ldD hL ?_)); exact ⟨rfl, _, rfl, Below.refl _ _, rfl⟩)); simp only [List.nil_append, List.cons_append])
  refine draw_next (RowR 3 2 [.int .i64 s.hi, .int .i64 t.hi]) RowR.stable ?_ ?_
  · intro g w hb hdep; replace hL := hL.grow hb; (try simp [depsOf, List.filter_cons, Region.binds, AllR, RAt] at hdep); simp only [fillD, List.foldl_cons, List.foldl_nil, List.set_cons_succ, List.set_cons_zero]
    (try simp only [hdep])
    go_wp2
    exact ⟨rfl, _, rfl, (Below.refl _ _).alloc (Nat.le_refl _) _, _, rfl, heap_new _ _⟩
  simp only [apN, apC]
  refine' draw_val ?_ ?_
  rotate_left
  focus
    intro g w hb hdep; replace hL := hL.grow hb; (try simp [depsOf, List.filter_cons, Region.binds, AllR, RAt] at hdep); simp only [fillD, List.foldl_cons, List.foldl_nil, List.set_cons_succ, List.set_cons_zero]
    obtain ⟨⟨b, e1, e2⟩, e3⟩ := hdep; simp only [e1]
    go_wp2_with (go_at_call 55; refine (most2 _ _ _ _ _ _ (heap_cell e2 0 rfl) (heap_cell e2 1 rfl)).mono ?_; rintro e w' ⟨rfl, rfl⟩; dsimp only)
    exact ⟨rfl, _, rfl, Below.refl _ _, rfl⟩
  simp only [apN, apC]
  (refine' draw_val ?_ ?_; rotate_left; (focus (intro g w hb hdep; replace hL := hL.grow hb; (try simp [depsOf, List.filter_cons, Region.binds, AllR, RAt] at hdep); simp only [fillD, List.foldl_cons, List.foldl_nil, List.set_cons_succ, List.set_cons_zero]; (try simp only [hdep]); go_wp2_with (first | (with_reducible refine lld hL ?_) | (with_reducible refine ldD hL ?_)); exact ⟨rfl, _, rfl, Below.refl _ _, rfl⟩)); simp only [List.nil_append, List.cons_append])
  refine draw_next (PtrR w1.heap.size 26 [.bool false, .int .i64 0, .int .i64 0]) PtrR.stable ?_ ?_
  · intro g w hb hdep; replace hL := hL.grow hb; (try simp [depsOf, List.filter_cons, Region.binds, AllR, RAt] at hdep); simp only [fillD, List.foldl_cons, List.foldl_nil, List.set_cons_succ, List.set_cons_zero]
    go_wp2
    exact ⟨rfl, _, rfl, (Below.refl _ _).alloc (Nat.le_refl _) _, _, hb.size, rfl, heap_new _ _⟩
  simp only [apN, apC]
  refine draw_end hL (by kernel_rfl) (by kernel_rfl) ?_; intro g w2 hb hR; simp [AllR, RAt, List.range, List.range.loop] at hR; simp only [fillD, List.foldl_cons, List.foldl_nil, List.set_cons_succ, List.set_cons_zero, hR]
  obtain ⟨b7, k1, k2, k3⟩ : PtrR w1.heap.size 26 [.bool false, .int .i64 0, .int .i64 0] (g 7) w2 := by simp only [hR]
  replace hL := hL.gain hb k1 k3
  simp only [k2]
  clear k1 k2 k3
  clear hR hb h1 h2
  go_wp2_with (first | (with_reducible refine lld hL ?_) | ((with_reducible first | refine lbx hL ?_ | refine lal hL ?_ | refine lbs hL ?_); clear hL; intro bl w1 hL) | ((with_reducible refine lst' hL ?_); clear hL; intro w1 hL))
  all_goals
    (try simp only [Exit.inBlock, Exit.then]); refine' ret1 rfl ?_ rfl ?_; (case refine'_2 => exact cRes)
    exact ⟨by simp_all [both, min2, max2] <;> (first | omega | (split <;> omega) | (split <;> split <;> omega)), hL.below⟩

set_option maxRecDepth 100000 in
set_option maxHeartbeats 4000000 in
theorem rWiden_any (s t : Span) (w : World) :
    Calls Tryz.prog 40 #[s.v, t.v, .bool true] w fun e w' => e = .returned ((wider s t).v) ∧ Below w.heap.size w w' := by
  have hL := Loc.start w
  go_enter Tryz.func40, Tryz.ntmps40
  go_wp2_with (first | (with_reducible refine lld hL ?_) | ((with_reducible first | refine lbx hL ?_ | refine lal hL ?_ | refine lbs hL ?_); clear hL; intro bl w1 hL) | ((with_reducible refine lst' hL ?_); clear hL; intro w1 hL))
  · (try simp only [Exit.inBlock, Exit.then]); refine' ret1 rfl ?_ rfl ?_; (case refine'_2 => exact cRes)
    exact ⟨by simp_all [wider, both], hL.below⟩
  · (try simp only [Exit.inBlock, Exit.then]); refine' ret1 rfl ?_ rfl ?_; (case refine'_2 => exact cRes)
    exact ⟨by simp_all [wider, both], hL.below⟩
  have h1 : s.none = false := by assumption
  have h2 : t.none = false := by assumption
  simp only [h1, h2]
  refine draw_begin [14, 15, 16, 17, 18, 19, 20, 21, 22, 23, 24, 25, 26, 7] ?_
  iterate 4 (refine' draw_val ?_ ?_; rotate_left; (focus (intro g w hb hdep; replace hL := hL.grow hb; (try simp [depsOf, List.filter_cons, Region.binds, AllR, RAt] at hdep); simp only [fillD, List.foldl_cons, List.foldl_nil, List.set_cons_succ, List.set_cons_zero]; (try simp only [hdep]); go_wp2_with (first | (with_reducible refine lld hL ?_) | (with_reducible refine ldD hL ?_)); exact ⟨rfl, _, rfl, Below.refl _ _, rfl⟩)); simp only [List.nil_append, List.cons_append])
  refine draw_next (RowR 3 2 [.int .i64 s.lo, .int .i64 t.lo]) RowR.stable ?_ ?_
  · intro g w hb hdep; replace hL := hL.grow hb; (try simp [depsOf, List.filter_cons, Region.binds, AllR, RAt] at hdep); simp only [fillD, List.foldl_cons, List.foldl_nil, List.set_cons_succ, List.set_cons_zero]
    (try simp only [hdep])
    go_wp2
    exact ⟨rfl, _, rfl, (Below.refl _ _).alloc (Nat.le_refl _) _, _, rfl, heap_new _ _⟩
  simp only [apN, apC]
  refine' draw_val ?_ ?_
  rotate_left
  focus
    intro g w hb hdep; replace hL := hL.grow hb; (try simp [depsOf, List.filter_cons, Region.binds, AllR, RAt] at hdep); simp only [fillD, List.foldl_cons, List.foldl_nil, List.set_cons_succ, List.set_cons_zero]
    obtain ⟨b, e1, e2⟩ := hdep; simp only [e1]
    go_wp2_with (go_at_call 56; refine (least2 _ _ _ _ _ _ (heap_cell e2 0 rfl) (heap_cell e2 1 rfl)).mono ?_; rintro e w' ⟨rfl, rfl⟩; dsimp only)
    exact ⟨rfl, _, rfl, Below.refl _ _, rfl⟩
  simp only [apN, apC]
  iterate 4 (refine' draw_val ?_ ?_; rotate_left; (focus (intro g w hb hdep; replace hL := hL.grow hb; (try simp [depsOf, List.filter_cons, Region.binds, AllR, RAt] at hdep); simp only [fillD, List.foldl_cons, List.foldl_nil, List.set_cons_succ, List.set_cons_zero]; (try simp only [hdep]); go_wp2_with (first | (with_reducible refine lld hL ?_) | (with_reducible refine ldD hL ?_)); exact ⟨rfl, _, rfl, Below.refl _ _, rfl⟩)); simp only [List.nil_append, List.cons_append])
  refine draw_next (RowR 3 2 [.int .i64 s.hi, .int .i64 t.hi]) RowR.stable ?_ ?_
  · intro g w hb hdep; replace hL := hL.grow hb; (try simp [depsOf, List.filter_cons, Region.binds, AllR, RAt] at hdep); simp only [fillD, List.foldl_cons, List.foldl_nil, List.set_cons_succ, List.set_cons_zero]
    (try simp only [hdep])
    go_wp2
    exact ⟨rfl, _, rfl, (Below.refl _ _).alloc (Nat.le_refl _) _, _, rfl, heap_new _ _⟩
  simp only [apN, apC]
  refine' draw_val ?_ ?_
  rotate_left
  focus
    intro g w hb hdep; replace hL := hL.grow hb; (try simp [depsOf, List.filter_cons, Region.binds, AllR, RAt] at hdep); simp only [fillD, List.foldl_cons, List.foldl_nil, List.set_cons_succ, List.set_cons_zero]
    obtain ⟨⟨b, e1, e2⟩, e3⟩ := hdep; simp only [e1]
    go_wp2_with (go_at_call 55; refine (most2 _ _ _ _ _ _ (heap_cell e2 0 rfl) (heap_cell e2 1 rfl)).mono ?_; rintro e w' ⟨rfl, rfl⟩; dsimp only)
    exact ⟨rfl, _, rfl, Below.refl _ _, rfl⟩
  simp only [apN, apC]
  (refine' draw_val ?_ ?_; rotate_left; (focus (intro g w hb hdep; replace hL := hL.grow hb; (try simp [depsOf, List.filter_cons, Region.binds, AllR, RAt] at hdep); simp only [fillD, List.foldl_cons, List.foldl_nil, List.set_cons_succ, List.set_cons_zero]; (try simp only [hdep]); go_wp2_with (first | (with_reducible refine lld hL ?_) | (with_reducible refine ldD hL ?_)); exact ⟨rfl, _, rfl, Below.refl _ _, rfl⟩)); simp only [List.nil_append, List.cons_append])
  refine draw_next (PtrR w1.heap.size 26 [.bool false, .int .i64 0, .int .i64 0]) PtrR.stable ?_ ?_
  · intro g w hb hdep; replace hL := hL.grow hb; (try simp [depsOf, List.filter_cons, Region.binds, AllR, RAt] at hdep); simp only [fillD, List.foldl_cons, List.foldl_nil, List.set_cons_succ, List.set_cons_zero]
    go_wp2
    exact ⟨rfl, _, rfl, (Below.refl _ _).alloc (Nat.le_refl _) _, _, hb.size, rfl, heap_new _ _⟩
  simp only [apN, apC]
  refine draw_end hL (by kernel_rfl) (by kernel_rfl) ?_; intro g w2 hb hR; simp [AllR, RAt, List.range, List.range.loop] at hR; simp only [fillD, List.foldl_cons, List.foldl_nil, List.set_cons_succ, List.set_cons_zero, hR]
  obtain ⟨b7, k1, k2, k3⟩ : PtrR w1.heap.size 26 [.bool false, .int .i64 0, .int .i64 0] (g 7) w2 := by simp only [hR]
  replace hL := hL.gain hb k1 k3
  simp only [k2]
  clear k1 k2 k3
  clear hR hb h1 h2
  go_wp2_with (first | (with_reducible refine lld hL ?_) | ((with_reducible first | refine lbx hL ?_ | refine lal hL ?_ | refine lbs hL ?_); clear hL; intro bl w1 hL) | ((with_reducible refine lst' hL ?_); clear hL; intro w1 hL))
  all_goals
    (try simp only [Exit.inBlock, Exit.then]); refine' ret1 rfl ?_ rfl ?_; (case refine'_2 => exact cRes)
    exact ⟨by simp_all [wider, both, min2, max2] <;> (first | omega | (split <;> omega) | (split <;> split <;> omega)), hL.below⟩
end Go.Proofs.YteimpfplgdhclaaGreat
