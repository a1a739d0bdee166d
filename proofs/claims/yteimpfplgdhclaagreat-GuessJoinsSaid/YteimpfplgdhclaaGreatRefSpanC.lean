/- The walks over the reference's functions on spans: MeetSpan, SpanIn, DoSpan. Conditions: the spans are right. -/
import Derived.Test.YteimpfplgdhclaaGreatRefSpanB
import Derived.Test.YteimpfplgdhclaaGreatLib
import Derived.Test.YteimpfplgdhclaaGreatSpanPlain
set_option linter.unusedSimpArgs false
set_option linter.unusedVariables false
namespace Go.Proofs.YteimpfplgdhclaaGreat
open Go.RowKit

theorem common_eq {s t : Span} (h1 : s.none = false) (h2 : t.none = false) : common s t = if min2 s.hi t.hi < max2 s.lo t.lo then noSpan else ⟨false, max2 s.lo t.lo, min2 s.hi t.hi⟩ := by
  have e1 : min s.hi t.hi = min2 s.hi t.hi := by unfold min2; split <;> omega
  have e2 : max s.lo t.lo = max2 s.lo t.lo := by unfold max2; split <;> omega
  simp [common, h1, h2, e1, e2]

set_option maxRecDepth 100000 in
set_option maxHeartbeats 4000000 in
theorem rMeet_any (s t : Span) (w : World) :
    Calls Tryz.prog 28 #[s.v, t.v] w fun e w' => e = .returned ((common s t).v) ∧ Below w.heap.size w w' := by
  have hL := Loc.start w
  go_enter Tryz.func28, Tryz.ntmps28
  go_wp2_with (first | (with_reducible refine lld hL ?_) | ((with_reducible first | refine lbx hL ?_ | refine lal hL ?_ | refine lbs hL ?_); clear hL; intro bl w1 hL) | ((with_reducible refine lst' hL ?_); clear hL; intro w1 hL))
  · (try simp only [Exit.inBlock, Exit.then]); refine' ret1 rfl ?_ rfl ?_; (case refine'_2 => exact cRes)
    exact ⟨by simp_all [common], hL.below⟩
  · (try simp only [Exit.inBlock, Exit.then]); refine' ret1 rfl ?_ rfl ?_; (case refine'_2 => exact cRes)
    exact ⟨by simp_all [common], hL.below⟩
  have h1 : s.none = false := by first | assumption | exact Bool.eq_false_iff.2 (by assumption)
  have h2 : t.none = false := by first | assumption | exact Bool.eq_false_iff.2 (by assumption)
  simp only [h1, h2]
  refine draw_begin [13, 14, 15, 16, 17, 18, 19, 20, 21, 22, 23, 24, 25, 5] ?_
  iterate 4 (refine' draw_val ?_ ?_; rotate_left; (focus (intro g w hb hdep; replace hL := hL.grow hb; (try simp [depsOf, List.filter_cons, Region.binds, AllR, RAt] at hdep); simp only [fillD, List.foldl_cons, List.foldl_nil, List.set_cons_succ, List.set_cons_zero]; (try simp only [hdep]); go_wp2_with (first | (with_reducible refine lld hL ?_) | (with_reducible refine ldD hL ?_)); exact ⟨rfl, _, rfl, Below.refl _ _, rfl⟩)); simp only [List.nil_append, List.cons_append])
  refine draw_next (RowR 3 2 [.int .i64 s.lo, .int .i64 t.lo]) RowR.stable ?_ ?_
  · intro g w hb hdep; replace hL := hL.grow hb; (try simp [depsOf, List.filter_cons, Region.binds, AllR, RAt] at hdep); simp only [fillD, List.foldl_cons, List.foldl_nil, List.set_cons_succ, List.set_cons_zero]
    (try simp only [hdep])
    go_wp2
    exact ⟨rfl, _, rfl, (Below.refl _ _).alloc (Nat.le_refl _) _, _, rfl, heap_new _ _⟩
  simp only [apN, apC]
  refine' draw_val ?_ ?_
  rotate_left
  focus
    intro g w hb hdep; replace hL := hL.grow hb; (try simp [depsOf, List.filter_cons, Region.binds, AllR, RAt] at hdep); simp only [fillD, List.foldl_cons, List.foldl_nil, List.set_cons_succ, List.set_cons_zero]
    obtain ⟨b, e1, e2⟩ := hdep; simp only [e1]
    go_wp2_with (go_at_call 55; refine (most2 _ _ _ _ _ _ (heap_cell e2 0 rfl) (heap_cell e2 1 rfl)).mono ?_; rintro e w' ⟨rfl, rfl⟩; dsimp only)
    exact ⟨rfl, _, rfl, Below.refl _ _, rfl⟩
  simp only [apN, apC]
  iterate 4 (refine' draw_val ?_ ?_; rotate_left; (focus (intro g w hb hdep; replace hL := hL.grow hb; (try simp [depsOf, List.filter_cons, Region.binds, AllR, RAt] at hdep); simp only [fillD, List.foldl_cons, List.foldl_nil, List.set_cons_succ, List.set_cons_zero]; (try simp only [hdep]); go_wp2_with (first | (with_reducible refine lld hL ?_) | (with_reducible refine ldD hL ?_)); exact ⟨rfl, _, rfl, Below.refl _ _, rfl⟩)); simp only [List.nil_append, List.cons_append])
  refine draw_next (RowR 3 2 [.int .i64 s.hi, .int .i64 t.hi]) RowR.stable ?_ ?_
  · intro g w hb hdep; replace hL := hL.grow hb; (try simp [depsOf, List.filter_cons, Region.binds, AllR, RAt] at hdep); simp only [fillD, List.foldl_cons, List.foldl_nil, List.set_cons_succ, List.set_cons_zero]
    (try simp only [hdep])
    go_wp2
    exact ⟨rfl, _, rfl, (Below.refl _ _).alloc (Nat.le_refl _) _, _, rfl, heap_new _ _⟩
  simp only [apN, apC]
  refine' draw_val ?_ ?_
  rotate_left
  focus
    intro g w hb hdep; replace hL := hL.grow hb; (try simp [depsOf, List.filter_cons, Region.binds, AllR, RAt] at hdep); simp only [fillD, List.foldl_cons, List.foldl_nil, List.set_cons_succ, List.set_cons_zero]
    obtain ⟨⟨b, e1, e2⟩, e3⟩ := hdep; simp only [e1]
    go_wp2_with (go_at_call 56; refine (least2 _ _ _ _ _ _ (heap_cell e2 0 rfl) (heap_cell e2 1 rfl)).mono ?_; rintro e w' ⟨rfl, rfl⟩; dsimp only)
    exact ⟨rfl, _, rfl, Below.refl _ _, rfl⟩
  simp only [apN, apC]
  (refine' draw_val ?_ ?_; rotate_left; (focus (intro g w hb hdep; replace hL := hL.grow hb; (try simp [depsOf, List.filter_cons, Region.binds, AllR, RAt] at hdep); simp only [fillD, List.foldl_cons, List.foldl_nil, List.set_cons_succ, List.set_cons_zero]; (try simp only [hdep]); go_wp2_with (first | (with_reducible refine lld hL ?_) | (with_reducible refine ldD hL ?_)); exact ⟨rfl, _, rfl, Below.refl _ _, rfl⟩)); simp only [List.nil_append, List.cons_append])
  refine draw_next (PtrR w1.heap.size 26 [.bool false, .int .i64 0, .int .i64 0]) PtrR.stable ?_ ?_
  · intro g w hb hdep; replace hL := hL.grow hb; (try simp [depsOf, List.filter_cons, Region.binds, AllR, RAt] at hdep); simp only [fillD, List.foldl_cons, List.foldl_nil, List.set_cons_succ, List.set_cons_zero]
    go_wp2
    exact ⟨rfl, _, rfl, (Below.refl _ _).alloc (Nat.le_refl _) _, _, hb.size, rfl, heap_new _ _⟩
  simp only [apN, apC]
  refine draw_end hL (by kernel_rfl) (by kernel_rfl) ?_; intro g w2 hb hR; simp [AllR, RAt, List.range, List.range.loop] at hR; simp only [fillD, List.foldl_cons, List.foldl_nil, List.set_cons_succ, List.set_cons_zero, hR]
  obtain ⟨b7, k1, k2, k3⟩ : PtrR w1.heap.size 26 [.bool false, .int .i64 0, .int .i64 0] (g 5) w2 := by simp only [hR]
  replace hL := hL.gain hb k1 k3
  simp only [k2]
  clear k1 k2 k3
  have HF := Lib.hid (common_eq h1 h2)
  clear hR hb h1 h2
  go_wp2_with (first | (with_reducible refine lld hL ?_) | ((with_reducible first | refine lbx hL ?_ | refine lal hL ?_ | refine lbs hL ?_); clear hL; intro bl w1 hL) | ((with_reducible refine lst' hL ?_); clear hL; intro w1 hL))
  all_goals
    (try simp only [Exit.inBlock, Exit.then]); refine' ret1 rfl ?_ rfl ?_; (case refine'_2 => exact cRes)
    refine ⟨?_, hL.below⟩
    rw [HF.out]
    by_cases hcc : min2 s.hi t.hi < max2 s.lo t.lo
    · first | (rw [if_pos hcc]; done) | (rw [if_pos hcc]; rfl) | (exfalso; omega)
    · first | (rw [if_neg hcc]; done) | (rw [if_neg hcc]; rfl) | (exfalso; omega)

theorem inside_ref {s t : Span} (h : checkSpan s = 0) : (s.none || (inSpan t s.lo && inSpan t s.hi)) = inside s t := by
  have hl := (checkSpan_zero h).2.1
  cases hs : s.none <;> cases ht : t.none <;> simp [inside, inSpan, hs, ht] <;> rw [Bool.eq_iff_iff] <;> simp <;> omega

set_option maxRecDepth 100000 in
set_option maxHeartbeats 1600000 in
theorem rWithin_any (s t : Span) (h : checkSpan s = 0) (w : World) :
    Calls Tryz.prog 41 #[s.v, t.v] w fun e w' => e = .returned (.bool (inside s t)) ∧ Below w.heap.size w w' := by
  rw [← inside_ref (t := t) h]
  clear h
  have hL := Loc.start w
  cases hs : s.none <;> cases h2 : inSpan t s.lo
  all_goals
    go_enter Tryz.func41, Tryz.ntmps41
    go_wp2_with (first | (with_reducible refine lld hL ?_) | ((with_reducible first | refine lbx hL ?_ | refine lal hL ?_ | refine lbs hL ?_); clear hL; intro bl w1 hL) | ((with_reducible refine lst' hL ?_); clear hL; intro w1 hL) | (go_at_call 42; refine (rIn_any _ _ _).mono ?_; rintro e w1 ⟨rfl, hb⟩; replace hL := hL.grow hb; clear hb; dsimp only))
    (try simp only [Exit.inBlock, Exit.then]); refine' ret1 rfl ?_ rfl ?_; (case refine'_2 => exact cRes)
    exact ⟨by simp_all, hL.below⟩
end Go.Proofs.YteimpfplgdhclaaGreat
