/- The walk over guessBegun: what must be in any case. Conditions: none. -/
import Derived.Test.YteimpfplgdhclaaGreatGuessO
import Derived.Test.YteimpfplgdhclaaGreatSmall
set_option linter.unusedSimpArgs false
set_option linter.unusedVariables false
namespace Go.Proofs.YteimpfplgdhclaaGreat
open Go.RowKit

def SmR (B : Nat) : Value → World → Prop := fun v w => ∃ b, B ≤ b ∧ v = (smallP b).v ∧ w.heap[b]? = some (.cells smallC.toArray 76 (0, 0))
theorem SmR.stable {B : Nat} : Stable (SmR B) := by
  rintro v w w' hb ⟨b, h1, h2, h3⟩; exact ⟨b, h1, h2, by rw [hb.block _ (heap_lt h3)]; exact h3⟩
def TupZ (f : Sl → Value) : Value → World → Prop := fun v _ => ∃ x z, v = f ⟨x, 0, z⟩
theorem TupZ.stable {f : Sl → Value} : ∀ v w w', Below w.heap.size w w' → TupZ f v w → TupZ f v w' := fun _ _ _ _ h => h
theorem IntsAt.zero (w : World) (x : Option Addr) (z : Nat) : IntsAt w ⟨x, 0, z⟩ [] := ⟨rfl, Nat.zero_le _, ⟨0, 0, fun h => absurd h (Nat.lt_irrefl 0), fun k hk => absurd hk (Nat.not_lt_zero k)⟩⟩
theorem OwnI.none {B : Nat} {w : World} {s : Sl} (h : OwnI B w s []) : s.n = 0 := h.ints.n

abbrev fiveG : Gu := ⟨false, ⟨false, 5, 5⟩, false, false, nilSl⟩
abbrev nullG : Gu := ⟨true, noSpan, false, false, nilSl⟩
abbrev fiveN (r : Sl) : Gu := ⟨true, ⟨false, 5, 5⟩, false, false, r⟩
theorem mix0 : mixS [] [] = [] := mix_nil List.Pairwise.nil
theorem small_join (b : Nat) (w : World) (hc : CodeAt w (smallP b) smallIs) :
    Calls Tryz.prog 10 #[(smallP b).v, fiveG.v, nullG.v] w fun e w' => ∃ x z, e = .returned (.tuple #[(fiveN ⟨x, 0, z⟩).v, .int .i64 0]) ∧ Below w.heap.size w w' := by
  refine (gJoin_ok (smallP b) smallIs fiveG nullG [] [] w (show (2 : Nat) ≤ 9223372036854775807 by decide) hc (IntsAt.nil w) (IntsAt.nil w) rfl (by decide)).mono ?_
  rintro e w' ⟨⟨x, y, z⟩, rfl, ho, hb⟩
  rw [mix0] at ho
  obtain rfl : y = 0 := ho.none
  exact ⟨x, z, rfl, hb⟩
theorem small_do (b : Nat) (x : Option Addr) (z : Nat) (w : World) (hc : CodeAt w (smallP b) smallIs) :
    Calls Tryz.prog 5 #[(smallP b).v, .int .i64 5, (fiveN ⟨x, 0, z⟩).v, fiveG.v] w fun e w' => ∃ x z, e = .returned (.tuple #[Gu.v ⟨false, ⟨false, 10, 10⟩, false, false, ⟨x, 0, z⟩⟩, .bool true, .int .i64 0]) ∧ Below w.heap.size w w' := by
  have hm : madeG 5 (fiveN ⟨x, 0, z⟩) fiveG [] [] = (⟨false, ⟨false, 10, 10⟩, false, false, []⟩, true) := rfl
  have h1 := gDo_ok (smallP b) smallIs (fiveN ⟨x, 0, z⟩) fiveG [] [] w (show (2 : Nat) ≤ 9223372036854775807 by decide) hc (IntsAt.zero w x z) (IntsAt.nil w) 5 rfl rfl
  rw [hm] at h1
  refine h1.mono ?_
  rintro e w' ⟨⟨x, y, z⟩, rfl, ho, hb⟩
  obtain rfl : y = 0 := ho.none
  exact ⟨x, z, rfl, hb⟩
theorem small_truth (b : Nat) (x : Option Addr) (z : Nat) (w : World) (hc : CodeAt w (smallP b) smallIs) :
    Calls Tryz.prog 14 #[(smallP b).v, (fiveN ⟨x, 0, z⟩).v] w fun e w' => e = .returned (.tuple #[.bool true, .bool true, .int .i64 0]) ∧ Below w.heap.size w w' :=
  gTruth_ok (smallP b) smallIs (fiveN ⟨x, 0, z⟩) [] w (show (2 : Nat) ≤ 9223372036854775807 by decide) hc (IntsAt.zero w x z) rfl
theorem small_holds (b : Nat) (x : Option Addr) (z : Nat) (w : World) (hc : CodeAt w (smallP b) smallIs) :
    Calls Tryz.prog 13 #[(smallP b).v, (fiveN ⟨x, 0, z⟩).v, Vl.v ⟨1, 5⟩, .int .i64 0] w fun e w' => e = .returned (.tuple #[.bool true, .int .i64 0]) ∧ Below w.heap.size w w' :=
  gHolds_ok (smallP b) smallIs (fiveN ⟨x, 0, z⟩) [] w (show (2 : Nat) ≤ 9223372036854775807 by decide) hc (IntsAt.zero w x z) ⟨1, 5⟩ 0 rfl rfl
theorem small_gcheck (b : Nat) (x : Option Addr) (z : Nat) (w : World) (hc : CodeAt w (smallP b) smallIs) :
    Calls Tryz.prog 19 #[(smallP b).v, (fiveN ⟨x, 0, z⟩).v] w fun e w' => e = .returned (.int .i64 0) ∧ Below w.heap.size w w' :=
  gCheck_any (smallP b) smallIs (fiveN ⟨x, 0, z⟩) [] w (show (2 : Nat) ≤ 9223372036854775807 by decide) hc (IntsAt.zero w x z)

set_option maxRecDepth 100000 in
set_option maxHeartbeats 4000000 in
theorem guessBegun_any (w : World) :
    Calls Tryz.prog 8 #[] w fun e w' => e = .returned (.bool true) ∧ Below w.heap.size w w' := by
  have hL := Loc.start w
  go_enter Tryz.func8, Tryz.ntmps8
  go_upto_region 3 with (first | (with_reducible refine lld hL ?_) | ((with_reducible first | refine lbx hL ?_ | refine lal hL ?_ | refine lbs hL ?_); clear hL; intro bl w1 hL) | ((with_reducible refine lst' hL ?_); clear hL; intro w1 hL))
  refine draw_begin [18, 19, 20, 21, 17, 22, 23, 3] ?_
  refine draw_next (SmR 0) SmR.stable ?_ ?_
  · intro g w hb hdep; replace hL := hL.grow hb; clear hdep; simp only [fillD, fLa, fLb, sTa, sTb]
    go_wp2_with (go_at_call 32; refine (small_any _).mono ?_; rintro e w3 ⟨b0, rfl, hge, hsm, hb3⟩; dsimp only)
    exact ⟨rfl, _, rfl, hb3, b0, Nat.zero_le _, rfl, hsm⟩
  simp only [apN, apC]
  apply draw_val
  · intro g w hb hdep; replace hL := hL.grow hb; clear hdep; simp only [fillD, fLa, fLb, sTa, sTb]
    go_wp2_with (first | (with_reducible refine lld hL ?_) | (with_reducible refine ldD hL ?_))
    exact cY
  simp only [apN, apC]
  apply draw_val
  · intro g w hb hdep; replace hL := hL.grow hb; clear hdep; simp only [fillD, fLa, fLb, sTa, sTb]
    go_wp2_with (first | (with_reducible refine lld hL ?_) | (with_reducible refine ldD hL ?_))
    exact cY
  simp only [apN, apC]
  refine draw_next (TupZ (fun r => .tuple #[(fiveN r).v, .int .i64 0])) TupZ.stable ?_ ?_
  · intro g w hb hdep; replace hL := hL.grow hb; have d0 : (SmR 0) (g 18) w := yr hdep 0; obtain ⟨b0, -, d0, m0⟩ := d0; have d1 := yv hdep 1; have d2 := yv hdep 2; clear hdep; simp only [fillD, fLa, fLb, sTa, sTb]; simp only [d0, d1, d2]
    go_wp2_with (go_at_call 10; refine (small_join b0 _ (small_code m0)).mono ?_; rintro e w3 ⟨x, z, rfl, hb3⟩; dsimp only)
    exact ⟨rfl, _, rfl, hb3, x, z, rfl⟩
  simp only [apN, apC]
  refine draw_next (TupZ (fun r => .tuple #[(fiveN r).v, .int .i64 0])) TupZ.stable ?_ ?_
  · intro g w hb hdep; replace hL := hL.grow hb; have d3 : (TupZ (fun r => .tuple #[(fiveN r).v, .int .i64 0])) (g 21) w := yr hdep 3; obtain ⟨x3, z3, d3⟩ := d3; dsimp only at d3; clear hdep; simp only [fillD, fLa, fLb, sTa, sTb]; simp only [d3]
    go_wp2_with (fail)
    exact ⟨rfl, _, rfl, Below.refl _ _, x3, z3, rfl⟩
  simp only [apN, apC]
  refine draw_next (TupZ (fun r => (fiveN r).v)) TupZ.stable ?_ ?_
  · intro g w hb hdep; replace hL := hL.grow hb; have d4 : (TupZ (fun r => .tuple #[(fiveN r).v, .int .i64 0])) (g 17) w := yr hdep 4; obtain ⟨x4, z4, d4⟩ := d4; dsimp only at d4; clear hdep; simp only [fillD, fLa, fLb, sTa, sTb]; simp only [d4]
    go_wp2_with (fail)
    exact ⟨rfl, _, rfl, Below.refl _ _, x4, z4, rfl⟩
  simp only [apN, apC]
  apply draw_val
  · intro g w hb hdep; replace hL := hL.grow hb; have d4 : (TupZ (fun r => .tuple #[(fiveN r).v, .int .i64 0])) (g 17) w := yr hdep 4; obtain ⟨x4, z4, d4⟩ := d4; dsimp only at d4; clear hdep; simp only [fillD, fLa, fLb, sTa, sTb]; simp only [d4]
    go_wp2
    exact cY
  simp only [apN, apC]
  apply draw_ptr
  · intro g w hb hdep; replace hL := hL.grow hb; clear hdep; simp only [fillD, fLa, fLb, sTa, sTb]
    go_wp2
    exact ⟨rfl, _, rfl, (Below.refl _ _).alloc (Nat.le_refl _) _, _, hb.size, rfl, heap_new _ _⟩
  simp only [apN, apC]
  refine draw_end1 6 hL (by kernel_rfl) (by kernel_rfl) (fun _ _ _ _ _ h => h) ?_ ?_
  · refine late_ok rfl rfl ?_; intro g w hb hdep; have d4 : (TupZ (fun r => .tuple #[(fiveN r).v, .int .i64 0])) (g 17) w := yr hdep 4; obtain ⟨x4, z4, d4⟩ := d4; dsimp only at d4; clear hdep; simp only [fillD, fLa, fLb, sTa, sTb]; simp only [d4]
    exact ⟨_, .inl ⟨rfl, fun w => (by go_simp)⟩, rfl⟩
  intro g w2 hb hR; simp only [List.length_cons, List.length_nil, Nat.reduceAdd] at hR
  have e0 : (SmR 0) (g 18) w2 := yr hR 0
  obtain ⟨bz0, -, e0, -⟩ := e0
  have e1 := yv hR 1
  have e2 := yv hR 2
  have e3 : (TupZ (fun r => .tuple #[(fiveN r).v, .int .i64 0])) (g 21) w2 := yr hR 3
  obtain ⟨x3, z3, e3⟩ := e3; dsimp only at e3
  have e4 : (TupZ (fun r => .tuple #[(fiveN r).v, .int .i64 0])) (g 17) w2 := yr hR 4
  obtain ⟨x4, z4, e4⟩ := e4; dsimp only at e4
  have e5 : (TupZ (fun r => (fiveN r).v)) (g 22) w2 := yr hR 5
  obtain ⟨x5, z5, e5⟩ := e5; dsimp only at e5
  have e6 := yv hR 6
  obtain ⟨b7, p7, e7, c7⟩ := rat_ptr (allR_get hR (j := 7) (by decide)) rfl rfl
  clear hR; simp only [fillD, fLa, fLb, sTa, sTb]
  simp only [e0, e1, e2, e3, e4, e5, e6, e7]
  clear e0 e1 e2 e3 e4 e5 e6 e7
  replace hL := hL.gain hb p7 c7
  clear p7 c7
  clear hb
  go_upto_region 4 with (first | (with_reducible refine lld hL ?_) | ((with_reducible first | refine lbx hL ?_ | refine lal hL ?_ | refine lbs hL ?_); clear hL; intro bl w1 hL) | ((with_reducible refine lst' hL ?_); clear hL; intro w1 hL))
  refine draw_begin [25, 26, 27, 28, 24, 29, 30, 31, 5] ?_
  refine draw_next (SmR 0) SmR.stable ?_ ?_
  · intro g w hb hdep; replace hL := hL.grow hb; clear hdep; simp only [fillD, fLa, fLb, sTa, sTb]
    go_wp2_with (go_at_call 32; refine (small_any _).mono ?_; rintro e w3 ⟨b0, rfl, hge, hsm, hb3⟩; dsimp only)
    exact ⟨rfl, _, rfl, hb3, b0, Nat.zero_le _, rfl, hsm⟩
  simp only [apN, apC]
  apply draw_val
  · intro g w hb hdep; replace hL := hL.grow hb; clear hdep; simp only [fillD, fLa, fLb, sTa, sTb]
    go_wp2_with (first | (with_reducible refine lld hL ?_) | (with_reducible refine ldD hL ?_))
    exact cY
  simp only [apN, apC]
  apply draw_val
  · intro g w hb hdep; replace hL := hL.grow hb; clear hdep; simp only [fillD, fLa, fLb, sTa, sTb]
    go_wp2_with (first | (with_reducible refine lld hL ?_) | (with_reducible refine ldD hL ?_))
    exact cY
  simp only [apN, apC]
  refine draw_next (TupZ (fun r => .tuple #[Gu.v ⟨false, ⟨false, 10, 10⟩, false, false, r⟩, .bool true, .int .i64 0])) TupZ.stable ?_ ?_
  · intro g w hb hdep; replace hL := hL.grow hb; have d0 : (SmR 0) (g 25) w := yr hdep 0; obtain ⟨b0, -, d0, m0⟩ := d0; have d1 := yv hdep 1; have d2 := yv hdep 2; clear hdep; simp only [fillD, fLa, fLb, sTa, sTb]; simp only [d0, d1, d2]
    go_wp2_with (go_at_call 5; refine (small_do b0 x5 z5 _ (small_code m0)).mono ?_; rintro e w3 ⟨x, z, rfl, hb3⟩; dsimp only)
    exact ⟨rfl, _, rfl, hb3, x, z, rfl⟩
  simp only [apN, apC]
  refine draw_next (TupZ (fun r => .tuple #[Gu.v ⟨false, ⟨false, 10, 10⟩, false, false, r⟩, .bool true, .int .i64 0])) TupZ.stable ?_ ?_
  · intro g w hb hdep; replace hL := hL.grow hb; have d3 : (TupZ (fun r => .tuple #[Gu.v ⟨false, ⟨false, 10, 10⟩, false, false, r⟩, .bool true, .int .i64 0])) (g 28) w := yr hdep 3; obtain ⟨u3, v3, d3⟩ := d3; dsimp only at d3; clear hdep; simp only [fillD, fLa, fLb, sTa, sTb]; simp only [d3]
    go_wp2_with (fail)
    exact ⟨rfl, _, rfl, Below.refl _ _, u3, v3, rfl⟩
  simp only [apN, apC]
  refine draw_next (TupZ (fun r => Gu.v ⟨false, ⟨false, 10, 10⟩, false, false, r⟩)) TupZ.stable ?_ ?_
  · intro g w hb hdep; replace hL := hL.grow hb; have d4 : (TupZ (fun r => .tuple #[Gu.v ⟨false, ⟨false, 10, 10⟩, false, false, r⟩, .bool true, .int .i64 0])) (g 24) w := yr hdep 4; obtain ⟨u4, v4, d4⟩ := d4; dsimp only at d4; clear hdep; simp only [fillD, fLa, fLb, sTa, sTb]; simp only [d4]
    go_wp2_with (fail)
    exact ⟨rfl, _, rfl, Below.refl _ _, u4, v4, rfl⟩
  simp only [apN, apC]
  apply draw_val
  · intro g w hb hdep; replace hL := hL.grow hb; have d4 : (TupZ (fun r => .tuple #[Gu.v ⟨false, ⟨false, 10, 10⟩, false, false, r⟩, .bool true, .int .i64 0])) (g 24) w := yr hdep 4; obtain ⟨u4, v4, d4⟩ := d4; dsimp only at d4; clear hdep; simp only [fillD, fLa, fLb, sTa, sTb]; simp only [d4]
    go_wp2
    exact cY
  simp only [apN, apC]
  apply draw_val
  · intro g w hb hdep; replace hL := hL.grow hb; have d4 : (TupZ (fun r => .tuple #[Gu.v ⟨false, ⟨false, 10, 10⟩, false, false, r⟩, .bool true, .int .i64 0])) (g 24) w := yr hdep 4; obtain ⟨u4, v4, d4⟩ := d4; dsimp only at d4; clear hdep; simp only [fillD, fLa, fLb, sTa, sTb]; simp only [d4]
    go_wp2
    exact cY
  simp only [apN, apC]
  apply draw_ptr
  · intro g w hb hdep; replace hL := hL.grow hb; clear hdep; simp only [fillD, fLa, fLb, sTa, sTb]
    go_wp2
    exact ⟨rfl, _, rfl, (Below.refl _ _).alloc (Nat.le_refl _) _, _, hb.size, rfl, heap_new _ _⟩
  simp only [apN, apC]
  refine draw_endF [6, 7] hL (by kernel_rfl) (by kernel_rfl) (fun _ _ _ _ _ h => h) ?_ ?_
  · intro i hi; simp only [List.mem_cons, List.not_mem_nil, or_false] at hi; rcases hi with rfl | rfl
    · refine late_ok rfl rfl ?_; intro g w hb hdep; have d4 : (TupZ (fun r => .tuple #[Gu.v ⟨false, ⟨false, 10, 10⟩, false, false, r⟩, .bool true, .int .i64 0])) (g 24) w := yr hdep 4; obtain ⟨u4, v4, d4⟩ := d4; dsimp only at d4; clear hdep; simp only [fillD, fLa, fLb, sTa, sTb]; simp only [d4]
      exact ⟨_, .inl ⟨rfl, fun w => (by go_simp)⟩, rfl⟩
    · refine late_ok rfl rfl ?_; intro g w hb hdep; have d4 : (TupZ (fun r => .tuple #[Gu.v ⟨false, ⟨false, 10, 10⟩, false, false, r⟩, .bool true, .int .i64 0])) (g 24) w := yr hdep 4; obtain ⟨u4, v4, d4⟩ := d4; dsimp only at d4; clear hdep; simp only [fillD, fLa, fLb, sTa, sTb]; simp only [d4]
      exact ⟨_, .inl ⟨rfl, fun w => (by go_simp)⟩, rfl⟩
  intro g w2 hb hR; simp only [List.length_cons, List.length_nil, Nat.reduceAdd] at hR
  have e0 : (SmR 0) (g 25) w2 := yr hR 0
  obtain ⟨bz0, -, e0, -⟩ := e0
  have e1 := yv hR 1
  have e2 := yv hR 2
  have e3 : (TupZ (fun r => .tuple #[Gu.v ⟨false, ⟨false, 10, 10⟩, false, false, r⟩, .bool true, .int .i64 0])) (g 28) w2 := yr hR 3
  obtain ⟨u3, v3, e3⟩ := e3; dsimp only at e3
  have e4 : (TupZ (fun r => .tuple #[Gu.v ⟨false, ⟨false, 10, 10⟩, false, false, r⟩, .bool true, .int .i64 0])) (g 24) w2 := yr hR 4
  obtain ⟨u4, v4, e4⟩ := e4; dsimp only at e4
  have e5 : (TupZ (fun r => Gu.v ⟨false, ⟨false, 10, 10⟩, false, false, r⟩)) (g 29) w2 := yr hR 5
  obtain ⟨u5, v5, e5⟩ := e5; dsimp only at e5
  have e6 := yv hR 6
  have e7 := yv hR 7
  obtain ⟨b8, p8, e8, c8⟩ := rat_ptr (allR_get hR (j := 8) (by decide)) rfl rfl
  clear hR; simp only [fillD, fLa, fLb, sTa, sTb]
  simp only [e0, e1, e2, e3, e4, e5, e6, e7, e8]
  clear e0 e1 e2 e3 e4 e5 e6 e7 e8
  replace hL := hL.gain hb p8 c8
  clear p8 c8
  clear hb
  go_upto_region 5 with (first | (with_reducible refine lld hL ?_) | ((with_reducible first | refine lbx hL ?_ | refine lal hL ?_ | refine lbs hL ?_); clear hL; intro bl w1 hL) | ((with_reducible refine lst' hL ?_); clear hL; intro w1 hL))
  refine draw_begin [33, 34, 35, 32, 36, 37, 38, 8, 9, 10] ?_
  refine draw_next (SmR 0) SmR.stable ?_ ?_
  · intro g w hb hdep; replace hL := hL.grow hb; clear hdep; simp only [fillD, fLa, fLb, sTa, sTb]
    go_wp2_with (go_at_call 32; refine (small_any _).mono ?_; rintro e w3 ⟨b0, rfl, hge, hsm, hb3⟩; dsimp only)
    exact ⟨rfl, _, rfl, hb3, b0, Nat.zero_le _, rfl, hsm⟩
  simp only [apN, apC]
  apply draw_val
  · intro g w hb hdep; replace hL := hL.grow hb; clear hdep; simp only [fillD, fLa, fLb, sTa, sTb]
    go_wp2_with (first | (with_reducible refine lld hL ?_) | (with_reducible refine ldD hL ?_))
    exact cY
  simp only [apN, apC]
  apply draw_val
  · intro g w hb hdep; replace hL := hL.grow hb; have d0 : (SmR 0) (g 33) w := yr hdep 0; obtain ⟨b0, -, d0, m0⟩ := d0; have d1 := yv hdep 1; clear hdep; simp only [fillD, fLa, fLb, sTa, sTb]; simp only [d0, d1]
    go_wp2_with (go_at_call 14; refine (small_truth b0 x5 z5 _ (small_code m0)).mono ?_; rintro e w3 ⟨rfl, hb3⟩; dsimp only)
    exact ⟨rfl, _, rfl, hb3, rfl⟩
  simp only [apN, apC]
  apply draw_val
  · intro g w hb hdep; replace hL := hL.grow hb; have d2 := yv hdep 2; clear hdep; simp only [fillD, fLa, fLb, sTa, sTb]; simp only [d2]
    go_wp2
    exact cY
  simp only [apN, apC]
  apply draw_val
  · intro g w hb hdep; replace hL := hL.grow hb; have d3 := yv hdep 3; clear hdep; simp only [fillD, fLa, fLb, sTa, sTb]; simp only [d3]
    go_wp2
    exact cY
  simp only [apN, apC]
  apply draw_val
  · intro g w hb hdep; replace hL := hL.grow hb; have d3 := yv hdep 3; clear hdep; simp only [fillD, fLa, fLb, sTa, sTb]; simp only [d3]
    go_wp2
    exact cY
  simp only [apN, apC]
  apply draw_val
  · intro g w hb hdep; replace hL := hL.grow hb; have d3 := yv hdep 3; clear hdep; simp only [fillD, fLa, fLb, sTa, sTb]; simp only [d3]
    go_wp2
    exact cY
  simp only [apN, apC]
  apply draw_val
  · intro g w hb hdep; replace hL := hL.grow hb; have d4 := yv hdep 4; clear hdep; simp only [fillD, fLa, fLb, sTa, sTb]; simp only [d4]
    go_wp2
    exact cY
  simp only [apN, apC]
  apply draw_val
  · intro g w hb hdep; replace hL := hL.grow hb; have d5 := yv hdep 5; clear hdep; simp only [fillD, fLa, fLb, sTa, sTb]; simp only [d5]
    go_wp2
    exact cY
  simp only [apN, apC]
  apply draw_val
  · intro g w hb hdep; replace hL := hL.grow hb; have d6 := yv hdep 6; clear hdep; simp only [fillD, fLa, fLb, sTa, sTb]; simp only [d6]
    go_wp2
    exact cY
  simp only [apN, apC]
  refine draw_end hL (by kernel_rfl) (by kernel_rfl) ?_
  intro g w2 hb hR; simp only [List.length_cons, List.length_nil, Nat.reduceAdd] at hR
  have e0 : (SmR 0) (g 33) w2 := yr hR 0
  obtain ⟨bz0, -, e0, -⟩ := e0
  have e1 := yv hR 1
  have e2 := yv hR 2
  have e3 := yv hR 3
  have e4 := yv hR 4
  have e5 := yv hR 5
  have e6 := yv hR 6
  have e7 := yv hR 7
  have e8 := yv hR 8
  have e9 := yv hR 9
  clear hR; simp only [fillD, fLa, fLb, sTa, sTb]
  simp only [e0, e1, e2, e3, e4, e5, e6, e7, e8, e9]
  clear e0 e1 e2 e3 e4 e5 e6 e7 e8 e9
  replace hL := hL.grow hb
  clear hb
  go_upto_region 6 with (first | (with_reducible refine lld hL ?_) | ((with_reducible first | refine lbx hL ?_ | refine lal hL ?_ | refine lbs hL ?_); clear hL; intro bl w1 hL) | ((with_reducible refine lst' hL ?_); clear hL; intro w1 hL))
  refine draw_begin [40, 41, 42, 43, 39, 44, 45, 11, 12] ?_
  refine draw_next (SmR 0) SmR.stable ?_ ?_
  · intro g w hb hdep; replace hL := hL.grow hb; clear hdep; simp only [fillD, fLa, fLb, sTa, sTb]
    go_wp2_with (go_at_call 32; refine (small_any _).mono ?_; rintro e w3 ⟨b0, rfl, hge, hsm, hb3⟩; dsimp only)
    exact ⟨rfl, _, rfl, hb3, b0, Nat.zero_le _, rfl, hsm⟩
  simp only [apN, apC]
  apply draw_val
  · intro g w hb hdep; replace hL := hL.grow hb; clear hdep; simp only [fillD, fLa, fLb, sTa, sTb]
    go_wp2_with (first | (with_reducible refine lld hL ?_) | (with_reducible refine ldD hL ?_))
    exact cY
  simp only [apN, apC]
  apply draw_val
  · intro g w hb hdep; replace hL := hL.grow hb; clear hdep; simp only [fillD, fLa, fLb, sTa, sTb]
    go_wp2
    exact cY
  simp only [apN, apC]
  apply draw_val
  · intro g w hb hdep; replace hL := hL.grow hb; have d0 : (SmR 0) (g 40) w := yr hdep 0; obtain ⟨b0, -, d0, m0⟩ := d0; have d1 := yv hdep 1; have d2 := yv hdep 2; clear hdep; simp only [fillD, fLa, fLb, sTa, sTb]; simp only [d0, d1, d2]
    go_wp2_with (go_at_call 13; refine (small_holds b0 x5 z5 _ (small_code m0)).mono ?_; rintro e w3 ⟨rfl, hb3⟩; dsimp only)
    exact ⟨rfl, _, rfl, hb3, rfl⟩
  simp only [apN, apC]
  apply draw_val
  · intro g w hb hdep; replace hL := hL.grow hb; have d3 := yv hdep 3; clear hdep; simp only [fillD, fLa, fLb, sTa, sTb]; simp only [d3]
    go_wp2
    exact cY
  simp only [apN, apC]
  apply draw_val
  · intro g w hb hdep; replace hL := hL.grow hb; have d4 := yv hdep 4; clear hdep; simp only [fillD, fLa, fLb, sTa, sTb]; simp only [d4]
    go_wp2
    exact cY
  simp only [apN, apC]
  apply draw_val
  · intro g w hb hdep; replace hL := hL.grow hb; have d4 := yv hdep 4; clear hdep; simp only [fillD, fLa, fLb, sTa, sTb]; simp only [d4]
    go_wp2
    exact cY
  simp only [apN, apC]
  apply draw_val
  · intro g w hb hdep; replace hL := hL.grow hb; have d5 := yv hdep 5; clear hdep; simp only [fillD, fLa, fLb, sTa, sTb]; simp only [d5]
    go_wp2
    exact cY
  simp only [apN, apC]
  apply draw_val
  · intro g w hb hdep; replace hL := hL.grow hb; have d6 := yv hdep 6; clear hdep; simp only [fillD, fLa, fLb, sTa, sTb]; simp only [d6]
    go_wp2
    exact cY
  simp only [apN, apC]
  refine draw_end hL (by kernel_rfl) (by kernel_rfl) ?_
  intro g w2 hb hR; simp only [List.length_cons, List.length_nil, Nat.reduceAdd] at hR
  have e0 : (SmR 0) (g 40) w2 := yr hR 0
  obtain ⟨bz0, -, e0, -⟩ := e0
  have e1 := yv hR 1
  have e2 := yv hR 2
  have e3 := yv hR 3
  have e4 := yv hR 4
  have e5 := yv hR 5
  have e6 := yv hR 6
  have e7 := yv hR 7
  have e8 := yv hR 8
  clear hR; simp only [fillD, fLa, fLb, sTa, sTb]
  simp only [e0, e1, e2, e3, e4, e5, e6, e7, e8]
  clear e0 e1 e2 e3 e4 e5 e6 e7 e8
  replace hL := hL.grow hb
  clear hb
  go_upto_region 7 with (first | (with_reducible refine lld hL ?_) | ((with_reducible first | refine lbx hL ?_ | refine lal hL ?_ | refine lbs hL ?_); clear hL; intro bl w1 hL) | ((with_reducible refine lst' hL ?_); clear hL; intro w1 hL))
  refine draw_begin [46, 47, 48, 49, 50, 51, 52, 53, 54, 55, 56, 57, 58, 59, 60, 61, 62, 63, 64, 65, 66, 67, 68, 69, 70, 71, 72, 73, 74, 75, 76, 77, 78, 79, 80, 81, 82, 83, 0] ?_
  apply draw_val
  · intro g w hb hdep; replace hL := hL.grow hb; clear hdep; simp only [fillD, fLa, fLb, sTa, sTb]
    go_wp2
    exact cY
  simp only [apN, apC]
  apply draw_val
  · intro g w hb hdep; replace hL := hL.grow hb; have d0 := yv hdep 0; clear hdep; simp only [fillD, fLa, fLb, sTa, sTb]; simp only [d0]
    go_wp2
    exact cY
  simp only [apN, apC]
  apply draw_val
  · intro g w hb hdep; replace hL := hL.grow hb; have d1 := yv hdep 1; clear hdep; simp only [fillD, fLa, fLb, sTa, sTb]; simp only [d1]
    go_wp2
    exact cY
  simp only [apN, apC]
  apply draw_val
  · intro g w hb hdep; replace hL := hL.grow hb; have d2 := yv hdep 2; clear hdep; simp only [fillD, fLa, fLb, sTa, sTb]; simp only [d2]
    go_wp2
    exact cY
  simp only [apN, apC]
  apply draw_val
  · intro g w hb hdep; replace hL := hL.grow hb; have d3 := yv hdep 3; have d2 := yv hdep 2; clear hdep; simp only [fillD, fLa, fLb, sTa, sTb]; simp only [d3, d2]
    go_wp2
    exact cY
  simp only [apN, apC]
  apply draw_val
  · intro g w hb hdep; replace hL := hL.grow hb; have d2 := yv hdep 2; have d4 := yv hdep 4; clear hdep; simp only [fillD, fLa, fLb, sTa, sTb]; simp only [d2, d4]
    go_wp2
    exact cY
  simp only [apN, apC]
  apply draw_val
  · intro g w hb hdep; replace hL := hL.grow hb; have d5 := yv hdep 5; clear hdep; simp only [fillD, fLa, fLb, sTa, sTb]; simp only [d5]
    go_wp2
    exact cY
  simp only [apN, apC]
  apply draw_val
  · intro g w hb hdep; replace hL := hL.grow hb; have d6 := yv hdep 6; clear hdep; simp only [fillD, fLa, fLb, sTa, sTb]; simp only [d6]
    go_wp2
    exact cY
  simp only [apN, apC]
  apply draw_val
  · intro g w hb hdep; replace hL := hL.grow hb; have d7 := yv hdep 7; have d6 := yv hdep 6; clear hdep; simp only [fillD, fLa, fLb, sTa, sTb]; simp only [d7, d6]
    go_wp2
    exact cY
  simp only [apN, apC]
  apply draw_val
  · intro g w hb hdep; replace hL := hL.grow hb; have d6 := yv hdep 6; have d8 := yv hdep 8; clear hdep; simp only [fillD, fLa, fLb, sTa, sTb]; simp only [d6, d8]
    go_wp2
    exact cY
  simp only [apN, apC]
  apply draw_val
  · intro g w hb hdep; replace hL := hL.grow hb; have d9 := yv hdep 9; clear hdep; simp only [fillD, fLa, fLb, sTa, sTb]; simp only [d9]
    go_wp2
    exact cY
  simp only [apN, apC]
  apply draw_val
  · intro g w hb hdep; replace hL := hL.grow hb; have d10 := yv hdep 10; clear hdep; simp only [fillD, fLa, fLb, sTa, sTb]; simp only [d10]
    go_wp2
    exact cY
  simp only [apN, apC]
  apply draw_val
  · intro g w hb hdep; replace hL := hL.grow hb; have d11 := yv hdep 11; have d10 := yv hdep 10; clear hdep; simp only [fillD, fLa, fLb, sTa, sTb]; simp only [d11, d10]
    go_wp2
    exact cY
  simp only [apN, apC]
  apply draw_val
  · intro g w hb hdep; replace hL := hL.grow hb; have d10 := yv hdep 10; have d12 := yv hdep 12; clear hdep; simp only [fillD, fLa, fLb, sTa, sTb]; simp only [d10, d12]
    go_wp2
    exact cY
  simp only [apN, apC]
  apply draw_val
  · intro g w hb hdep; replace hL := hL.grow hb; have d13 := yv hdep 13; clear hdep; simp only [fillD, fLa, fLb, sTa, sTb]; simp only [d13]
    go_wp2
    exact cY
  simp only [apN, apC]
  apply draw_val
  · intro g w hb hdep; replace hL := hL.grow hb; have d14 := yv hdep 14; clear hdep; simp only [fillD, fLa, fLb, sTa, sTb]; simp only [d14]
    go_wp2
    exact cY
  simp only [apN, apC]
  apply draw_val
  · intro g w hb hdep; replace hL := hL.grow hb; have d14 := yv hdep 14; have d15 := yv hdep 15; clear hdep; simp only [fillD, fLa, fLb, sTa, sTb]; simp only [d14, d15]
    go_wp2
    exact cY
  simp only [apN, apC]
  apply draw_val
  · intro g w hb hdep; replace hL := hL.grow hb; have d16 := yv hdep 16; clear hdep; simp only [fillD, fLa, fLb, sTa, sTb]; simp only [d16]
    go_wp2
    exact cY
  simp only [apN, apC]
  apply draw_val
  · intro g w hb hdep; replace hL := hL.grow hb; have d17 := yv hdep 17; clear hdep; simp only [fillD, fLa, fLb, sTa, sTb]; simp only [d17]
    go_wp2
    exact cY
  simp only [apN, apC]
  apply draw_val
  · intro g w hb hdep; replace hL := hL.grow hb; have d17 := yv hdep 17; have d18 := yv hdep 18; clear hdep; simp only [fillD, fLa, fLb, sTa, sTb]; simp only [d17, d18]
    go_wp2
    exact cY
  simp only [apN, apC]
  apply draw_val
  · intro g w hb hdep; replace hL := hL.grow hb; have d19 := yv hdep 19; clear hdep; simp only [fillD, fLa, fLb, sTa, sTb]; simp only [d19]
    go_wp2
    exact cY
  simp only [apN, apC]
  apply draw_val
  · intro g w hb hdep; replace hL := hL.grow hb; have d20 := yv hdep 20; clear hdep; simp only [fillD, fLa, fLb, sTa, sTb]; simp only [d20]
    go_wp2
    exact cY
  simp only [apN, apC]
  apply draw_val
  · intro g w hb hdep; replace hL := hL.grow hb; have d20 := yv hdep 20; have d21 := yv hdep 21; clear hdep; simp only [fillD, fLa, fLb, sTa, sTb]; simp only [d20, d21]
    go_wp2
    exact cY
  simp only [apN, apC]
  apply draw_val
  · intro g w hb hdep; replace hL := hL.grow hb; have d22 := yv hdep 22; clear hdep; simp only [fillD, fLa, fLb, sTa, sTb]; simp only [d22]
    go_wp2
    exact cY
  simp only [apN, apC]
  apply draw_val
  · intro g w hb hdep; replace hL := hL.grow hb; have d23 := yv hdep 23; clear hdep; simp only [fillD, fLa, fLb, sTa, sTb]; simp only [d23]
    go_wp2
    exact cY
  simp only [apN, apC]
  apply draw_val
  · intro g w hb hdep; replace hL := hL.grow hb; have d23 := yv hdep 23; have d24 := yv hdep 24; clear hdep; simp only [fillD, fLa, fLb, sTa, sTb]; simp only [d23, d24]
    go_wp2
    exact cY
  simp only [apN, apC]
  apply draw_val
  · intro g w hb hdep; replace hL := hL.grow hb; have d25 := yv hdep 25; clear hdep; simp only [fillD, fLa, fLb, sTa, sTb]; simp only [d25]
    go_wp2
    exact cY
  simp only [apN, apC]
  apply draw_val
  · intro g w hb hdep; replace hL := hL.grow hb; have d26 := yv hdep 26; clear hdep; simp only [fillD, fLa, fLb, sTa, sTb]; simp only [d26]
    go_wp2
    exact cY
  simp only [apN, apC]
  apply draw_val
  · intro g w hb hdep; replace hL := hL.grow hb; have d27 := yv hdep 27; have d26 := yv hdep 26; clear hdep; simp only [fillD, fLa, fLb, sTa, sTb]; simp only [d27, d26]
    go_wp2_with (first | (with_reducible refine lld hL ?_) | (with_reducible refine ldD hL ?_))
    exact cY
  simp only [apN, apC]
  apply draw_val
  · intro g w hb hdep; replace hL := hL.grow hb; have d26 := yv hdep 26; clear hdep; simp only [fillD, fLa, fLb, sTa, sTb]; simp only [d26]
    go_wp2
    exact cY
  simp only [apN, apC]
  apply draw_val
  · intro g w hb hdep; replace hL := hL.grow hb; have d28 := yv hdep 28; have d29 := yv hdep 29; have d26 := yv hdep 26; clear hdep; simp only [fillD, fLa, fLb, sTa, sTb]; simp only [d28, d29, d26]
    go_wp2_with (refine wp_eql_span (a := ⟨false, 10, 10⟩) rfl rfl ?_)
    exact cY
  simp only [apN, apC]
  apply draw_val
  · intro g w hb hdep; replace hL := hL.grow hb; have d26 := yv hdep 26; have d30 := yv hdep 30; clear hdep; simp only [fillD, fLa, fLb, sTa, sTb]; simp only [d26, d30]
    go_wp2
    exact cY
  simp only [apN, apC]
  apply draw_val
  · intro g w hb hdep; replace hL := hL.grow hb; have d31 := yv hdep 31; clear hdep; simp only [fillD, fLa, fLb, sTa, sTb]; simp only [d31]
    go_wp2
    exact cY
  simp only [apN, apC]
  refine draw_next (SmR 0) SmR.stable ?_ ?_
  · intro g w hb hdep; replace hL := hL.grow hb; have d32 := yv hdep 32; clear hdep; simp only [fillD, fLa, fLb, sTa, sTb]; simp only [d32]
    go_wp2_with (go_at_call 32; refine (small_any _).mono ?_; rintro e w3 ⟨b0, rfl, hge, hsm, hb3⟩; dsimp only)
    exact ⟨rfl, _, rfl, hb3, b0, Nat.zero_le _, rfl, hsm⟩
  simp only [apN, apC]
  apply draw_val
  · intro g w hb hdep; replace hL := hL.grow hb; have d32 := yv hdep 32; clear hdep; simp only [fillD, fLa, fLb, sTa, sTb]; simp only [d32]
    go_wp2_with (first | (with_reducible refine lld hL ?_) | (with_reducible refine ldD hL ?_))
    exact cY
  simp only [apN, apC]
  apply draw_val
  · intro g w hb hdep; replace hL := hL.grow hb; have d33 : (SmR 0) (g 79) w := yr hdep 33; have s33 := Exists.choose_spec d33; generalize Exists.choose d33 = b0 at s33; have m0 := s33.2.2; replace d33 := s33.2.1; have d34 := yv hdep 34; have d32 := yv hdep 32; clear hdep; simp only [fillD, fLa, fLb, sTa, sTb]; simp only [d33, d34, d32]
    go_wp2_with (go_at_call 19; refine (small_gcheck b0 x5 z5 _ (small_code m0)).mono ?_; rintro e w3 ⟨rfl, hb3⟩; dsimp only)
    exact ⟨rfl, _, rfl, hb3, rfl⟩
  simp only [apN, apC]
  apply draw_val
  · intro g w hb hdep; replace hL := hL.grow hb; have d35 := yv hdep 35; have d32 := yv hdep 32; clear hdep; simp only [fillD, fLa, fLb, sTa, sTb]; simp only [d35, d32]
    go_wp2
    exact cY
  simp only [apN, apC]
  apply draw_val
  · intro g w hb hdep; replace hL := hL.grow hb; have d32 := yv hdep 32; have d36 := yv hdep 36; clear hdep; simp only [fillD, fLa, fLb, sTa, sTb]; simp only [d32, d36]
    go_wp2
    exact cY
  simp only [apN, apC]
  apply draw_val
  · intro g w hb hdep; replace hL := hL.grow hb; have d37 := yv hdep 37; clear hdep; simp only [fillD, fLa, fLb, sTa, sTb]; simp only [d37]
    go_wp2
    exact cY
  simp only [apN, apC]
  refine draw_end hL (by kernel_rfl) (by kernel_rfl) ?_
  intro g w2 hb hR; simp only [List.length_cons, List.length_nil, Nat.reduceAdd] at hR
  have e0 := yv hR 0
  have e1 := yv hR 1
  have e2 := yv hR 2
  have e3 := yv hR 3
  have e4 := yv hR 4
  have e5 := yv hR 5
  have e6 := yv hR 6
  have e7 := yv hR 7
  have e8 := yv hR 8
  have e9 := yv hR 9
  have e10 := yv hR 10
  have e11 := yv hR 11
  have e12 := yv hR 12
  have e13 := yv hR 13
  have e14 := yv hR 14
  have e15 := yv hR 15
  have e16 := yv hR 16
  have e17 := yv hR 17
  have e18 := yv hR 18
  have e19 := yv hR 19
  have e20 := yv hR 20
  have e21 := yv hR 21
  have e22 := yv hR 22
  have e23 := yv hR 23
  have e24 := yv hR 24
  have e25 := yv hR 25
  have e26 := yv hR 26
  have e27 := yv hR 27
  have e28 := yv hR 28
  have e29 := yv hR 29
  have e30 := yv hR 30
  have e31 := yv hR 31
  have e32 := yv hR 32
  have e33 : (SmR 0) (g 79) w2 := yr hR 33
  have s33 := Exists.choose_spec e33; generalize Exists.choose e33 = bz33 at s33; replace e33 := s33.2.1
  have e34 := yv hR 34
  have e35 := yv hR 35
  have e36 := yv hR 36
  have e37 := yv hR 37
  have e38 := yv hR 38
  clear hR; simp only [fillD, fLa, fLb, sTa, sTb]
  simp only [e0, e1, e2, e3, e4, e5, e6, e7, e8, e9, e10, e11, e12, e13, e14, e15, e16, e17, e18, e19, e20, e21, e22, e23, e24, e25, e26, e27, e28, e29, e30, e31, e32, e33, e34, e35, e36, e37, e38]
  clear e0 e1 e2 e3 e4 e5 e6 e7 e8 e9 e10 e11 e12 e13 e14 e15 e16 e17 e18 e19 e20 e21 e22 e23 e24 e25 e26 e27 e28 e29 e30 e31 e32 e33 e34 e35 e36 e37 e38
  replace hL := hL.grow hb
  clear hb
  go_wp2_with (first | (with_reducible refine lld hL ?_) | ((with_reducible first | refine lbx hL ?_ | refine lal hL ?_ | refine lbs hL ?_); clear hL; intro bl w1 hL) | ((with_reducible refine lst' hL ?_); clear hL; intro w1 hL))
  (try simp only [Exit.inBlock, Exit.then]); refine' ret1 rfl ?_ rfl ?_; (case refine'_2 => exact cRes)
  exact ⟨rfl, hL.below⟩
end Go.Proofs.YteimpfplgdhclaaGreat
