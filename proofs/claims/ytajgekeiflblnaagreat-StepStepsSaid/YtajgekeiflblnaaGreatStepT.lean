import Derived.Test.YtajgekeiflblnaaGreatStpc
import Derived.Test.YtajgekeiflblnaaGreatRefStepL
import Derived.Test.YtajgekeiflblnaaGreatRpa
set_option linter.unusedSimpArgs false
set_option linter.unusedVariables false
set_option maxRecDepth 100000
namespace Go.Proofs.YtajgekeiflblnaaGreat
open Go.RowKit
structure StepIn (w : World) (p : Pg) (is : Nat → Ins) (x : Pv) (d : Pd) : Prop where
 n : p.n ≤ 9223372036854775807
 c : CodeAt w p is
 x : PicIs w x d
set_option maxHeartbeats 4000000 in
theorem psteps_a (p : Pg) (is : Nat → Ins) (x : Pv) (d : Pd) (at' : Int) (w : World) (hi : StepIn w p is x d) (h0 : cp1 p is d ≠ 0) :
  Calls Tryz.prog 3 #[p.v, .int .i64 at', x.v] w fun q w' => q = .returned (.bool true) ∧ Below w.heap.size w w' := by
 obtain ⟨hn, hc, hx⟩ := hi
 have HSB := Lib.hid (fun w' => stepBegun_any w')
 have hst := fun w' (hb : Below w.heap.size w w') => step_any p is x d at' w' hn (hc.grow hb) (hx.grow hb)
 have hr1 := fun (b : Nat) (w' : World) (hb : Below w.heap.size w w') (hh : w'.heap[b]? = some (.cells x.cells.toArray 28 (0, 0))) => (show Calls Tryz.prog 6 #[p.v, .slice (some ⟨b, 0, none⟩) 1 1] w' fun q w2 => q = .returned (.int .i64 (cp1 p is d)) ∧ Below w'.heap.size w' w2 from rCheckPictures_any p is (some ⟨b, 0, none⟩) 1 1 (fun _ => x) (fun _ => d) w' hn (hc.grow hb) (pics1 hh (hx.grow hb)))
 have he : stepE p is at' d = cp1 p is d := if_pos h0
 have ho : stepO p is at' d = ⟨[], false, false⟩ := if_pos (by rw [he]; exact h0)
 simp only [he, ho] at hst
 have hcc : (cp1 p is d == 0) = false := by simpa using h0
 generalize cp1 p is d = c at *
 have HST := Lib.hid hst
 have HR1 := Lib.hid hr1
 clear hst hr1 hc hx he ho h0
 obtain ⟨xn, ⟨xp, xvn, xc⟩, ⟨xfp, xfn, xfc⟩⟩ := x
 have hL := Loc.start w
 go_enter Tryz.func3, Tryz.ntmps3
 go_upto_region 9 with (first | (go_at_call 5; refine (HST.out _ hL.below).mono ?_; rintro e w1 ⟨⟨sp, sn, sc⟩, rfl, hG⟩; replace hL := hL.gave hG; simp only [List.append_nil, List.cons_append, List.nil_append] at hL; clear hG; dsimp only) | (go_at_call 6; refine (HR1.out bl _ hL.below (hL.heap (by repeat (first | exact InL.head | apply InL.tail)))).mono ?_; rintro e w1 ⟨rfl, hb⟩; replace hL := hL.grow hb; clear hb; dsimp only) | (with_reducible refine lld hL ?_) | ((with_reducible first | refine lbx hL ?_ | refine lal hL ?_ | refine lbs hL ?_); clear hL; intro bl w1 hL) | ((with_reducible refine lst' hL ?_); clear hL; intro w1 hL))
 have he1 := hL.get (S := fun w => EdsIs w ⟨sp, sn, sc⟩ []) (by repeat (first | exact List.mem_cons_self | apply List.mem_cons_of_mem))
 have HSE := Lib.hid (fun w' (hb : Below w1.heap.size w1 w') => (show Calls Tryz.prog 9 #[.slice sp sn sc, .slice none 0 0] w' _ from sameEds_any ⟨sp, sn, sc⟩ nilSl [] w' (he1.grow hb) (EdsIs.nil w')))
 clear he1
 obtain ⟨wr, hwr⟩ : ∃ x, x = w1 := ⟨_, rfl⟩
 subst hwr
 refine seq_begin [51, 52, 53, 54, 55, 56, 57, 58, 59, 60, 61, 62, 63, 64, 65, 66, 67, 68, 69, 70, 71, 6] ?_
 apply draw_val
 ·intro g w hb hdep; replace hL := hL.grow hb; clear hdep; simp only [fillD, fLa, fLb, sTa, sTb]
  go_wp2_with (go_at_call 8; refine (HSB.out _).mono ?_; rintro e w3 ⟨rfl, hb3⟩; dsimp only)
  exact ⟨rfl, _, rfl, (by assumption), rfl⟩
 simp only [apN, apC]
 refine dv1 0 ?_
 refine dv1 1 ?_
 refine dv1 1 ?_
 refine dv3 2 3 1 ?_
 apply draw_val
 ·intro g w hb hdep; replace hL := hL.grow hb; have d1 := yv hdep 1; have d4 := yv hdep 4; clear hdep; simp only [fillD, fLa, fLb, sTa, sTb]; simp only [d1, d4]
  go_wp2
  exact cY
 simp only [apN, apC]
 refine dv1 5 ?_
 refine dv1 6 ?_
 refine dv1 6 ?_
 apply draw_val
 ·intro g w hb hdep; replace hL := hL.grow hb; have d7 := yv hdep 7; have d8 := yv hdep 8; have d6 := yv hdep 6; clear hdep; simp only [fillD, fLa, fLb, sTa, sTb]; simp only [d7, d8, d6]
  go_wp2_with (go_at_call 9; refine (HSE.out _ hb).mono ?_; rintro e w3 ⟨rfl, hb3⟩; dsimp only)
  exact ⟨rfl, _, rfl, (by assumption), rfl⟩
 simp only [apN, apC]
 apply draw_val
 ·intro g w hb hdep; replace hL := hL.grow hb; have d6 := yv hdep 6; have d9 := yv hdep 9; clear hdep; simp only [fillD, fLa, fLb, sTa, sTb]; simp only [d6, d9]
  go_wp2
  exact cY
 simp only [apN, apC]
 refine dv1 10 ?_
 refine dv1 11 ?_
 refine dv1 11 ?_
 refine dv3 12 13 11 ?_
 apply draw_val
 ·intro g w hb hdep; replace hL := hL.grow hb; have d11 := yv hdep 11; have d14 := yv hdep 14; clear hdep; simp only [fillD, fLa, fLb, sTa, sTb]; simp only [d11, d14]
  go_wp2
  exact cY
 simp only [apN, apC]
 refine dv1 15 ?_
 refine dv1 16 ?_
 refine dv1 16 ?_
 refine dv3 17 18 16 ?_
 apply draw_val
 ·intro g w hb hdep; replace hL := hL.grow hb; have d16 := yv hdep 16; have d19 := yv hdep 19; clear hdep; simp only [fillD, fLa, fLb, sTa, sTb]; simp only [d16, d19]
  go_wp2
  exact cY
 simp only [apN, apC]
 refine dv1 20 ?_
 refine seq_end hL (by kernel_rfl) ?_
 intro g w2 hb hR; simp only [List.length_cons, List.length_nil, Nat.reduceAdd] at hR
 have e0 := yv hR 0
 have e1 := yv hR 1
 have e2 := yv hR 2
 have e3 := yv hR 3
 have e4 := yv hR 4
 have e5 := yv hR 5
 have e6 := yv hR 6
 have e7 := yv hR 7
 have e8 := yv hR 8
 have e9 := yv hR 9
 have e10 := yv hR 10
 have e11 := yv hR 11
 have e12 := yv hR 12
 have e13 := yv hR 13
 have e14 := yv hR 14
 have e15 := yv hR 15
 have e16 := yv hR 16
 have e17 := yv hR 17
 have e18 := yv hR 18
 have e19 := yv hR 19
 have e20 := yv hR 20
 have e21 := yv hR 21
 clear hR; simp only [fillD, fLa, fLb, sTa, sTb]
 simp only [e0, e1, e2, e3, e4, e5, e6, e7, e8, e9, e10, e11, e12, e13, e14, e15, e16, e17, e18, e19, e20, e21]
 clear e0 e1 e2 e3 e4 e5 e6 e7 e8 e9 e10 e11 e12 e13 e14 e15 e16 e17 e18 e19 e20 e21
 replace hL := hL.grow hb
 clear hb
 go_wp2_with (first | (with_reducible refine lld hL ?_) | ((with_reducible first | refine lbx hL ?_ | refine lal hL ?_ | refine lbs hL ?_); clear hL; intro bl w1 hL) | ((with_reducible refine lst' hL ?_); clear hL; intro w1 hL))
 (try simp only [Exit.inBlock, Exit.then]); refine' ret1 rfl ?_ rfl ?_; (case refine'_2 => exact cRes)
 exact ⟨by simp, hL.below⟩
set_option maxHeartbeats 4000000 in
theorem psteps_b (p : Pg) (is : Nat → Ins) (x : Pv) (d : Pd) (at' : Int) (w : World) (hi : StepIn w p is x d) (h0 : cp1 p is d = 0) (h1 : at' < 0) :
  Calls Tryz.prog 3 #[p.v, .int .i64 at', x.v] w fun q w' => q = .returned (.bool true) ∧ Below w.heap.size w w' := by
 obtain ⟨hn, hc, hx⟩ := hi
 have HSB := Lib.hid (fun w' => stepBegun_any w')
 have hst := fun w' (hb : Below w.heap.size w w') => step_any p is x d at' w' hn (hc.grow hb) (hx.grow hb)
 have hr1 := fun (b : Nat) (w' : World) (hb : Below w.heap.size w w') (hh : w'.heap[b]? = some (.cells x.cells.toArray 28 (0, 0))) => (show Calls Tryz.prog 6 #[p.v, .slice (some ⟨b, 0, none⟩) 1 1] w' fun q w2 => q = .returned (.int .i64 (cp1 p is d)) ∧ Below w'.heap.size w' w2 from rCheckPictures_any p is (some ⟨b, 0, none⟩) 1 1 (fun _ => x) (fun _ => d) w' hn (hc.grow hb) (pics1 hh (hx.grow hb)))
 obtain ⟨hp, hrt⟩ := cp1_zero h0
 rw [h0] at hr1
 have he : stepE p is at' d = 5 := (if_neg (by rw [h0]; decide)).trans (if_pos (by omega))
 have ho : stepO p is at' d = ⟨[], false, false⟩ := if_pos (by rw [he]; decide)
 simp only [he, ho] at hst
 have c0 : decide (at' < 0) = true := decide_eq_true h1
 have HST := Lib.hid hst
 have HR1 := Lib.hid hr1
 clear hst hr1 hc hx he ho h0 h1 hp hrt
 obtain ⟨xn, ⟨xp, xvn, xc⟩, ⟨xfp, xfn, xfc⟩⟩ := x
 have hL := Loc.start w
 go_enter Tryz.func3, Tryz.ntmps3
 go_upto_region 9 with (first | (go_at_call 5; refine (HST.out _ hL.below).mono ?_; rintro e w1 ⟨⟨sp, sn, sc⟩, rfl, hG⟩; replace hL := hL.gave hG; simp only [List.append_nil, List.cons_append, List.nil_append] at hL; clear hG; dsimp only) | (go_at_call 6; refine (HR1.out bl _ hL.below (hL.heap (by repeat (first | exact InL.head | apply InL.tail)))).mono ?_; rintro e w1 ⟨rfl, hb⟩; replace hL := hL.grow hb; clear hb; dsimp only) | (with_reducible refine lld hL ?_) | ((with_reducible first | refine lbx hL ?_ | refine lal hL ?_ | refine lbs hL ?_); clear hL; intro bl w1 hL) | ((with_reducible refine lst' hL ?_); clear hL; intro w1 hL))
 have he1 := hL.get (S := fun w => EdsIs w ⟨sp, sn, sc⟩ []) (by repeat (first | exact List.mem_cons_self | apply List.mem_cons_of_mem))
 have HSE := Lib.hid (fun w' (hb : Below w1.heap.size w1 w') => (show Calls Tryz.prog 9 #[.slice sp sn sc, .slice none 0 0] w' _ from sameEds_any ⟨sp, sn, sc⟩ nilSl [] w' (he1.grow hb) (EdsIs.nil w')))
 clear he1
 obtain ⟨wr, hwr⟩ : ∃ x, x = w1 := ⟨_, rfl⟩
 subst hwr
 refine seq_begin [51, 52, 53, 54, 55, 56, 57, 58, 59, 60, 61, 62, 63, 64, 65, 66, 67, 68, 69, 70, 71, 6] ?_
 apply draw_val
 ·intro g w hb hdep; replace hL := hL.grow hb; clear hdep; simp only [fillD, fLa, fLb, sTa, sTb]
  go_wp2_with (go_at_call 8; refine (HSB.out _).mono ?_; rintro e w3 ⟨rfl, hb3⟩; dsimp only)
  exact ⟨rfl, _, rfl, (by assumption), rfl⟩
 simp only [apN, apC]
 refine dv1 0 ?_
 refine dv1 1 ?_
 refine dv1 1 ?_
 refine dv3 2 3 1 ?_
 apply draw_val
 ·intro g w hb hdep; replace hL := hL.grow hb; have d1 := yv hdep 1; have d4 := yv hdep 4; clear hdep; simp only [fillD, fLa, fLb, sTa, sTb]; simp only [d1, d4]
  go_wp2
  exact cY
 simp only [apN, apC]
 refine dv1 5 ?_
 refine dv1 6 ?_
 refine dv1 6 ?_
 apply draw_val
 ·intro g w hb hdep; replace hL := hL.grow hb; have d7 := yv hdep 7; have d8 := yv hdep 8; have d6 := yv hdep 6; clear hdep; simp only [fillD, fLa, fLb, sTa, sTb]; simp only [d7, d8, d6]
  go_wp2_with (go_at_call 9; refine (HSE.out _ hb).mono ?_; rintro e w3 ⟨rfl, hb3⟩; dsimp only)
  exact ⟨rfl, _, rfl, (by assumption), rfl⟩
 simp only [apN, apC]
 apply draw_val
 ·intro g w hb hdep; replace hL := hL.grow hb; have d6 := yv hdep 6; have d9 := yv hdep 9; clear hdep; simp only [fillD, fLa, fLb, sTa, sTb]; simp only [d6, d9]
  go_wp2
  exact cY
 simp only [apN, apC]
 refine dv1 10 ?_
 refine dv1 11 ?_
 refine dv1 11 ?_
 refine dv3 12 13 11 ?_
 apply draw_val
 ·intro g w hb hdep; replace hL := hL.grow hb; have d11 := yv hdep 11; have d14 := yv hdep 14; clear hdep; simp only [fillD, fLa, fLb, sTa, sTb]; simp only [d11, d14]
  go_wp2
  exact cY
 simp only [apN, apC]
 refine dv1 15 ?_
 refine dv1 16 ?_
 refine dv1 16 ?_
 refine dv3 17 18 16 ?_
 apply draw_val
 ·intro g w hb hdep; replace hL := hL.grow hb; have d16 := yv hdep 16; have d19 := yv hdep 19; clear hdep; simp only [fillD, fLa, fLb, sTa, sTb]; simp only [d16, d19]
  go_wp2
  exact cY
 simp only [apN, apC]
 refine dv1 20 ?_
 refine seq_end hL (by kernel_rfl) ?_
 intro g w2 hb hR; simp only [List.length_cons, List.length_nil, Nat.reduceAdd] at hR
 have e0 := yv hR 0
 have e1 := yv hR 1
 have e2 := yv hR 2
 have e3 := yv hR 3
 have e4 := yv hR 4
 have e5 := yv hR 5
 have e6 := yv hR 6
 have e7 := yv hR 7
 have e8 := yv hR 8
 have e9 := yv hR 9
 have e10 := yv hR 10
 have e11 := yv hR 11
 have e12 := yv hR 12
 have e13 := yv hR 13
 have e14 := yv hR 14
 have e15 := yv hR 15
 have e16 := yv hR 16
 have e17 := yv hR 17
 have e18 := yv hR 18
 have e19 := yv hR 19
 have e20 := yv hR 20
 have e21 := yv hR 21
 clear hR; simp only [fillD, fLa, fLb, sTa, sTb]
 simp only [e0, e1, e2, e3, e4, e5, e6, e7, e8, e9, e10, e11, e12, e13, e14, e15, e16, e17, e18, e19, e20, e21]
 clear e0 e1 e2 e3 e4 e5 e6 e7 e8 e9 e10 e11 e12 e13 e14 e15 e16 e17 e18 e19 e20 e21
 replace hL := hL.grow hb
 clear hb
 go_wp2_with (first | (with_reducible refine lld hL ?_) | ((with_reducible first | refine lbx hL ?_ | refine lal hL ?_ | refine lbs hL ?_); clear hL; intro bl w1 hL) | ((with_reducible refine lst' hL ?_); clear hL; intro w1 hL))
 (try simp only [Exit.inBlock, Exit.then]); refine' ret1 rfl ?_ rfl ?_; (case refine'_2 => exact cRes)
 exact ⟨by simp, hL.below⟩
set_option maxHeartbeats 4000000 in
theorem psteps_c (p : Pg) (is : Nat → Ins) (x : Pv) (d : Pd) (at' : Int) (w : World) (hi : StepIn w p is x d) (h0 : cp1 p is d = 0) (h1 : (p.n : Int) ≤ at') :
  Calls Tryz.prog 3 #[p.v, .int .i64 at', x.v] w fun q w' => q = .returned (.bool true) ∧ Below w.heap.size w w' := by
 obtain ⟨hn, hc, hx⟩ := hi
 have HSB := Lib.hid (fun w' => stepBegun_any w')
 have hst := fun w' (hb : Below w.heap.size w w') => step_any p is x d at' w' hn (hc.grow hb) (hx.grow hb)
 have hr1 := fun (b : Nat) (w' : World) (hb : Below w.heap.size w w') (hh : w'.heap[b]? = some (.cells x.cells.toArray 28 (0, 0))) => (show Calls Tryz.prog 6 #[p.v, .slice (some ⟨b, 0, none⟩) 1 1] w' fun q w2 => q = .returned (.int .i64 (cp1 p is d)) ∧ Below w'.heap.size w' w2 from rCheckPictures_any p is (some ⟨b, 0, none⟩) 1 1 (fun _ => x) (fun _ => d) w' hn (hc.grow hb) (pics1 hh (hx.grow hb)))
 obtain ⟨hp, hrt⟩ := cp1_zero h0
 rw [h0] at hr1
 have he : stepE p is at' d = 5 := (if_neg (by rw [h0]; decide)).trans (if_pos (by omega))
 have ho : stepO p is at' d = ⟨[], false, false⟩ := if_pos (by rw [he]; decide)
 simp only [he, ho] at hst
 have c0 : decide (at' < 0) = false := decide_eq_false (by omega)
 have c1 : decide ((p.n : Int) ≤ at') = true := decide_eq_true h1
 have HST := Lib.hid hst
 have HR1 := Lib.hid hr1
 clear hst hr1 hc hx he ho h0 h1 hp hrt
 obtain ⟨xn, ⟨xp, xvn, xc⟩, ⟨xfp, xfn, xfc⟩⟩ := x
 have hL := Loc.start w
 go_enter Tryz.func3, Tryz.ntmps3
 go_upto_region 9 with (first | (go_at_call 5; refine (HST.out _ hL.below).mono ?_; rintro e w1 ⟨⟨sp, sn, sc⟩, rfl, hG⟩; replace hL := hL.gave hG; simp only [List.append_nil, List.cons_append, List.nil_append] at hL; clear hG; dsimp only) | (go_at_call 6; refine (HR1.out bl _ hL.below (hL.heap (by repeat (first | exact InL.head | apply InL.tail)))).mono ?_; rintro e w1 ⟨rfl, hb⟩; replace hL := hL.grow hb; clear hb; dsimp only) | (with_reducible refine lld hL ?_) | ((with_reducible first | refine lbx hL ?_ | refine lal hL ?_ | refine lbs hL ?_); clear hL; intro bl w1 hL) | ((with_reducible refine lst' hL ?_); clear hL; intro w1 hL))
 have he1 := hL.get (S := fun w => EdsIs w ⟨sp, sn, sc⟩ []) (by repeat (first | exact List.mem_cons_self | apply List.mem_cons_of_mem))
 have HSE := Lib.hid (fun w' (hb : Below w1.heap.size w1 w') => (show Calls Tryz.prog 9 #[.slice sp sn sc, .slice none 0 0] w' _ from sameEds_any ⟨sp, sn, sc⟩ nilSl [] w' (he1.grow hb) (EdsIs.nil w')))
 clear he1
 obtain ⟨wr, hwr⟩ : ∃ x, x = w1 := ⟨_, rfl⟩
 subst hwr
 refine seq_begin [51, 52, 53, 54, 55, 56, 57, 58, 59, 60, 61, 62, 63, 64, 65, 66, 67, 68, 69, 70, 71, 6] ?_
 apply draw_val
 ·intro g w hb hdep; replace hL := hL.grow hb; clear hdep; simp only [fillD, fLa, fLb, sTa, sTb]
  go_wp2_with (go_at_call 8; refine (HSB.out _).mono ?_; rintro e w3 ⟨rfl, hb3⟩; dsimp only)
  exact ⟨rfl, _, rfl, (by assumption), rfl⟩
 simp only [apN, apC]
 refine dv1 0 ?_
 refine dv1 1 ?_
 refine dv1 1 ?_
 refine dv3 2 3 1 ?_
 apply draw_val
 ·intro g w hb hdep; replace hL := hL.grow hb; have d1 := yv hdep 1; have d4 := yv hdep 4; clear hdep; simp only [fillD, fLa, fLb, sTa, sTb]; simp only [d1, d4]
  go_wp2
  exact cY
 simp only [apN, apC]
 refine dv1 5 ?_
 refine dv1 6 ?_
 refine dv1 6 ?_
 apply draw_val
 ·intro g w hb hdep; replace hL := hL.grow hb; have d7 := yv hdep 7; have d8 := yv hdep 8; have d6 := yv hdep 6; clear hdep; simp only [fillD, fLa, fLb, sTa, sTb]; simp only [d7, d8, d6]
  go_wp2_with (go_at_call 9; refine (HSE.out _ hb).mono ?_; rintro e w3 ⟨rfl, hb3⟩; dsimp only)
  exact ⟨rfl, _, rfl, (by assumption), rfl⟩
 simp only [apN, apC]
 apply draw_val
 ·intro g w hb hdep; replace hL := hL.grow hb; have d6 := yv hdep 6; have d9 := yv hdep 9; clear hdep; simp only [fillD, fLa, fLb, sTa, sTb]; simp only [d6, d9]
  go_wp2
  exact cY
 simp only [apN, apC]
 refine dv1 10 ?_
 refine dv1 11 ?_
 refine dv1 11 ?_
 refine dv3 12 13 11 ?_
 apply draw_val
 ·intro g w hb hdep; replace hL := hL.grow hb; have d11 := yv hdep 11; have d14 := yv hdep 14; clear hdep; simp only [fillD, fLa, fLb, sTa, sTb]; simp only [d11, d14]
  go_wp2
  exact cY
 simp only [apN, apC]
 refine dv1 15 ?_
 refine dv1 16 ?_
 refine dv1 16 ?_
 refine dv3 17 18 16 ?_
 apply draw_val
 ·intro g w hb hdep; replace hL := hL.grow hb; have d16 := yv hdep 16; have d19 := yv hdep 19; clear hdep; simp only [fillD, fLa, fLb, sTa, sTb]; simp only [d16, d19]
  go_wp2
  exact cY
 simp only [apN, apC]
 refine dv1 20 ?_
 refine seq_end hL (by kernel_rfl) ?_
 intro g w2 hb hR; simp only [List.length_cons, List.length_nil, Nat.reduceAdd] at hR
 have e0 := yv hR 0
 have e1 := yv hR 1
 have e2 := yv hR 2
 have e3 := yv hR 3
 have e4 := yv hR 4
 have e5 := yv hR 5
 have e6 := yv hR 6
 have e7 := yv hR 7
 have e8 := yv hR 8
 have e9 := yv hR 9
 have e10 := yv hR 10
 have e11 := yv hR 11
 have e12 := yv hR 12
 have e13 := yv hR 13
 have e14 := yv hR 14
 have e15 := yv hR 15
 have e16 := yv hR 16
 have e17 := yv hR 17
 have e18 := yv hR 18
 have e19 := yv hR 19
 have e20 := yv hR 20
 have e21 := yv hR 21
 clear hR; simp only [fillD, fLa, fLb, sTa, sTb]
 simp only [e0, e1, e2, e3, e4, e5, e6, e7, e8, e9, e10, e11, e12, e13, e14, e15, e16, e17, e18, e19, e20, e21]
 clear e0 e1 e2 e3 e4 e5 e6 e7 e8 e9 e10 e11 e12 e13 e14 e15 e16 e17 e18 e19 e20 e21
 replace hL := hL.grow hb
 clear hb
 go_wp2_with (first | (with_reducible refine lld hL ?_) | ((with_reducible first | refine lbx hL ?_ | refine lal hL ?_ | refine lbs hL ?_); clear hL; intro bl w1 hL) | ((with_reducible refine lst' hL ?_); clear hL; intro w1 hL))
 (try simp only [Exit.inBlock, Exit.then]); refine' ret1 rfl ?_ rfl ?_; (case refine'_2 => exact cRes)
 exact ⟨by simp, hL.below⟩
set_option maxHeartbeats 4000000 in
theorem psteps_d (p : Pg) (is : Nat → Ins) (x : Pv) (d : Pd) (at' : Int) (w : World) (hi : StepIn w p is x d) (h0 : cp1 p is d = 0) (h1 : 0 ≤ at' ∧ at' < p.n) :
  Calls Tryz.prog 3 #[p.v, .int .i64 at', x.v] w fun q w' => q = .returned (.bool true) ∧ Below w.heap.size w w' := by
 obtain ⟨hn, hc, hx⟩ := hi
 have HSB := Lib.hid (fun w' => stepBegun_any w')
 have hst := fun w' (hb : Below w.heap.size w w') => step_any p is x d at' w' hn (hc.grow hb) (hx.grow hb)
 have hr1 := fun (b : Nat) (w' : World) (hb : Below w.heap.size w w') (hh : w'.heap[b]? = some (.cells x.cells.toArray 28 (0, 0))) => (show Calls Tryz.prog 6 #[p.v, .slice (some ⟨b, 0, none⟩) 1 1] w' fun q w2 => q = .returned (.int .i64 (cp1 p is d)) ∧ Below w'.heap.size w' w2 from rCheckPictures_any p is (some ⟨b, 0, none⟩) 1 1 (fun _ => x) (fun _ => d) w' hn (hc.grow hb) (pics1 hh (hx.grow hb)))
 obtain ⟨hp, hrt⟩ := cp1_zero h0
 rw [h0] at hr1
 obtain ⟨k, rfl⟩ : ∃ k : Nat, at' = k := ⟨at'.toNat, by omega⟩
 have hk : k < p.n := by omega
 have he : stepE p is k d = 0 := (if_neg (by rw [h0]; decide)).trans (if_neg (by omega))
 have ho : stepO p is k d = rawD is k d := if_neg (by rw [he]; decide)
 simp only [he, ho] at hst
 obtain ⟨gx, hgx⟩ := hx.gx
 have hrp := fun w' (hb : Below w.heap.size w w') => rsp_any p is x d gx k w' hp (hc.grow hb) (hx.grow hb) ⟨hgx.d.grow hb, hgx.l.grow hb⟩ hrt hk
 unfold RGoes at hrp
 have HGX := Lib.hid hgx.d
 generalize rawD is k d = o at *
 obtain ⟨oes, owr, ofl⟩ := o
 have c0 : decide ((k : Int) < 0) = false := decide_eq_false (by omega)
 have c1 : decide (p.n ≤ k) = false := decide_eq_false (by omega)
 have HRP := Lib.hid hrp
 clear hrp hgx
 have HST := Lib.hid hst
 have HR1 := Lib.hid hr1
 clear hst hr1 hc hx he ho h0 h1 hp hrt
 obtain ⟨xn, ⟨xp, xvn, xc⟩, ⟨xfp, xfn, xfc⟩⟩ := x
 have hL := Loc.start w
 go_enter Tryz.func3, Tryz.ntmps3
 go_upto_region 9 with (first | (go_at_call 7; refine (HRP.out _ hL.below).mono ?_; rintro e w1 ⟨⟨tp, tn, tc⟩, rfl, hG⟩; replace hL := hL.gave hG; simp only [List.append_nil, List.cons_append, List.nil_append] at hL; clear hG; dsimp only) | (go_at_call 5; refine (HST.out _ hL.below).mono ?_; rintro e w1 ⟨⟨sp, sn, sc⟩, rfl, hG⟩; replace hL := hL.gave hG; simp only [List.append_nil, List.cons_append, List.nil_append] at hL; clear hG; dsimp only) | (go_at_call 6; refine (HR1.out bl _ hL.below (hL.heap (by repeat (first | exact InL.head | apply InL.tail)))).mono ?_; rintro e w1 ⟨rfl, hb⟩; replace hL := hL.grow hb; clear hb; dsimp only) | (with_reducible refine lld hL ?_) | ((with_reducible first | refine lbx hL ?_ | refine lal hL ?_ | refine lbs hL ?_); clear hL; intro bl w1 hL) | ((with_reducible refine lst' hL ?_); clear hL; intro w1 hL))
 have he1 := hL.get (S := fun w => EdsIs w ⟨sp, sn, sc⟩ oes) (by repeat (first | exact List.mem_cons_self | apply List.mem_cons_of_mem))
 have he2 := hL.get (S := fun w => GusD w gx d.vars → EdsIs w ⟨tp, tn, tc⟩ oes) (by repeat (first | exact List.mem_cons_self | apply List.mem_cons_of_mem)) (HGX.out.grow hL.below)
 have HSE := Lib.hid (fun w' (hb : Below w1.heap.size w1 w') => (show Calls Tryz.prog 9 #[.slice sp sn sc, .slice tp tn tc] w' _ from sameEds_any ⟨sp, sn, sc⟩ ⟨tp, tn, tc⟩ oes w' (he1.grow hb) (he2.grow hb)))
 clear he1 he2
 obtain ⟨wr, hwr⟩ : ∃ x, x = w1 := ⟨_, rfl⟩
 subst hwr
 refine seq_begin [51, 52, 53, 54, 55, 56, 57, 58, 59, 60, 61, 62, 63, 64, 65, 66, 67, 68, 69, 70, 71, 6] ?_
 apply draw_val
 ·intro g w hb hdep; replace hL := hL.grow hb; clear hdep; simp only [fillD, fLa, fLb, sTa, sTb]
  go_wp2_with (go_at_call 8; refine (HSB.out _).mono ?_; rintro e w3 ⟨rfl, hb3⟩; dsimp only)
  exact ⟨rfl, _, rfl, (by assumption), rfl⟩
 simp only [apN, apC]
 refine dv1 0 ?_
 refine dv1 1 ?_
 refine dv1 1 ?_
 refine dv3 2 3 1 ?_
 apply draw_val
 ·intro g w hb hdep; replace hL := hL.grow hb; have d1 := yv hdep 1; have d4 := yv hdep 4; clear hdep; simp only [fillD, fLa, fLb, sTa, sTb]; simp only [d1, d4]
  go_wp2
  exact cY
 simp only [apN, apC]
 refine dv1 5 ?_
 refine dv1 6 ?_
 refine dv1 6 ?_
 apply draw_val
 ·intro g w hb hdep; replace hL := hL.grow hb; have d7 := yv hdep 7; have d8 := yv hdep 8; have d6 := yv hdep 6; clear hdep; simp only [fillD, fLa, fLb, sTa, sTb]; simp only [d7, d8, d6]
  go_wp2_with (go_at_call 9; refine (HSE.out _ hb).mono ?_; rintro e w3 ⟨rfl, hb3⟩; dsimp only)
  exact ⟨rfl, _, rfl, (by assumption), rfl⟩
 simp only [apN, apC]
 apply draw_val
 ·intro g w hb hdep; replace hL := hL.grow hb; have d6 := yv hdep 6; have d9 := yv hdep 9; clear hdep; simp only [fillD, fLa, fLb, sTa, sTb]; simp only [d6, d9]
  go_wp2
  exact cY
 simp only [apN, apC]
 refine dv1 10 ?_
 refine dv1 11 ?_
 refine dv1 11 ?_
 refine dv3 12 13 11 ?_
 apply draw_val
 ·intro g w hb hdep; replace hL := hL.grow hb; have d11 := yv hdep 11; have d14 := yv hdep 14; clear hdep; simp only [fillD, fLa, fLb, sTa, sTb]; simp only [d11, d14]
  go_wp2
  exact cY
 simp only [apN, apC]
 refine dv1 15 ?_
 refine dv1 16 ?_
 refine dv1 16 ?_
 refine dv3 17 18 16 ?_
 apply draw_val
 ·intro g w hb hdep; replace hL := hL.grow hb; have d16 := yv hdep 16; have d19 := yv hdep 19; clear hdep; simp only [fillD, fLa, fLb, sTa, sTb]; simp only [d16, d19]
  go_wp2
  exact cY
 simp only [apN, apC]
 refine dv1 20 ?_
 refine seq_end hL (by kernel_rfl) ?_
 intro g w2 hb hR; simp only [List.length_cons, List.length_nil, Nat.reduceAdd] at hR
 have e0 := yv hR 0
 have e1 := yv hR 1
 have e2 := yv hR 2
 have e3 := yv hR 3
 have e4 := yv hR 4
 have e5 := yv hR 5
 have e6 := yv hR 6
 have e7 := yv hR 7
 have e8 := yv hR 8
 have e9 := yv hR 9
 have e10 := yv hR 10
 have e11 := yv hR 11
 have e12 := yv hR 12
 have e13 := yv hR 13
 have e14 := yv hR 14
 have e15 := yv hR 15
 have e16 := yv hR 16
 have e17 := yv hR 17
 have e18 := yv hR 18
 have e19 := yv hR 19
 have e20 := yv hR 20
 have e21 := yv hR 21
 clear hR; simp only [fillD, fLa, fLb, sTa, sTb]
 simp only [e0, e1, e2, e3, e4, e5, e6, e7, e8, e9, e10, e11, e12, e13, e14, e15, e16, e17, e18, e19, e20, e21]
 clear e0 e1 e2 e3 e4 e5 e6 e7 e8 e9 e10 e11 e12 e13 e14 e15 e16 e17 e18 e19 e20 e21
 replace hL := hL.grow hb
 clear hb
 go_wp2_with (first | (with_reducible refine lld hL ?_) | ((with_reducible first | refine lbx hL ?_ | refine lal hL ?_ | refine lbs hL ?_); clear hL; intro bl w1 hL) | ((with_reducible refine lst' hL ?_); clear hL; intro w1 hL))
 (try simp only [Exit.inBlock, Exit.then]); refine' ret1 rfl ?_ rfl ?_; (case refine'_2 => exact cRes)
 exact ⟨by simp, hL.below⟩
theorem psteps_any (p : Pg) (is : Nat → Ins) (x : Pv) (d : Pd) (at' : Int) (w : World) (hi : StepIn w p is x d) :
  Calls Tryz.prog 3 #[p.v, .int .i64 at', x.v] w fun q w' => q = .returned (.bool true) ∧ Below w.heap.size w w' := by
 by_cases h0 : cp1 p is d = 0
 ·by_cases h1 : at' < 0
  ·exact psteps_b p is x d at' w hi h0 h1
  ·by_cases h2 : (p.n : Int) ≤ at'
   ·exact psteps_c p is x d at' w hi h0 h2
   ·exact psteps_d p is x d at' w hi h0 (by omega)
 ·exact psteps_a p is x d at' w hi h0
end Go.Proofs.YtajgekeiflblnaaGreat
