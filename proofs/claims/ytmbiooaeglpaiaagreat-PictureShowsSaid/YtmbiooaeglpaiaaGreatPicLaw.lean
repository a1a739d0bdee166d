/- The walks over the law PictureJoins. Conditions: what they read lies in memory that was there. -/
import Derived.Test.YtmbiooaeglpaiaaGreatPicW
import Derived.Test.YtmbiooaeglpaiaaGreatPicd
import Derived.Test.YtmbiooaeglpaiaaGreatPicc
import Derived.Test.YtmbiooaeglpaiaaGreatRefPicI
import Derived.Test.YtmbiooaeglpaiaaGreatRpa
import Derived.Test.YtmbiooaeglpaiaaGreatPil
import Derived.Test.YtmbiooaeglpaiaaGreatSpn
set_option linter.unusedSimpArgs false
set_option linter.unusedVariables false
namespace Go.Proofs.YtmbiooaeglpaiaaGreat
open Go.RowKit

/-- What comes in. -/
structure PicIn (w : World) (p : Pg) (is : Nat → Ins) (x y : Pv) (d e : Pd) : Prop where
  n : p.n ≤ 9223372036854775807
  c : CodeAt w p is
  x : PicIs w x d
  y : PicIs w y e
theorem cps_prog {p : Pg} {is : Nat → Ins} (d e : Pd) (h : checkProg p is ≠ 0) : cp1 p is d = checkProg p is ∧ cp2 p is d e = checkProg p is :=
  ⟨errs_stop (f := fun _ => rightP p is d) (k := 0) (n := 1) (by omega) h, errs_stop (f := fun k => rightP p is (pick2 d e k)) (k := 0) (n := 2) (by omega) h⟩
theorem cp2_of_cp1 {p : Pg} {is : Nat → Ins} {d e : Pd} (h : cp1 p is d ≠ 0) : cp2 p is d e = cp1 p is d := by
  have h1 : errs (checkProg p is) (fun k => rightP p is (pick2 d e k)) 1 = cp1 p is d := rfl
  have h2 : errs (checkProg p is) (fun k => rightP p is (pick2 d e k)) 2 = cp2 p is d e := rfl
  rw [← h1, ← h2]
  exact errs_stop (by omega) (by rw [h1]; exact h)
theorem first_small (nv nf n : Nat) (h8 : nv ≤ 8) (hn : n ≤ 1000) : (firstP nv nf n).vars.length + (firstP nv nf n).fields.length ≤ 9223372036854775807 := by
  show (List.replicate nv nullD).length + (List.replicate n (List.replicate nf nothD)).length ≤ _
  rw [List.length_replicate, List.length_replicate]; omega
theorem both_small {p : Pg} {is : Nat → Ins} {f : Span → Span → Span} {d e : Pd} (hp : checkProg p is = 0) (h : rightP p is d = 0) (h' : rightP p is e = 0) : (bothP f d e).vars.length + (bothP f d e).fields.length ≤ 9223372036854775807 := by
  have hs := (prog_right hp).1
  unfold bothP
  cases hd : d.none with
  | true =>
    cases he : e.none with
    | true => show nonePd.vars.length + nonePd.fields.length ≤ 9223372036854775807; decide
    | false => exact bothRaw_small (RightPd.of h' hp he) hs
  | false =>
    cases he : e.none with
    | true => exact bothRaw_small (RightPd.of h hp hd) hs
    | false => exact bothRaw_small (RightPd.of h hp hd) hs
theorem cp1_right {p : Pg} {is : Nat → Ins} {d : Pd} (h0 : checkProg p is = 0) (h1 : rightP p is d = 0) : cp1 p is d = 0 := (errs_next (f := fun _ => rightP p is d) (k := 0) h0).trans h1
theorem Fresh.grow {w w1 w2 : World} {S : Datum} (h : Fresh w w1 S) (hb : Below w1.heap.size w1 w2) : Fresh w w2 S := by
  obtain ⟨X, h1, h2⟩ := h
  exact ⟨X, fun b hx => ⟨(h1 b hx).1, Nat.lt_of_lt_of_le (h1 b hx).2 hb.size⟩, fun w' hw' => h2 w' fun b hx => by rw [hw' b hx, hb.block _ (h1 b hx).2]⟩
theorem Fresh.since {w0 w w1 : World} {S : Datum} (h : Fresh w w1 S) (hb : Below w0.heap.size w0 w) : Fresh w0 w1 S := by
  obtain ⟨X, h1, h2⟩ := h
  exact ⟨X, fun b hx => ⟨Nat.le_trans hb.size (h1 b hx).1, (h1 b hx).2⟩, h2⟩
/-- A picture that has come, new or old. -/
def JoinR (wb wq : World) (d : Pd) : Value → World → Prop := fun v w => ∃ (r : Pv) (S : Datum), v = r.v ∧ Fresh wq w S ∧ ∀ w2, S w2 → Below wb.heap.size wb w2 → PicIs w2 r d
theorem JoinR.stable {wb wq : World} {d : Pd} : Stable (JoinR wb wq d) := by
  rintro v w w' hb ⟨r, S, h1, h2, h3⟩; exact ⟨r, S, h1, h2.grow hb, h3⟩
theorem OldOr.fresh {wb w w' : World} {r : Pv} {d : Pd} (h : OldOr wb w w' r d) : ∃ S : Datum, Fresh w w' S ∧ ∀ w2, S w2 → Below wb.heap.size wb w2 → PicIs w2 r d := by
  obtain ⟨S, h1, h2⟩ := h
  obtain ⟨X, hX, hO⟩ := (h1 w [] [] (Loc.start w)).data S List.mem_cons_self
  exact ⟨S, ⟨X, fun b hx => ⟨(hX b hx).1.2, (hX b hx).1.1⟩, hO⟩, h2⟩
theorem OldOr.below {wb w w' : World} {r : Pv} {d : Pd} (h : OldOr wb w w' r d) : Below w.heap.size w w' := by
  obtain ⟨S, h1, h2⟩ := h
  exact (h1 w [] [] (Loc.start w)).below

set_option maxRecDepth 100000 in
set_option maxHeartbeats 4000000 in
theorem pjoins_a (p : Pg) (is : Nat → Ins) (x y : Pv) (d e : Pd) (w : World) (hi : PicIn w p is x y d e) (h0 : checkProg p is ≠ 0) :
    Calls Tryz.prog 4 #[p.v, x.v, y.v] w fun q w' => q = .returned (.bool true) ∧ Below w.heap.size w w' := by
  obtain ⟨hn, hc, hx, hy⟩ := hi
  have hpb := fun w' => picBegun_any w'
  have hrp := fun w' (hb : Below w.heap.size w w') => rCheckProgram_any p is w' (hc.grow hb) hn
  have hr1 := fun (b : Nat) (w' : World) (hb : Below w.heap.size w w') (hh : w'.heap[b]? = some (.cells x.cells.toArray 28 (0, 0))) => (show Calls Tryz.prog 6 #[p.v, .slice (some ⟨b, 0, none⟩) 1 1] w' fun q w2 => q = .returned (.int .i64 (cp1 p is d)) ∧ Below w'.heap.size w' w2 from rCheckPictures_any p is (some ⟨b, 0, none⟩) 1 1 (fun _ => x) (fun _ => d) w' hn (hc.grow hb) (pics1 hh (hx.grow hb)))
  have hr2 := fun (b : Nat) (w' : World) (hb : Below w.heap.size w w') (hh : w'.heap[b]? = some (.cells (x.cells ++ y.cells).toArray 28 (0, 0))) => (show Calls Tryz.prog 6 #[p.v, .slice (some ⟨b, 0, none⟩) 2 2] w' fun q w2 => q = .returned (.int .i64 (cp2 p is d e)) ∧ Below w'.heap.size w' w2 from rCheckPictures_any p is (some ⟨b, 0, none⟩) 2 2 (pick2 x y) (pick2 d e) w' hn (hc.grow hb) (pics2 hh (hx.grow hb) (hy.grow hb)))
  have hck := fun w' (hb : Below w.heap.size w w') => pCheck_any p is x d w' hn (hc.grow hb) (hx.grow hb)
  have hbe := fun w' (hb : Below w.heap.size w w') => pBegin_err p is w' hn (hc.grow hb) h0
  have hz := fun w' => pictureIs_err (checkProg p is) h0 zeroP w'
  have hcc : (checkProg p is == 0) = false := beq_eq_false_iff_ne.2 h0
  rw [(cps_prog d e h0).1] at hr1 hck
  rw [(cps_prog d e h0).2] at hr2
  have hjn := fun w' (hb : Below w.heap.size w w') => pJoin_err p is x y d e w' hn (hc.grow hb) (hx.grow hb) (hy.grow hb) (by rw [(cps_prog d e h0).2]; exact h0)
  have hwd := fun w' (hb : Below w.heap.size w w') => pWiden_err p is x y d e w' hn (hc.grow hb) (hx.grow hb) (hy.grow hb) (by rw [(cps_prog d e h0).2]; exact h0)
  have hwi := fun w' (hb : Below w.heap.size w w') => pWithin_err p is x y d e w' hn (hc.grow hb) (hx.grow hb) (hy.grow hb) (by rw [(cps_prog d e h0).2]; exact h0)
  rw [(cps_prog d e h0).2] at hjn hwd hwi
  generalize checkProg p is = c2 at *
  have HPB := Lib.hid hpb
  have HRP := Lib.hid hrp
  have HR1 := Lib.hid hr1
  have HR2 := Lib.hid hr2
  have HCK := Lib.hid hck
  have HBE := Lib.hid hbe
  have HJN := Lib.hid hjn
  have HWD := Lib.hid hwd
  have HWI := Lib.hid hwi
  have HZ := Lib.hid hz
  clear hpb hrp hr1 hr2 hck hbe hjn hwd hwi hz
  clear hc hx hy h0
  obtain ⟨xn, ⟨xp, xvn, xc⟩, ⟨xfp, xfn, xfc⟩⟩ := x
  obtain ⟨yn, ⟨yp, yvn, yc⟩, ⟨yfp, yfn, yfc⟩⟩ := y
  have hL := Loc.start w
  go_enter Tryz.func4, Tryz.ntmps4
  go_upto_region 5 with (first | (with_reducible refine lld hL ?_) | ((with_reducible first | refine lbx hL ?_ | refine lal hL ?_ | refine lbs hL ?_); clear hL; intro bl w1 hL) | ((with_reducible refine lst' hL ?_); clear hL; intro w1 hL) | (go_at_call 12; refine (HBE.out _ hL.below).mono ?_; rintro e w1 ⟨rfl, hb⟩; replace hL := hL.grow hb; clear hb; dsimp only) | (go_at_call 10; refine (HJN.out _ hL.below).mono ?_; rintro e w1 ⟨rfl, hb⟩; replace hL := hL.grow hb; clear hb; dsimp only) | (go_at_call 11; refine (HWD.out _ hL.below).mono ?_; rintro e w1 ⟨rfl, hb⟩; replace hL := hL.grow hb; clear hb; dsimp only) | (go_at_call 13; refine (HWI.out _ hL.below).mono ?_; rintro e w1 ⟨rfl, hb⟩; replace hL := hL.grow hb; clear hb; dsimp only))
  refine draw_begin [48, 49, 50, 51, 52, 53, 54, 55, 56, 57, 58, 15, 16, 17] ?_
  apply draw_val
  · intro g w hb hdep; replace hL := hL.grow hb; clear hdep; simp only [fillD, fLa, fLb, sTa, sTb]
    go_wp2_with (first | (with_reducible refine lld hL ?_) | (with_reducible refine ldD hL ?_))
    exact cY
  simp only [apN, apC]
  apply draw_val
  · intro g w hb hdep; replace hL := hL.grow hb; have d0 := yv hdep 0; clear hdep; simp only [fillD, fLa, fLb, sTa, sTb]; simp only [d0]
    go_wp2_with (go_at_call 14; refine (HRP.out _ hL.below).mono ?_; rintro e w3 ⟨rfl, hb3⟩; dsimp only)
    exact ⟨rfl, _, rfl, hb3, rfl⟩
  simp only [apN, apC]
  apply draw_val
  · intro g w hb hdep; replace hL := hL.grow hb; clear hdep; simp only [fillD, fLa, fLb, sTa, sTb]
    go_wp2_with (first | (with_reducible refine lld hL ?_) | (with_reducible refine ldD hL ?_))
    exact cY
  simp only [apN, apC]
  apply draw_val
  · intro g w hb hdep; replace hL := hL.grow hb; clear hdep; simp only [fillD, fLa, fLb, sTa, sTb]
    go_wp2_with (first | (with_reducible refine lld hL ?_) | (with_reducible refine ldD hL ?_))
    exact cY
  simp only [apN, apC]
  apply draw_row
  · intro g w hb hdep; replace hL := hL.grow hb; have d3 := yv hdep 3; clear hdep; simp only [fillD, fLa, fLb, sTa, sTb]; simp only [d3]
    go_wp2
    exact ⟨rfl, _, rfl, (Below.refl _ _).alloc (Nat.le_refl _) _, _, hb.size, rfl, heap_new _ _⟩
  simp only [apN, apC]
  apply draw_val
  · intro g w hb hdep; replace hL := hL.grow hb; have d2 := yv hdep 2; obtain ⟨b4, e4, d4, f4⟩ := rat_row (allR_get hdep (j := 4) (by decide)) rfl rfl; clear hdep; simp only [fillD, fLa, fLb, sTa, sTb]; simp only [d2, d4]
    go_wp2_with (go_at_call 6; refine (HR1.out b4 _ hL.below f4).mono ?_; rintro e w3 ⟨rfl, hb3⟩; dsimp only)
    exact ⟨rfl, _, rfl, hb3, rfl⟩
  simp only [apN, apC]
  apply draw_val
  · intro g w hb hdep; replace hL := hL.grow hb; clear hdep; simp only [fillD, fLa, fLb, sTa, sTb]
    go_wp2_with (first | (with_reducible refine lld hL ?_) | (with_reducible refine ldD hL ?_))
    exact cY
  simp only [apN, apC]
  apply draw_val
  · intro g w hb hdep; replace hL := hL.grow hb; clear hdep; simp only [fillD, fLa, fLb, sTa, sTb]
    go_wp2_with (first | (with_reducible refine lld hL ?_) | (with_reducible refine ldD hL ?_))
    exact cY
  simp only [apN, apC]
  apply draw_val
  · intro g w hb hdep; replace hL := hL.grow hb; clear hdep; simp only [fillD, fLa, fLb, sTa, sTb]
    go_wp2_with (first | (with_reducible refine lld hL ?_) | (with_reducible refine ldD hL ?_))
    exact cY
  simp only [apN, apC]
  apply draw_row
  · intro g w hb hdep; replace hL := hL.grow hb; have d7 := yv hdep 7; have d8 := yv hdep 8; clear hdep; simp only [fillD, fLa, fLb, sTa, sTb]; simp only [d7, d8]
    go_wp2
    exact ⟨rfl, _, rfl, (Below.refl _ _).alloc (Nat.le_refl _) _, _, hb.size, rfl, heap_new _ _⟩
  simp only [apN, apC]
  apply draw_val
  · intro g w hb hdep; replace hL := hL.grow hb; have d6 := yv hdep 6; obtain ⟨b9, e9, d9, f9⟩ := rat_row (allR_get hdep (j := 9) (by decide)) rfl rfl; clear hdep; simp only [fillD, fLa, fLb, sTa, sTb]; simp only [d6, d9]
    go_wp2_with (go_at_call 6; refine (HR2.out b9 _ hL.below f9).mono ?_; rintro e w3 ⟨rfl, hb3⟩; dsimp only)
    exact ⟨rfl, _, rfl, hb3, rfl⟩
  simp only [apN, apC]
  apply draw_val
  · intro g w hb hdep; replace hL := hL.grow hb; have d1 := yv hdep 1; clear hdep; simp only [fillD, fLa, fLb, sTa, sTb]; simp only [d1]
    go_wp2
    exact cY
  simp only [apN, apC]
  apply draw_val
  · intro g w hb hdep; replace hL := hL.grow hb; have d5 := yv hdep 5; clear hdep; simp only [fillD, fLa, fLb, sTa, sTb]; simp only [d5]
    go_wp2
    exact cY
  simp only [apN, apC]
  apply draw_val
  · intro g w hb hdep; replace hL := hL.grow hb; have d10 := yv hdep 10; clear hdep; simp only [fillD, fLa, fLb, sTa, sTb]; simp only [d10]
    go_wp2
    exact cY
  simp only [apN, apC]
  refine draw_end hL (by kernel_rfl) (by kernel_rfl) ?_
  intro g w2 hb hR; simp only [List.length_cons, List.length_nil, Nat.reduceAdd] at hR
  have e0 := yv hR 0
  have e1 := yv hR 1
  have e2 := yv hR 2
  have e3 := yv hR 3
  obtain ⟨b4, p4, e4, c4⟩ := rat_row (allR_get hR (j := 4) (by decide)) rfl rfl
  have e5 := yv hR 5
  have e6 := yv hR 6
  have e7 := yv hR 7
  have e8 := yv hR 8
  obtain ⟨b9, p9, e9, c9⟩ := rat_row (allR_get hR (j := 9) (by decide)) rfl rfl
  have e10 := yv hR 10
  have e11 := yv hR 11
  have e12 := yv hR 12
  have e13 := yv hR 13
  clear hR; simp only [fillD, fLa, fLb, sTa, sTb]
  simp only [e0, e1, e2, e3, e4, e5, e6, e7, e8, e9, e10, e11, e12, e13]
  clear e0 e1 e2 e3 e4 e5 e6 e7 e8 e9 e10 e11 e12 e13
  clear p4 c4 p9 c9
  replace hL := hL.grow hb
  clear hb
  go_upto_region 12 with (first | (with_reducible refine lld hL ?_) | ((with_reducible first | refine lbx hL ?_ | refine lal hL ?_ | refine lbs hL ?_); clear hL; intro bl w1 hL) | ((with_reducible refine lst' hL ?_); clear hL; intro w1 hL) | (go_at_call 12; refine (HBE.out _ hL.below).mono ?_; rintro e w1 ⟨rfl, hb⟩; replace hL := hL.grow hb; clear hb; dsimp only) | (go_at_call 10; refine (HJN.out _ hL.below).mono ?_; rintro e w1 ⟨rfl, hb⟩; replace hL := hL.grow hb; clear hb; dsimp only) | (go_at_call 11; refine (HWD.out _ hL.below).mono ?_; rintro e w1 ⟨rfl, hb⟩; replace hL := hL.grow hb; clear hb; dsimp only) | (go_at_call 13; refine (HWI.out _ hL.below).mono ?_; rintro e w1 ⟨rfl, hb⟩; replace hL := hL.grow hb; clear hb; dsimp only))
  have HI1 := Lib.hid (fun w' (_ : Below w1.heap.size w1 w') => HZ.out w')
  have HI2 := Lib.hid (fun w' (_ : Below w1.heap.size w1 w') => HZ.out w')
  have HI3 := Lib.hid (fun w' (_ : Below w1.heap.size w1 w') => HZ.out w')
  obtain ⟨wr, hwr⟩ : ∃ x, x = w1 := ⟨_, rfl⟩
  subst hwr
  refine seq_begin [74, 75, 76, 77, 78, 79, 80, 81, 82, 83, 84, 85, 86, 87, 88, 89, 90, 91, 92, 93, 94, 95, 96, 97, 98, 99, 100, 101, 102, 103, 104, 105, 106, 107, 108, 109, 110, 111, 112, 6] ?_
  apply draw_val
  · intro g w hb hdep; replace hL := hL.grow hb; clear hdep; simp only [fillD, fLa, fLb, sTa, sTb]
    go_wp2_with (go_at_call 9; refine (HPB.out _).mono ?_; rintro e w3 ⟨rfl, hb3⟩; dsimp only)
    exact ⟨rfl, _, rfl, (by assumption), rfl⟩
  simp only [apN, apC]
  apply draw_val
  · intro g w hb hdep; replace hL := hL.grow hb; have d0 := yv hdep 0; clear hdep; simp only [fillD, fLa, fLb, sTa, sTb]; simp only [d0]
    go_wp2
    exact cY
  simp only [apN, apC]
  apply draw_val
  · intro g w hb hdep; replace hL := hL.grow hb; have d1 := yv hdep 1; clear hdep; simp only [fillD, fLa, fLb, sTa, sTb]; simp only [d1]
    go_wp2_with (first | (with_reducible refine lld hL ?_) | (with_reducible refine ldD hL ?_))
    exact cY
  simp only [apN, apC]
  apply draw_val
  · intro g w hb hdep; replace hL := hL.grow hb; have d1 := yv hdep 1; clear hdep; simp only [fillD, fLa, fLb, sTa, sTb]; simp only [d1]
    go_wp2_with (first | (with_reducible refine lld hL ?_) | (with_reducible refine ldD hL ?_))
    exact cY
  simp only [apN, apC]
  apply draw_val
  · intro g w hb hdep; replace hL := hL.grow hb; have d2 := yv hdep 2; have d3 := yv hdep 3; have d1 := yv hdep 1; clear hdep; simp only [fillD, fLa, fLb, sTa, sTb]; simp only [d2, d3, d1]
    go_wp2_with (go_at_call 18; refine (HCK.out _ hL.below).mono ?_; rintro e w3 ⟨rfl, hb3⟩; dsimp only)
    exact ⟨rfl, _, rfl, (by assumption), rfl⟩
  simp only [apN, apC]
  apply draw_val
  · intro g w hb hdep; replace hL := hL.grow hb; have d1 := yv hdep 1; clear hdep; simp only [fillD, fLa, fLb, sTa, sTb]; simp only [d1]
    go_wp2
    exact cY
  simp only [apN, apC]
  apply draw_val
  · intro g w hb hdep; replace hL := hL.grow hb; have d4 := yv hdep 4; have d5 := yv hdep 5; have d1 := yv hdep 1; clear hdep; simp only [fillD, fLa, fLb, sTa, sTb]; simp only [d4, d5, d1]
    go_wp2
    exact cY
  simp only [apN, apC]
  apply draw_val
  · intro g w hb hdep; replace hL := hL.grow hb; have d1 := yv hdep 1; have d6 := yv hdep 6; clear hdep; simp only [fillD, fLa, fLb, sTa, sTb]; simp only [d1, d6]
    go_wp2
    exact cY
  simp only [apN, apC]
  apply draw_val
  · intro g w hb hdep; replace hL := hL.grow hb; have d7 := yv hdep 7; clear hdep; simp only [fillD, fLa, fLb, sTa, sTb]; simp only [d7]
    go_wp2
    exact cY
  simp only [apN, apC]
  apply draw_val
  · intro g w hb hdep; replace hL := hL.grow hb; have d8 := yv hdep 8; clear hdep; simp only [fillD, fLa, fLb, sTa, sTb]; simp only [d8]
    go_wp2_with (first | (with_reducible refine lld hL ?_) | (with_reducible refine ldD hL ?_))
    exact cY
  simp only [apN, apC]
  apply draw_val
  · intro g w hb hdep; replace hL := hL.grow hb; have d8 := yv hdep 8; clear hdep; simp only [fillD, fLa, fLb, sTa, sTb]; simp only [d8]
    go_wp2
    exact cY
  simp only [apN, apC]
  apply draw_val
  · intro g w hb hdep; replace hL := hL.grow hb; have d8 := yv hdep 8; clear hdep; simp only [fillD, fLa, fLb, sTa, sTb]; simp only [d8]
    go_wp2
    exact cY
  simp only [apN, apC]
  apply draw_val
  · intro g w hb hdep; replace hL := hL.grow hb; have d8 := yv hdep 8; clear hdep; simp only [fillD, fLa, fLb, sTa, sTb]; simp only [d8]
    go_wp2_with (first | (with_reducible refine lld hL ?_) | (with_reducible refine ldD hL ?_))
    exact cY
  simp only [apN, apC]
  apply draw_val
  · intro g w hb hdep; replace hL := hL.grow hb; have d9 := yv hdep 9; have d10 := yv hdep 10; have d11 := yv hdep 11; have d12 := yv hdep 12; have d8 := yv hdep 8; clear hdep; simp only [fillD, fLa, fLb, sTa, sTb]; simp only [d9, d10, d11, d12, d8]
    go_wp2_with (go_at_call 19; refine (HI1.out _ hb).mono ?_; rintro e w3 ⟨rfl, hb3⟩; dsimp only)
    exact ⟨rfl, _, rfl, (by assumption), rfl⟩
  simp only [apN, apC]
  apply draw_val
  · intro g w hb hdep; replace hL := hL.grow hb; have d8 := yv hdep 8; have d13 := yv hdep 13; clear hdep; simp only [fillD, fLa, fLb, sTa, sTb]; simp only [d8, d13]
    go_wp2
    exact cY
  simp only [apN, apC]
  apply draw_val
  · intro g w hb hdep; replace hL := hL.grow hb; have d14 := yv hdep 14; clear hdep; simp only [fillD, fLa, fLb, sTa, sTb]; simp only [d14]
    go_wp2
    exact cY
  simp only [apN, apC]
  apply draw_val
  · intro g w hb hdep; replace hL := hL.grow hb; have d15 := yv hdep 15; clear hdep; simp only [fillD, fLa, fLb, sTa, sTb]; simp only [d15]
    go_wp2_with (first | (with_reducible refine lld hL ?_) | (with_reducible refine ldD hL ?_))
    exact cY
  simp only [apN, apC]
  apply draw_val
  · intro g w hb hdep; replace hL := hL.grow hb; have d15 := yv hdep 15; clear hdep; simp only [fillD, fLa, fLb, sTa, sTb]; simp only [d15]
    go_wp2
    exact cY
  simp only [apN, apC]
  apply draw_val
  · intro g w hb hdep; replace hL := hL.grow hb; have d15 := yv hdep 15; clear hdep; simp only [fillD, fLa, fLb, sTa, sTb]; simp only [d15]
    go_wp2
    exact cY
  simp only [apN, apC]
  apply draw_val
  · intro g w hb hdep; replace hL := hL.grow hb; have d15 := yv hdep 15; clear hdep; simp only [fillD, fLa, fLb, sTa, sTb]; simp only [d15]
    go_wp2_with (first | (with_reducible refine lld hL ?_) | (with_reducible refine ldD hL ?_))
    exact cY
  simp only [apN, apC]
  apply draw_val
  · intro g w hb hdep; replace hL := hL.grow hb; have d16 := yv hdep 16; have d17 := yv hdep 17; have d18 := yv hdep 18; have d19 := yv hdep 19; have d15 := yv hdep 15; clear hdep; simp only [fillD, fLa, fLb, sTa, sTb]; simp only [d16, d17, d18, d19, d15]
    go_wp2_with (go_at_call 19; refine (HI2.out _ hb).mono ?_; rintro e w3 ⟨rfl, hb3⟩; dsimp only)
    exact ⟨rfl, _, rfl, (by assumption), rfl⟩
  simp only [apN, apC]
  apply draw_val
  · intro g w hb hdep; replace hL := hL.grow hb; have d15 := yv hdep 15; have d20 := yv hdep 20; clear hdep; simp only [fillD, fLa, fLb, sTa, sTb]; simp only [d15, d20]
    go_wp2
    exact cY
  simp only [apN, apC]
  apply draw_val
  · intro g w hb hdep; replace hL := hL.grow hb; have d21 := yv hdep 21; clear hdep; simp only [fillD, fLa, fLb, sTa, sTb]; simp only [d21]
    go_wp2
    exact cY
  simp only [apN, apC]
  apply draw_val
  · intro g w hb hdep; replace hL := hL.grow hb; have d22 := yv hdep 22; clear hdep; simp only [fillD, fLa, fLb, sTa, sTb]; simp only [d22]
    go_wp2_with (first | (with_reducible refine lld hL ?_) | (with_reducible refine ldD hL ?_))
    exact cY
  simp only [apN, apC]
  apply draw_val
  · intro g w hb hdep; replace hL := hL.grow hb; have d22 := yv hdep 22; clear hdep; simp only [fillD, fLa, fLb, sTa, sTb]; simp only [d22]
    go_wp2
    exact cY
  simp only [apN, apC]
  apply draw_val
  · intro g w hb hdep; replace hL := hL.grow hb; have d22 := yv hdep 22; clear hdep; simp only [fillD, fLa, fLb, sTa, sTb]; simp only [d22]
    go_wp2
    exact cY
  simp only [apN, apC]
  apply draw_val
  · intro g w hb hdep; replace hL := hL.grow hb; have d22 := yv hdep 22; clear hdep; simp only [fillD, fLa, fLb, sTa, sTb]; simp only [d22]
    go_wp2_with (first | (with_reducible refine lld hL ?_) | (with_reducible refine ldD hL ?_))
    exact cY
  simp only [apN, apC]
  apply draw_val
  · intro g w hb hdep; replace hL := hL.grow hb; have d23 := yv hdep 23; have d24 := yv hdep 24; have d25 := yv hdep 25; have d26 := yv hdep 26; have d22 := yv hdep 22; clear hdep; simp only [fillD, fLa, fLb, sTa, sTb]; simp only [d23, d24, d25, d26, d22]
    go_wp2_with (go_at_call 19; refine (HI3.out _ hb).mono ?_; rintro e w3 ⟨rfl, hb3⟩; dsimp only)
    exact ⟨rfl, _, rfl, (by assumption), rfl⟩
  simp only [apN, apC]
  apply draw_val
  · intro g w hb hdep; replace hL := hL.grow hb; have d22 := yv hdep 22; have d27 := yv hdep 27; clear hdep; simp only [fillD, fLa, fLb, sTa, sTb]; simp only [d22, d27]
    go_wp2
    exact cY
  simp only [apN, apC]
  apply draw_val
  · intro g w hb hdep; replace hL := hL.grow hb; have d28 := yv hdep 28; clear hdep; simp only [fillD, fLa, fLb, sTa, sTb]; simp only [d28]
    go_wp2
    exact cY
  simp only [apN, apC]
  apply draw_val
  · intro g w hb hdep; replace hL := hL.grow hb; have d29 := yv hdep 29; clear hdep; simp only [fillD, fLa, fLb, sTa, sTb]; simp only [d29]
    go_wp2
    exact cY
  simp only [apN, apC]
  apply draw_val
  · intro g w hb hdep; replace hL := hL.grow hb; have d29 := yv hdep 29; clear hdep; simp only [fillD, fLa, fLb, sTa, sTb]; simp only [d29]
    go_wp2
    exact cY
  simp only [apN, apC]
  apply draw_val
  · intro g w hb hdep; replace hL := hL.grow hb; have d30 := yv hdep 30; have d31 := yv hdep 31; have d29 := yv hdep 29; clear hdep; simp only [fillD, fLa, fLb, sTa, sTb]; simp only [d30, d31, d29]
    go_wp2
    exact cY
  simp only [apN, apC]
  apply draw_val
  · intro g w hb hdep; replace hL := hL.grow hb; have d29 := yv hdep 29; have d32 := yv hdep 32; clear hdep; simp only [fillD, fLa, fLb, sTa, sTb]; simp only [d29, d32]
    go_wp2
    exact cY
  simp only [apN, apC]
  apply draw_val
  · intro g w hb hdep; replace hL := hL.grow hb; have d33 := yv hdep 33; clear hdep; simp only [fillD, fLa, fLb, sTa, sTb]; simp only [d33]
    go_wp2
    exact cY
  simp only [apN, apC]
  apply draw_val
  · intro g w hb hdep; replace hL := hL.grow hb; have d34 := yv hdep 34; clear hdep; simp only [fillD, fLa, fLb, sTa, sTb]; simp only [d34]
    go_wp2
    exact cY
  simp only [apN, apC]
  apply draw_val
  · intro g w hb hdep; replace hL := hL.grow hb; have d34 := yv hdep 34; clear hdep; simp only [fillD, fLa, fLb, sTa, sTb]; simp only [d34]
    go_wp2
    exact cY
  simp only [apN, apC]
  apply draw_val
  · intro g w hb hdep; replace hL := hL.grow hb; have d35 := yv hdep 35; have d36 := yv hdep 36; have d34 := yv hdep 34; clear hdep; simp only [fillD, fLa, fLb, sTa, sTb]; simp only [d35, d36, d34]
    go_wp2
    exact cY
  simp only [apN, apC]
  apply draw_val
  · intro g w hb hdep; replace hL := hL.grow hb; have d34 := yv hdep 34; have d37 := yv hdep 37; clear hdep; simp only [fillD, fLa, fLb, sTa, sTb]; simp only [d34, d37]
    go_wp2
    exact cY
  simp only [apN, apC]
  apply draw_val
  · intro g w hb hdep; replace hL := hL.grow hb; have d38 := yv hdep 38; clear hdep; simp only [fillD, fLa, fLb, sTa, sTb]; simp only [d38]
    go_wp2
    exact cY
  simp only [apN, apC]
  refine seq_end hL (by kernel_rfl) ?_
  intro g w2 hb hR; simp only [List.length_cons, List.length_nil, Nat.reduceAdd] at hR
  have e0 := yv hR 0
  have e1 := yv hR 1
  have e2 := yv hR 2
  have e3 := yv hR 3
  have e4 := yv hR 4
  have e5 := yv hR 5
  have e6 := yv hR 6
  have e7 := yv hR 7
  have e8 := yv hR 8
  have e9 := yv hR 9
  have e10 := yv hR 10
  have e11 := yv hR 11
  have e12 := yv hR 12
  have e13 := yv hR 13
  have e14 := yv hR 14
  have e15 := yv hR 15
  have e16 := yv hR 16
  have e17 := yv hR 17
  have e18 := yv hR 18
  have e19 := yv hR 19
  have e20 := yv hR 20
  have e21 := yv hR 21
  have e22 := yv hR 22
  have e23 := yv hR 23
  have e24 := yv hR 24
  have e25 := yv hR 25
  have e26 := yv hR 26
  have e27 := yv hR 27
  have e28 := yv hR 28
  have e29 := yv hR 29
  have e30 := yv hR 30
  have e31 := yv hR 31
  have e32 := yv hR 32
  have e33 := yv hR 33
  have e34 := yv hR 34
  have e35 := yv hR 35
  have e36 := yv hR 36
  have e37 := yv hR 37
  have e38 := yv hR 38
  have e39 := yv hR 39
  clear hR; simp only [fillD, fLa, fLb, sTa, sTb]
  simp only [e0, e1, e2, e3, e4, e5, e6, e7, e8, e9, e10, e11, e12, e13, e14, e15, e16, e17, e18, e19, e20, e21, e22, e23, e24, e25, e26, e27, e28, e29, e30, e31, e32, e33, e34, e35, e36, e37, e38, e39]
  clear e0 e1 e2 e3 e4 e5 e6 e7 e8 e9 e10 e11 e12 e13 e14 e15 e16 e17 e18 e19 e20 e21 e22 e23 e24 e25 e26 e27 e28 e29 e30 e31 e32 e33 e34 e35 e36 e37 e38 e39
  replace hL := hL.grow hb
  clear hb
  go_wp2_with (first | (with_reducible refine lld hL ?_) | ((with_reducible first | refine lbx hL ?_ | refine lal hL ?_ | refine lbs hL ?_); clear hL; intro bl w1 hL) | ((with_reducible refine lst' hL ?_); clear hL; intro w1 hL))
  (try simp only [Exit.inBlock, Exit.then]); refine' ret1 rfl ?_ rfl ?_; (case refine'_2 => exact cRes)
  exact ⟨by simp, hL.below⟩

set_option maxRecDepth 100000 in
set_option maxHeartbeats 4000000 in
theorem pjoins_b (p : Pg) (is : Nat → Ins) (x y : Pv) (d e : Pd) (w : World) (hi : PicIn w p is x y d e) (h0 : checkProg p is = 0) (h2 : cp2 p is d e ≠ 0) :
    Calls Tryz.prog 4 #[p.v, x.v, y.v] w fun q w' => q = .returned (.bool true) ∧ Below w.heap.size w w' := by
  obtain ⟨hn, hc, hx, hy⟩ := hi
  have hpb := fun w' => picBegun_any w'
  have hrp := fun w' (hb : Below w.heap.size w w') => rCheckProgram_any p is w' (hc.grow hb) hn
  have hr1 := fun (b : Nat) (w' : World) (hb : Below w.heap.size w w') (hh : w'.heap[b]? = some (.cells x.cells.toArray 28 (0, 0))) => (show Calls Tryz.prog 6 #[p.v, .slice (some ⟨b, 0, none⟩) 1 1] w' fun q w2 => q = .returned (.int .i64 (cp1 p is d)) ∧ Below w'.heap.size w' w2 from rCheckPictures_any p is (some ⟨b, 0, none⟩) 1 1 (fun _ => x) (fun _ => d) w' hn (hc.grow hb) (pics1 hh (hx.grow hb)))
  have hr2 := fun (b : Nat) (w' : World) (hb : Below w.heap.size w w') (hh : w'.heap[b]? = some (.cells (x.cells ++ y.cells).toArray 28 (0, 0))) => (show Calls Tryz.prog 6 #[p.v, .slice (some ⟨b, 0, none⟩) 2 2] w' fun q w2 => q = .returned (.int .i64 (cp2 p is d e)) ∧ Below w'.heap.size w' w2 from rCheckPictures_any p is (some ⟨b, 0, none⟩) 2 2 (pick2 x y) (pick2 d e) w' hn (hc.grow hb) (pics2 hh (hx.grow hb) (hy.grow hb)))
  have hck := fun w' (hb : Below w.heap.size w w') => pCheck_any p is x d w' hn (hc.grow hb) (hx.grow hb)
  have hs := (prog_right h0).1
  obtain ⟨nv, hv⟩ : ∃ nv : Nat, p.vars = nv := ⟨p.vars.toNat, by have := hs.v1; omega⟩
  obtain ⟨nf, hf⟩ : ∃ nf : Nat, p.fields = nf := ⟨p.fields.toNat, by have := hs.f1; omega⟩
  have h8 : nv ≤ 8 := by have := hs.v2; omega
  have h8' : nf ≤ 8 := by have := hs.f2; omega
  have hn1 : p.n ≤ 1000 := by have := hs.n1; omega
  have hm1 := first_small nv nf p.n h8 hn1
  have hbe := fun w' (hb : Below w.heap.size w w') => pBegin_ok p is nv nf hv hf h8 h8' hn1 w' (hc.grow hb) h0
  have hfi := fun w' => rFirst_any p nv nf hv hf h8 h8' hn1 w'
  rw [h0] at hrp
  generalize firstP nv nf p.n = fd at hbe hfi hm1
  have hjn := fun w' (hb : Below w.heap.size w w') => pJoin_err p is x y d e w' hn (hc.grow hb) (hx.grow hb) (hy.grow hb) h2
  have hwd := fun w' (hb : Below w.heap.size w w') => pWiden_err p is x y d e w' hn (hc.grow hb) (hx.grow hb) (hy.grow hb) h2
  have hwi := fun w' (hb : Below w.heap.size w w') => pWithin_err p is x y d e w' hn (hc.grow hb) (hx.grow hb) (hy.grow hb) h2
  have hz := fun w' => pictureIs_err (cp2 p is d e) h2 zeroP w'
  have hcc : (cp2 p is d e == 0) = false := beq_eq_false_iff_ne.2 h2
  generalize cp2 p is d e = c2 at *
  generalize cp1 p is d = c1 at *
  have HPB := Lib.hid hpb
  have HRP := Lib.hid hrp
  have HR1 := Lib.hid hr1
  have HR2 := Lib.hid hr2
  have HCK := Lib.hid hck
  have HBE := Lib.hid hbe
  have HJN := Lib.hid hjn
  have HWD := Lib.hid hwd
  have HWI := Lib.hid hwi
  have HFI := Lib.hid hfi
  have HZ := Lib.hid hz
  clear hpb hrp hr1 hr2 hck hbe hjn hwd hwi hfi hz
  clear hc hx hy h0 h2
  clear hs hv hf h8 h8' hn1
  have HM1 := Lib.hid hm1
  clear hm1
  obtain ⟨xn, ⟨xp, xvn, xc⟩, ⟨xfp, xfn, xfc⟩⟩ := x
  obtain ⟨yn, ⟨yp, yvn, yc⟩, ⟨yfp, yfn, yfc⟩⟩ := y
  have hL := Loc.start w
  go_enter Tryz.func4, Tryz.ntmps4
  go_upto_region 5 with (first | (with_reducible refine lld hL ?_) | ((with_reducible first | refine lbx hL ?_ | refine lal hL ?_ | refine lbs hL ?_); clear hL; intro bl w1 hL) | ((with_reducible refine lst' hL ?_); clear hL; intro w1 hL) | (go_at_call 12; refine (HBE.out _ hL.below).mono ?_; rintro e w3 ⟨⟨q1n, ⟨q1p, q1k, q1c⟩, ⟨q1fp, q1fk, q1fc⟩⟩, rfl, hG⟩; replace hL := hL.gotP hG HM1.out; clear hG; (try dsimp only)) | (go_at_call 10; refine (HJN.out _ hL.below).mono ?_; rintro e w1 ⟨rfl, hb⟩; replace hL := hL.grow hb; clear hb; dsimp only) | (go_at_call 11; refine (HWD.out _ hL.below).mono ?_; rintro e w1 ⟨rfl, hb⟩; replace hL := hL.grow hb; clear hb; dsimp only) | (go_at_call 13; refine (HWI.out _ hL.below).mono ?_; rintro e w1 ⟨rfl, hb⟩; replace hL := hL.grow hb; clear hb; dsimp only) | (go_at_call 15; refine (HFI.out _).mono ?_; rintro e w3 ⟨⟨q4n, ⟨q4p, q4k, q4c⟩, ⟨q4fp, q4fk, q4fc⟩⟩, rfl, hG⟩; replace hL := hL.gotP hG HM1.out; clear hG; (try dsimp only)))
  refine draw_begin [48, 49, 50, 51, 52, 53, 54, 55, 56, 57, 58, 15, 16, 17] ?_
  apply draw_val
  · intro g w hb hdep; replace hL := hL.grow hb; clear hdep; simp only [fillD, fLa, fLb, sTa, sTb]
    go_wp2_with (first | (with_reducible refine lld hL ?_) | (with_reducible refine ldD hL ?_))
    exact cY
  simp only [apN, apC]
  apply draw_val
  · intro g w hb hdep; replace hL := hL.grow hb; have d0 := yv hdep 0; clear hdep; simp only [fillD, fLa, fLb, sTa, sTb]; simp only [d0]
    go_wp2_with (go_at_call 14; refine (HRP.out _ hL.below).mono ?_; rintro e w3 ⟨rfl, hb3⟩; dsimp only)
    exact ⟨rfl, _, rfl, hb3, rfl⟩
  simp only [apN, apC]
  apply draw_val
  · intro g w hb hdep; replace hL := hL.grow hb; clear hdep; simp only [fillD, fLa, fLb, sTa, sTb]
    go_wp2_with (first | (with_reducible refine lld hL ?_) | (with_reducible refine ldD hL ?_))
    exact cY
  simp only [apN, apC]
  apply draw_val
  · intro g w hb hdep; replace hL := hL.grow hb; clear hdep; simp only [fillD, fLa, fLb, sTa, sTb]
    go_wp2_with (first | (with_reducible refine lld hL ?_) | (with_reducible refine ldD hL ?_))
    exact cY
  simp only [apN, apC]
  apply draw_row
  · intro g w hb hdep; replace hL := hL.grow hb; have d3 := yv hdep 3; clear hdep; simp only [fillD, fLa, fLb, sTa, sTb]; simp only [d3]
    go_wp2
    exact ⟨rfl, _, rfl, (Below.refl _ _).alloc (Nat.le_refl _) _, _, hb.size, rfl, heap_new _ _⟩
  simp only [apN, apC]
  apply draw_val
  · intro g w hb hdep; replace hL := hL.grow hb; have d2 := yv hdep 2; obtain ⟨b4, e4, d4, f4⟩ := rat_row (allR_get hdep (j := 4) (by decide)) rfl rfl; clear hdep; simp only [fillD, fLa, fLb, sTa, sTb]; simp only [d2, d4]
    go_wp2_with (go_at_call 6; refine (HR1.out b4 _ hL.below f4).mono ?_; rintro e w3 ⟨rfl, hb3⟩; dsimp only)
    exact ⟨rfl, _, rfl, hb3, rfl⟩
  simp only [apN, apC]
  apply draw_val
  · intro g w hb hdep; replace hL := hL.grow hb; clear hdep; simp only [fillD, fLa, fLb, sTa, sTb]
    go_wp2_with (first | (with_reducible refine lld hL ?_) | (with_reducible refine ldD hL ?_))
    exact cY
  simp only [apN, apC]
  apply draw_val
  · intro g w hb hdep; replace hL := hL.grow hb; clear hdep; simp only [fillD, fLa, fLb, sTa, sTb]
    go_wp2_with (first | (with_reducible refine lld hL ?_) | (with_reducible refine ldD hL ?_))
    exact cY
  simp only [apN, apC]
  apply draw_val
  · intro g w hb hdep; replace hL := hL.grow hb; clear hdep; simp only [fillD, fLa, fLb, sTa, sTb]
    go_wp2_with (first | (with_reducible refine lld hL ?_) | (with_reducible refine ldD hL ?_))
    exact cY
  simp only [apN, apC]
  apply draw_row
  · intro g w hb hdep; replace hL := hL.grow hb; have d7 := yv hdep 7; have d8 := yv hdep 8; clear hdep; simp only [fillD, fLa, fLb, sTa, sTb]; simp only [d7, d8]
    go_wp2
    exact ⟨rfl, _, rfl, (Below.refl _ _).alloc (Nat.le_refl _) _, _, hb.size, rfl, heap_new _ _⟩
  simp only [apN, apC]
  apply draw_val
  · intro g w hb hdep; replace hL := hL.grow hb; have d6 := yv hdep 6; obtain ⟨b9, e9, d9, f9⟩ := rat_row (allR_get hdep (j := 9) (by decide)) rfl rfl; clear hdep; simp only [fillD, fLa, fLb, sTa, sTb]; simp only [d6, d9]
    go_wp2_with (go_at_call 6; refine (HR2.out b9 _ hL.below f9).mono ?_; rintro e w3 ⟨rfl, hb3⟩; dsimp only)
    exact ⟨rfl, _, rfl, hb3, rfl⟩
  simp only [apN, apC]
  apply draw_val
  · intro g w hb hdep; replace hL := hL.grow hb; have d1 := yv hdep 1; clear hdep; simp only [fillD, fLa, fLb, sTa, sTb]; simp only [d1]
    go_wp2
    exact cY
  simp only [apN, apC]
  apply draw_val
  · intro g w hb hdep; replace hL := hL.grow hb; have d5 := yv hdep 5; clear hdep; simp only [fillD, fLa, fLb, sTa, sTb]; simp only [d5]
    go_wp2
    exact cY
  simp only [apN, apC]
  apply draw_val
  · intro g w hb hdep; replace hL := hL.grow hb; have d10 := yv hdep 10; clear hdep; simp only [fillD, fLa, fLb, sTa, sTb]; simp only [d10]
    go_wp2
    exact cY
  simp only [apN, apC]
  refine draw_end hL (by kernel_rfl) (by kernel_rfl) ?_
  intro g w2 hb hR; simp only [List.length_cons, List.length_nil, Nat.reduceAdd] at hR
  have e0 := yv hR 0
  have e1 := yv hR 1
  have e2 := yv hR 2
  have e3 := yv hR 3
  obtain ⟨b4, p4, e4, c4⟩ := rat_row (allR_get hR (j := 4) (by decide)) rfl rfl
  have e5 := yv hR 5
  have e6 := yv hR 6
  have e7 := yv hR 7
  have e8 := yv hR 8
  obtain ⟨b9, p9, e9, c9⟩ := rat_row (allR_get hR (j := 9) (by decide)) rfl rfl
  have e10 := yv hR 10
  have e11 := yv hR 11
  have e12 := yv hR 12
  have e13 := yv hR 13
  clear hR; simp only [fillD, fLa, fLb, sTa, sTb]
  simp only [e0, e1, e2, e3, e4, e5, e6, e7, e8, e9, e10, e11, e12, e13]
  clear e0 e1 e2 e3 e4 e5 e6 e7 e8 e9 e10 e11 e12 e13
  clear p4 c4 p9 c9
  replace hL := hL.grow hb
  clear hb
  go_upto_region 12 with (first | (with_reducible refine lld hL ?_) | ((with_reducible first | refine lbx hL ?_ | refine lal hL ?_ | refine lbs hL ?_); clear hL; intro bl w1 hL) | ((with_reducible refine lst' hL ?_); clear hL; intro w1 hL) | (go_at_call 12; refine (HBE.out _ hL.below).mono ?_; rintro e w3 ⟨⟨q1n, ⟨q1p, q1k, q1c⟩, ⟨q1fp, q1fk, q1fc⟩⟩, rfl, hG⟩; replace hL := hL.gotP hG HM1.out; clear hG; (try dsimp only)) | (go_at_call 10; refine (HJN.out _ hL.below).mono ?_; rintro e w1 ⟨rfl, hb⟩; replace hL := hL.grow hb; clear hb; dsimp only) | (go_at_call 11; refine (HWD.out _ hL.below).mono ?_; rintro e w1 ⟨rfl, hb⟩; replace hL := hL.grow hb; clear hb; dsimp only) | (go_at_call 13; refine (HWI.out _ hL.below).mono ?_; rintro e w1 ⟨rfl, hb⟩; replace hL := hL.grow hb; clear hb; dsimp only) | (go_at_call 15; refine (HFI.out _).mono ?_; rintro e w3 ⟨⟨q4n, ⟨q4p, q4k, q4c⟩, ⟨q4fp, q4fk, q4fc⟩⟩, rfl, hG⟩; replace hL := hL.gotP hG HM1.out; clear hG; (try dsimp only)))
  have hp1 := (hL.get (S := fun w => PicIs w ⟨q1n, ⟨q1p, q1k, q1c⟩, ⟨q1fp, q1fk, q1fc⟩⟩ fd) (by repeat (first | exact List.mem_cons_self | apply List.mem_cons_of_mem)))
  have hp4 := (hL.get (S := fun w => PicIs w ⟨q4n, ⟨q4p, q4k, q4c⟩, ⟨q4fp, q4fk, q4fc⟩⟩ fd) (by repeat (first | exact List.mem_cons_self | apply List.mem_cons_of_mem)))
  have HI1 := Lib.hid (fun w' (hb : Below w1.heap.size w1 w') => pictureIs_ok ⟨q1n, ⟨q1p, q1k, q1c⟩, ⟨q1fp, q1fk, q1fc⟩⟩ ⟨q4n, ⟨q4p, q4k, q4c⟩, ⟨q4fp, q4fk, q4fc⟩⟩ fd w' (hp1.grow hb) (hp4.grow hb))
  clear hp1 hp4
  have HI2 := Lib.hid (fun w' (_ : Below w1.heap.size w1 w') => HZ.out w')
  have HI3 := Lib.hid (fun w' (_ : Below w1.heap.size w1 w') => HZ.out w')
  obtain ⟨wr, hwr⟩ : ∃ x, x = w1 := ⟨_, rfl⟩
  subst hwr
  refine seq_begin [74, 75, 76, 77, 78, 79, 80, 81, 82, 83, 84, 85, 86, 87, 88, 89, 90, 91, 92, 93, 94, 95, 96, 97, 98, 99, 100, 101, 102, 103, 104, 105, 106, 107, 108, 109, 110, 111, 112, 6] ?_
  apply draw_val
  · intro g w hb hdep; replace hL := hL.grow hb; clear hdep; simp only [fillD, fLa, fLb, sTa, sTb]
    go_wp2_with (go_at_call 9; refine (HPB.out _).mono ?_; rintro e w3 ⟨rfl, hb3⟩; dsimp only)
    exact ⟨rfl, _, rfl, (by assumption), rfl⟩
  simp only [apN, apC]
  apply draw_val
  · intro g w hb hdep; replace hL := hL.grow hb; have d0 := yv hdep 0; clear hdep; simp only [fillD, fLa, fLb, sTa, sTb]; simp only [d0]
    go_wp2
    exact cY
  simp only [apN, apC]
  apply draw_val
  · intro g w hb hdep; replace hL := hL.grow hb; have d1 := yv hdep 1; clear hdep; simp only [fillD, fLa, fLb, sTa, sTb]; simp only [d1]
    go_wp2_with (first | (with_reducible refine lld hL ?_) | (with_reducible refine ldD hL ?_))
    exact cY
  simp only [apN, apC]
  apply draw_val
  · intro g w hb hdep; replace hL := hL.grow hb; have d1 := yv hdep 1; clear hdep; simp only [fillD, fLa, fLb, sTa, sTb]; simp only [d1]
    go_wp2_with (first | (with_reducible refine lld hL ?_) | (with_reducible refine ldD hL ?_))
    exact cY
  simp only [apN, apC]
  apply draw_val
  · intro g w hb hdep; replace hL := hL.grow hb; have d2 := yv hdep 2; have d3 := yv hdep 3; have d1 := yv hdep 1; clear hdep; simp only [fillD, fLa, fLb, sTa, sTb]; simp only [d2, d3, d1]
    go_wp2_with (go_at_call 18; refine (HCK.out _ hL.below).mono ?_; rintro e w3 ⟨rfl, hb3⟩; dsimp only)
    exact ⟨rfl, _, rfl, (by assumption), rfl⟩
  simp only [apN, apC]
  apply draw_val
  · intro g w hb hdep; replace hL := hL.grow hb; have d1 := yv hdep 1; clear hdep; simp only [fillD, fLa, fLb, sTa, sTb]; simp only [d1]
    go_wp2
    exact cY
  simp only [apN, apC]
  apply draw_val
  · intro g w hb hdep; replace hL := hL.grow hb; have d4 := yv hdep 4; have d5 := yv hdep 5; have d1 := yv hdep 1; clear hdep; simp only [fillD, fLa, fLb, sTa, sTb]; simp only [d4, d5, d1]
    go_wp2
    exact cY
  simp only [apN, apC]
  apply draw_val
  · intro g w hb hdep; replace hL := hL.grow hb; have d1 := yv hdep 1; have d6 := yv hdep 6; clear hdep; simp only [fillD, fLa, fLb, sTa, sTb]; simp only [d1, d6]
    go_wp2
    exact cY
  simp only [apN, apC]
  apply draw_val
  · intro g w hb hdep; replace hL := hL.grow hb; have d7 := yv hdep 7; clear hdep; simp only [fillD, fLa, fLb, sTa, sTb]; simp only [d7]
    go_wp2
    exact cY
  simp only [apN, apC]
  apply draw_val
  · intro g w hb hdep; replace hL := hL.grow hb; have d8 := yv hdep 8; clear hdep; simp only [fillD, fLa, fLb, sTa, sTb]; simp only [d8]
    go_wp2_with (first | (with_reducible refine lld hL ?_) | (with_reducible refine ldD hL ?_))
    exact cY
  simp only [apN, apC]
  apply draw_val
  · intro g w hb hdep; replace hL := hL.grow hb; have d8 := yv hdep 8; clear hdep; simp only [fillD, fLa, fLb, sTa, sTb]; simp only [d8]
    go_wp2
    exact cY
  simp only [apN, apC]
  apply draw_val
  · intro g w hb hdep; replace hL := hL.grow hb; have d8 := yv hdep 8; clear hdep; simp only [fillD, fLa, fLb, sTa, sTb]; simp only [d8]
    go_wp2
    exact cY
  simp only [apN, apC]
  apply draw_val
  · intro g w hb hdep; replace hL := hL.grow hb; have d8 := yv hdep 8; clear hdep; simp only [fillD, fLa, fLb, sTa, sTb]; simp only [d8]
    go_wp2_with (first | (with_reducible refine lld hL ?_) | (with_reducible refine ldD hL ?_))
    exact cY
  simp only [apN, apC]
  apply draw_val
  · intro g w hb hdep; replace hL := hL.grow hb; have d9 := yv hdep 9; have d10 := yv hdep 10; have d11 := yv hdep 11; have d12 := yv hdep 12; have d8 := yv hdep 8; clear hdep; simp only [fillD, fLa, fLb, sTa, sTb]; simp only [d9, d10, d11, d12, d8]
    go_wp2_with (go_at_call 19; refine (HI1.out _ hb).mono ?_; rintro e w3 ⟨rfl, hb3⟩; dsimp only)
    exact ⟨rfl, _, rfl, (by assumption), rfl⟩
  simp only [apN, apC]
  apply draw_val
  · intro g w hb hdep; replace hL := hL.grow hb; have d8 := yv hdep 8; have d13 := yv hdep 13; clear hdep; simp only [fillD, fLa, fLb, sTa, sTb]; simp only [d8, d13]
    go_wp2
    exact cY
  simp only [apN, apC]
  apply draw_val
  · intro g w hb hdep; replace hL := hL.grow hb; have d14 := yv hdep 14; clear hdep; simp only [fillD, fLa, fLb, sTa, sTb]; simp only [d14]
    go_wp2
    exact cY
  simp only [apN, apC]
  apply draw_val
  · intro g w hb hdep; replace hL := hL.grow hb; have d15 := yv hdep 15; clear hdep; simp only [fillD, fLa, fLb, sTa, sTb]; simp only [d15]
    go_wp2_with (first | (with_reducible refine lld hL ?_) | (with_reducible refine ldD hL ?_))
    exact cY
  simp only [apN, apC]
  apply draw_val
  · intro g w hb hdep; replace hL := hL.grow hb; have d15 := yv hdep 15; clear hdep; simp only [fillD, fLa, fLb, sTa, sTb]; simp only [d15]
    go_wp2
    exact cY
  simp only [apN, apC]
  apply draw_val
  · intro g w hb hdep; replace hL := hL.grow hb; have d15 := yv hdep 15; clear hdep; simp only [fillD, fLa, fLb, sTa, sTb]; simp only [d15]
    go_wp2
    exact cY
  simp only [apN, apC]
  apply draw_val
  · intro g w hb hdep; replace hL := hL.grow hb; have d15 := yv hdep 15; clear hdep; simp only [fillD, fLa, fLb, sTa, sTb]; simp only [d15]
    go_wp2_with (first | (with_reducible refine lld hL ?_) | (with_reducible refine ldD hL ?_))
    exact cY
  simp only [apN, apC]
  apply draw_val
  · intro g w hb hdep; replace hL := hL.grow hb; have d16 := yv hdep 16; have d17 := yv hdep 17; have d18 := yv hdep 18; have d19 := yv hdep 19; have d15 := yv hdep 15; clear hdep; simp only [fillD, fLa, fLb, sTa, sTb]; simp only [d16, d17, d18, d19, d15]
    go_wp2_with (go_at_call 19; refine (HI2.out _ hb).mono ?_; rintro e w3 ⟨rfl, hb3⟩; dsimp only)
    exact ⟨rfl, _, rfl, (by assumption), rfl⟩
  simp only [apN, apC]
  apply draw_val
  · intro g w hb hdep; replace hL := hL.grow hb; have d15 := yv hdep 15; have d20 := yv hdep 20; clear hdep; simp only [fillD, fLa, fLb, sTa, sTb]; simp only [d15, d20]
    go_wp2
    exact cY
  simp only [apN, apC]
  apply draw_val
  · intro g w hb hdep; replace hL := hL.grow hb; have d21 := yv hdep 21; clear hdep; simp only [fillD, fLa, fLb, sTa, sTb]; simp only [d21]
    go_wp2
    exact cY
  simp only [apN, apC]
  apply draw_val
  · intro g w hb hdep; replace hL := hL.grow hb; have d22 := yv hdep 22; clear hdep; simp only [fillD, fLa, fLb, sTa, sTb]; simp only [d22]
    go_wp2_with (first | (with_reducible refine lld hL ?_) | (with_reducible refine ldD hL ?_))
    exact cY
  simp only [apN, apC]
  apply draw_val
  · intro g w hb hdep; replace hL := hL.grow hb; have d22 := yv hdep 22; clear hdep; simp only [fillD, fLa, fLb, sTa, sTb]; simp only [d22]
    go_wp2
    exact cY
  simp only [apN, apC]
  apply draw_val
  · intro g w hb hdep; replace hL := hL.grow hb; have d22 := yv hdep 22; clear hdep; simp only [fillD, fLa, fLb, sTa, sTb]; simp only [d22]
    go_wp2
    exact cY
  simp only [apN, apC]
  apply draw_val
  · intro g w hb hdep; replace hL := hL.grow hb; have d22 := yv hdep 22; clear hdep; simp only [fillD, fLa, fLb, sTa, sTb]; simp only [d22]
    go_wp2_with (first | (with_reducible refine lld hL ?_) | (with_reducible refine ldD hL ?_))
    exact cY
  simp only [apN, apC]
  apply draw_val
  · intro g w hb hdep; replace hL := hL.grow hb; have d23 := yv hdep 23; have d24 := yv hdep 24; have d25 := yv hdep 25; have d26 := yv hdep 26; have d22 := yv hdep 22; clear hdep; simp only [fillD, fLa, fLb, sTa, sTb]; simp only [d23, d24, d25, d26, d22]
    go_wp2_with (go_at_call 19; refine (HI3.out _ hb).mono ?_; rintro e w3 ⟨rfl, hb3⟩; dsimp only)
    exact ⟨rfl, _, rfl, (by assumption), rfl⟩
  simp only [apN, apC]
  apply draw_val
  · intro g w hb hdep; replace hL := hL.grow hb; have d22 := yv hdep 22; have d27 := yv hdep 27; clear hdep; simp only [fillD, fLa, fLb, sTa, sTb]; simp only [d22, d27]
    go_wp2
    exact cY
  simp only [apN, apC]
  apply draw_val
  · intro g w hb hdep; replace hL := hL.grow hb; have d28 := yv hdep 28; clear hdep; simp only [fillD, fLa, fLb, sTa, sTb]; simp only [d28]
    go_wp2
    exact cY
  simp only [apN, apC]
  apply draw_val
  · intro g w hb hdep; replace hL := hL.grow hb; have d29 := yv hdep 29; clear hdep; simp only [fillD, fLa, fLb, sTa, sTb]; simp only [d29]
    go_wp2
    exact cY
  simp only [apN, apC]
  apply draw_val
  · intro g w hb hdep; replace hL := hL.grow hb; have d29 := yv hdep 29; clear hdep; simp only [fillD, fLa, fLb, sTa, sTb]; simp only [d29]
    go_wp2
    exact cY
  simp only [apN, apC]
  apply draw_val
  · intro g w hb hdep; replace hL := hL.grow hb; have d30 := yv hdep 30; have d31 := yv hdep 31; have d29 := yv hdep 29; clear hdep; simp only [fillD, fLa, fLb, sTa, sTb]; simp only [d30, d31, d29]
    go_wp2
    exact cY
  simp only [apN, apC]
  apply draw_val
  · intro g w hb hdep; replace hL := hL.grow hb; have d29 := yv hdep 29; have d32 := yv hdep 32; clear hdep; simp only [fillD, fLa, fLb, sTa, sTb]; simp only [d29, d32]
    go_wp2
    exact cY
  simp only [apN, apC]
  apply draw_val
  · intro g w hb hdep; replace hL := hL.grow hb; have d33 := yv hdep 33; clear hdep; simp only [fillD, fLa, fLb, sTa, sTb]; simp only [d33]
    go_wp2
    exact cY
  simp only [apN, apC]
  apply draw_val
  · intro g w hb hdep; replace hL := hL.grow hb; have d34 := yv hdep 34; clear hdep; simp only [fillD, fLa, fLb, sTa, sTb]; simp only [d34]
    go_wp2
    exact cY
  simp only [apN, apC]
  apply draw_val
  · intro g w hb hdep; replace hL := hL.grow hb; have d34 := yv hdep 34; clear hdep; simp only [fillD, fLa, fLb, sTa, sTb]; simp only [d34]
    go_wp2
    exact cY
  simp only [apN, apC]
  apply draw_val
  · intro g w hb hdep; replace hL := hL.grow hb; have d35 := yv hdep 35; have d36 := yv hdep 36; have d34 := yv hdep 34; clear hdep; simp only [fillD, fLa, fLb, sTa, sTb]; simp only [d35, d36, d34]
    go_wp2
    exact cY
  simp only [apN, apC]
  apply draw_val
  · intro g w hb hdep; replace hL := hL.grow hb; have d34 := yv hdep 34; have d37 := yv hdep 37; clear hdep; simp only [fillD, fLa, fLb, sTa, sTb]; simp only [d34, d37]
    go_wp2
    exact cY
  simp only [apN, apC]
  apply draw_val
  · intro g w hb hdep; replace hL := hL.grow hb; have d38 := yv hdep 38; clear hdep; simp only [fillD, fLa, fLb, sTa, sTb]; simp only [d38]
    go_wp2
    exact cY
  simp only [apN, apC]
  refine seq_end hL (by kernel_rfl) ?_
  intro g w2 hb hR; simp only [List.length_cons, List.length_nil, Nat.reduceAdd] at hR
  have e0 := yv hR 0
  have e1 := yv hR 1
  have e2 := yv hR 2
  have e3 := yv hR 3
  have e4 := yv hR 4
  have e5 := yv hR 5
  have e6 := yv hR 6
  have e7 := yv hR 7
  have e8 := yv hR 8
  have e9 := yv hR 9
  have e10 := yv hR 10
  have e11 := yv hR 11
  have e12 := yv hR 12
  have e13 := yv hR 13
  have e14 := yv hR 14
  have e15 := yv hR 15
  have e16 := yv hR 16
  have e17 := yv hR 17
  have e18 := yv hR 18
  have e19 := yv hR 19
  have e20 := yv hR 20
  have e21 := yv hR 21
  have e22 := yv hR 22
  have e23 := yv hR 23
  have e24 := yv hR 24
  have e25 := yv hR 25
  have e26 := yv hR 26
  have e27 := yv hR 27
  have e28 := yv hR 28
  have e29 := yv hR 29
  have e30 := yv hR 30
  have e31 := yv hR 31
  have e32 := yv hR 32
  have e33 := yv hR 33
  have e34 := yv hR 34
  have e35 := yv hR 35
  have e36 := yv hR 36
  have e37 := yv hR 37
  have e38 := yv hR 38
  have e39 := yv hR 39
  clear hR; simp only [fillD, fLa, fLb, sTa, sTb]
  simp only [e0, e1, e2, e3, e4, e5, e6, e7, e8, e9, e10, e11, e12, e13, e14, e15, e16, e17, e18, e19, e20, e21, e22, e23, e24, e25, e26, e27, e28, e29, e30, e31, e32, e33, e34, e35, e36, e37, e38, e39]
  clear e0 e1 e2 e3 e4 e5 e6 e7 e8 e9 e10 e11 e12 e13 e14 e15 e16 e17 e18 e19 e20 e21 e22 e23 e24 e25 e26 e27 e28 e29 e30 e31 e32 e33 e34 e35 e36 e37 e38 e39
  replace hL := hL.grow hb
  clear hb
  go_wp2_with (first | (with_reducible refine lld hL ?_) | ((with_reducible first | refine lbx hL ?_ | refine lal hL ?_ | refine lbs hL ?_); clear hL; intro bl w1 hL) | ((with_reducible refine lst' hL ?_); clear hL; intro w1 hL))
  (try simp only [Exit.inBlock, Exit.then]); refine' ret1 rfl ?_ rfl ?_; (case refine'_2 => exact cRes)
  exact ⟨by simp, hL.below⟩

set_option maxRecDepth 100000 in
set_option maxHeartbeats 4000000 in
theorem pjoins_c (p : Pg) (is : Nat → Ins) (x y : Pv) (d e : Pd) (w : World) (hi : PicIn w p is x y d e) (h0 : checkProg p is = 0) (h2 : cp2 p is d e = 0) :
    Calls Tryz.prog 4 #[p.v, x.v, y.v] w fun q w' => q = .returned (.bool true) ∧ Below w.heap.size w w' := by
  obtain ⟨hn, hc, hx, hy⟩ := hi
  have hpb := fun w' => picBegun_any w'
  have hrp := fun w' (hb : Below w.heap.size w w') => rCheckProgram_any p is w' (hc.grow hb) hn
  have hr1 := fun (b : Nat) (w' : World) (hb : Below w.heap.size w w') (hh : w'.heap[b]? = some (.cells x.cells.toArray 28 (0, 0))) => (show Calls Tryz.prog 6 #[p.v, .slice (some ⟨b, 0, none⟩) 1 1] w' fun q w2 => q = .returned (.int .i64 (cp1 p is d)) ∧ Below w'.heap.size w' w2 from rCheckPictures_any p is (some ⟨b, 0, none⟩) 1 1 (fun _ => x) (fun _ => d) w' hn (hc.grow hb) (pics1 hh (hx.grow hb)))
  have hr2 := fun (b : Nat) (w' : World) (hb : Below w.heap.size w w') (hh : w'.heap[b]? = some (.cells (x.cells ++ y.cells).toArray 28 (0, 0))) => (show Calls Tryz.prog 6 #[p.v, .slice (some ⟨b, 0, none⟩) 2 2] w' fun q w2 => q = .returned (.int .i64 (cp2 p is d e)) ∧ Below w'.heap.size w' w2 from rCheckPictures_any p is (some ⟨b, 0, none⟩) 2 2 (pick2 x y) (pick2 d e) w' hn (hc.grow hb) (pics2 hh (hx.grow hb) (hy.grow hb)))
  have hck := fun w' (hb : Below w.heap.size w w') => pCheck_any p is x d w' hn (hc.grow hb) (hx.grow hb)
  have hs := (prog_right h0).1
  obtain ⟨nv, hv⟩ : ∃ nv : Nat, p.vars = nv := ⟨p.vars.toNat, by have := hs.v1; omega⟩
  obtain ⟨nf, hf⟩ : ∃ nf : Nat, p.fields = nf := ⟨p.fields.toNat, by have := hs.f1; omega⟩
  have h8 : nv ≤ 8 := by have := hs.v2; omega
  have h8' : nf ≤ 8 := by have := hs.f2; omega
  have hn1 : p.n ≤ 1000 := by have := hs.n1; omega
  have hm1 := first_small nv nf p.n h8 hn1
  have hbe := fun w' (hb : Below w.heap.size w w') => pBegin_ok p is nv nf hv hf h8 h8' hn1 w' (hc.grow hb) h0
  have hfi := fun w' => rFirst_any p nv nf hv hf h8 h8' hn1 w'
  rw [h0] at hrp
  generalize firstP nv nf p.n = fd at hbe hfi hm1
  have hjn := fun w' (hb : Below w.heap.size w w') => pJoin_ok p is x y d e w' hn (hc.grow hb) (hx.grow hb) (hy.grow hb) h2
  have hwd := fun w' (hb : Below w.heap.size w w') => pWiden_ok p is x y d e w' hn (hc.grow hb) (hx.grow hb) (hy.grow hb) h2
  have hwi := fun w' (hb : Below w.heap.size w w') => pWithin_ok p is x y d e w' hn (hc.grow hb) (hx.grow hb) (hy.grow hb) h2
  have hr := cp2_zero h2
  have hrj := fun w' (hb : Below w.heap.size w w') => rjoinP_any false both rJoin_any p is x y d e w w' hb hx hy h0 hr.2.1 hr.2.2
  have hrw := fun w' (hb : Below w.heap.size w w') => rjoinP_any true wider rWiden_any p is x y d e w w' hb hx hy h0 hr.2.1 hr.2.2
  have hri := fun w' (hb : Below w.heap.size w w') => rPictureIn_any p is x y d e w' (hx.grow hb) (hy.grow hb) h0 hr.2.1 hr.2.2
  have hm2 := both_small (f := both) h0 hr.2.1 hr.2.2
  have hm3 := both_small (f := wider) h0 hr.2.1 hr.2.2
  rw [← bothP_joinP h0 hr.2.1 hr.2.2] at hrj hrw
  rw [cp1_right h0 hr.2.1] at hr1 hck
  rw [h2] at hr2
  generalize bothP both d e = jd at hjn hrj hm2
  generalize bothP wider d e = wd at hwd hrw hm3
  generalize insideP d e = ins at hwi hri
  clear hr
  have HX := Lib.hid hx
  have HY := Lib.hid hy
  have HPB := Lib.hid hpb
  have HRP := Lib.hid hrp
  have HR1 := Lib.hid hr1
  have HR2 := Lib.hid hr2
  have HCK := Lib.hid hck
  have HBE := Lib.hid hbe
  have HJN := Lib.hid hjn
  have HWD := Lib.hid hwd
  have HWI := Lib.hid hwi
  have HFI := Lib.hid hfi
  have HRJ := Lib.hid hrj
  have HRW := Lib.hid hrw
  have HRI := Lib.hid hri
  clear hpb hrp hr1 hr2 hck hbe hjn hwd hwi hfi hrj hrw hri
  clear hc hx hy h0 h2
  clear hs hv hf h8 h8' hn1
  have HM1 := Lib.hid hm1
  have HM2 := Lib.hid hm2
  have HM3 := Lib.hid hm3
  clear hm1 hm2 hm3
  obtain ⟨xn, ⟨xp, xvn, xc⟩, ⟨xfp, xfn, xfc⟩⟩ := x
  obtain ⟨yn, ⟨yp, yvn, yc⟩, ⟨yfp, yfn, yfc⟩⟩ := y
  have hL := Loc.start w
  go_enter Tryz.func4, Tryz.ntmps4
  go_upto_region 5 with (first | (with_reducible refine lld hL ?_) | ((with_reducible first | refine lbx hL ?_ | refine lal hL ?_ | refine lbs hL ?_); clear hL; intro bl w1 hL) | ((with_reducible refine lst' hL ?_); clear hL; intro w1 hL) | (go_at_call 12; refine (HBE.out _ hL.below).mono ?_; rintro e w3 ⟨⟨q1n, ⟨q1p, q1k, q1c⟩, ⟨q1fp, q1fk, q1fc⟩⟩, rfl, hG⟩; replace hL := hL.gotP hG HM1.out; clear hG; (try dsimp only)) | (go_at_call 10; refine (HJN.out _ hL.below).mono ?_; rintro e w3 ⟨⟨q2n, ⟨q2p, q2k, q2c⟩, ⟨q2fp, q2fk, q2fc⟩⟩, rfl, hG⟩; replace hL := hL.gotP hG HM2.out; clear hG; (try dsimp only)) | (go_at_call 11; refine (HWD.out _ hL.below).mono ?_; rintro e w3 ⟨⟨q3n, ⟨q3p, q3k, q3c⟩, ⟨q3fp, q3fk, q3fc⟩⟩, rfl, hG⟩; replace hL := hL.gotP hG HM3.out; clear hG; (try dsimp only)) | (go_at_call 13; refine (HWI.out _ hL.below).mono ?_; rintro e w1 ⟨rfl, hb⟩; replace hL := hL.grow hb; clear hb; dsimp only) | (go_at_call 15; refine (HFI.out _).mono ?_; rintro e w3 ⟨⟨q4n, ⟨q4p, q4k, q4c⟩, ⟨q4fp, q4fk, q4fc⟩⟩, rfl, hG⟩; replace hL := hL.gotP hG HM1.out; clear hG; (try dsimp only)))
  refine draw_begin [48, 49, 50, 51, 52, 53, 54, 55, 56, 57, 58, 15, 16, 17] ?_
  apply draw_val
  · intro g w hb hdep; replace hL := hL.grow hb; clear hdep; simp only [fillD, fLa, fLb, sTa, sTb]
    go_wp2_with (first | (with_reducible refine lld hL ?_) | (with_reducible refine ldD hL ?_))
    exact cY
  simp only [apN, apC]
  apply draw_val
  · intro g w hb hdep; replace hL := hL.grow hb; have d0 := yv hdep 0; clear hdep; simp only [fillD, fLa, fLb, sTa, sTb]; simp only [d0]
    go_wp2_with (go_at_call 14; refine (HRP.out _ hL.below).mono ?_; rintro e w3 ⟨rfl, hb3⟩; dsimp only)
    exact ⟨rfl, _, rfl, hb3, rfl⟩
  simp only [apN, apC]
  apply draw_val
  · intro g w hb hdep; replace hL := hL.grow hb; clear hdep; simp only [fillD, fLa, fLb, sTa, sTb]
    go_wp2_with (first | (with_reducible refine lld hL ?_) | (with_reducible refine ldD hL ?_))
    exact cY
  simp only [apN, apC]
  apply draw_val
  · intro g w hb hdep; replace hL := hL.grow hb; clear hdep; simp only [fillD, fLa, fLb, sTa, sTb]
    go_wp2_with (first | (with_reducible refine lld hL ?_) | (with_reducible refine ldD hL ?_))
    exact cY
  simp only [apN, apC]
  apply draw_row
  · intro g w hb hdep; replace hL := hL.grow hb; have d3 := yv hdep 3; clear hdep; simp only [fillD, fLa, fLb, sTa, sTb]; simp only [d3]
    go_wp2
    exact ⟨rfl, _, rfl, (Below.refl _ _).alloc (Nat.le_refl _) _, _, hb.size, rfl, heap_new _ _⟩
  simp only [apN, apC]
  apply draw_val
  · intro g w hb hdep; replace hL := hL.grow hb; have d2 := yv hdep 2; obtain ⟨b4, e4, d4, f4⟩ := rat_row (allR_get hdep (j := 4) (by decide)) rfl rfl; clear hdep; simp only [fillD, fLa, fLb, sTa, sTb]; simp only [d2, d4]
    go_wp2_with (go_at_call 6; refine (HR1.out b4 _ hL.below f4).mono ?_; rintro e w3 ⟨rfl, hb3⟩; dsimp only)
    exact ⟨rfl, _, rfl, hb3, rfl⟩
  simp only [apN, apC]
  apply draw_val
  · intro g w hb hdep; replace hL := hL.grow hb; clear hdep; simp only [fillD, fLa, fLb, sTa, sTb]
    go_wp2_with (first | (with_reducible refine lld hL ?_) | (with_reducible refine ldD hL ?_))
    exact cY
  simp only [apN, apC]
  apply draw_val
  · intro g w hb hdep; replace hL := hL.grow hb; clear hdep; simp only [fillD, fLa, fLb, sTa, sTb]
    go_wp2_with (first | (with_reducible refine lld hL ?_) | (with_reducible refine ldD hL ?_))
    exact cY
  simp only [apN, apC]
  apply draw_val
  · intro g w hb hdep; replace hL := hL.grow hb; clear hdep; simp only [fillD, fLa, fLb, sTa, sTb]
    go_wp2_with (first | (with_reducible refine lld hL ?_) | (with_reducible refine ldD hL ?_))
    exact cY
  simp only [apN, apC]
  apply draw_row
  · intro g w hb hdep; replace hL := hL.grow hb; have d7 := yv hdep 7; have d8 := yv hdep 8; clear hdep; simp only [fillD, fLa, fLb, sTa, sTb]; simp only [d7, d8]
    go_wp2
    exact ⟨rfl, _, rfl, (Below.refl _ _).alloc (Nat.le_refl _) _, _, hb.size, rfl, heap_new _ _⟩
  simp only [apN, apC]
  apply draw_val
  · intro g w hb hdep; replace hL := hL.grow hb; have d6 := yv hdep 6; obtain ⟨b9, e9, d9, f9⟩ := rat_row (allR_get hdep (j := 9) (by decide)) rfl rfl; clear hdep; simp only [fillD, fLa, fLb, sTa, sTb]; simp only [d6, d9]
    go_wp2_with (go_at_call 6; refine (HR2.out b9 _ hL.below f9).mono ?_; rintro e w3 ⟨rfl, hb3⟩; dsimp only)
    exact ⟨rfl, _, rfl, hb3, rfl⟩
  simp only [apN, apC]
  apply draw_val
  · intro g w hb hdep; replace hL := hL.grow hb; have d1 := yv hdep 1; clear hdep; simp only [fillD, fLa, fLb, sTa, sTb]; simp only [d1]
    go_wp2
    exact cY
  simp only [apN, apC]
  apply draw_val
  · intro g w hb hdep; replace hL := hL.grow hb; have d5 := yv hdep 5; clear hdep; simp only [fillD, fLa, fLb, sTa, sTb]; simp only [d5]
    go_wp2
    exact cY
  simp only [apN, apC]
  apply draw_val
  · intro g w hb hdep; replace hL := hL.grow hb; have d10 := yv hdep 10; clear hdep; simp only [fillD, fLa, fLb, sTa, sTb]; simp only [d10]
    go_wp2
    exact cY
  simp only [apN, apC]
  refine draw_end hL (by kernel_rfl) (by kernel_rfl) ?_
  intro g w2 hb hR; simp only [List.length_cons, List.length_nil, Nat.reduceAdd] at hR
  have e0 := yv hR 0
  have e1 := yv hR 1
  have e2 := yv hR 2
  have e3 := yv hR 3
  obtain ⟨b4, p4, e4, c4⟩ := rat_row (allR_get hR (j := 4) (by decide)) rfl rfl
  have e5 := yv hR 5
  have e6 := yv hR 6
  have e7 := yv hR 7
  have e8 := yv hR 8
  obtain ⟨b9, p9, e9, c9⟩ := rat_row (allR_get hR (j := 9) (by decide)) rfl rfl
  have e10 := yv hR 10
  have e11 := yv hR 11
  have e12 := yv hR 12
  have e13 := yv hR 13
  clear hR; simp only [fillD, fLa, fLb, sTa, sTb]
  simp only [e0, e1, e2, e3, e4, e5, e6, e7, e8, e9, e10, e11, e12, e13]
  clear e0 e1 e2 e3 e4 e5 e6 e7 e8 e9 e10 e11 e12 e13
  clear p4 c4 p9 c9
  replace hL := hL.grow hb
  clear hb
  go_upto_region 11 with (first | (with_reducible refine lld hL ?_) | ((with_reducible first | refine lbx hL ?_ | refine lal hL ?_ | refine lbs hL ?_); clear hL; intro bl w1 hL) | ((with_reducible refine lst' hL ?_); clear hL; intro w1 hL) | (go_at_call 12; refine (HBE.out _ hL.below).mono ?_; rintro e w3 ⟨⟨q1n, ⟨q1p, q1k, q1c⟩, ⟨q1fp, q1fk, q1fc⟩⟩, rfl, hG⟩; replace hL := hL.gotP hG HM1.out; clear hG; (try dsimp only)) | (go_at_call 10; refine (HJN.out _ hL.below).mono ?_; rintro e w3 ⟨⟨q2n, ⟨q2p, q2k, q2c⟩, ⟨q2fp, q2fk, q2fc⟩⟩, rfl, hG⟩; replace hL := hL.gotP hG HM2.out; clear hG; (try dsimp only)) | (go_at_call 11; refine (HWD.out _ hL.below).mono ?_; rintro e w3 ⟨⟨q3n, ⟨q3p, q3k, q3c⟩, ⟨q3fp, q3fk, q3fc⟩⟩, rfl, hG⟩; replace hL := hL.gotP hG HM3.out; clear hG; (try dsimp only)) | (go_at_call 13; refine (HWI.out _ hL.below).mono ?_; rintro e w1 ⟨rfl, hb⟩; replace hL := hL.grow hb; clear hb; dsimp only) | (go_at_call 15; refine (HFI.out _).mono ?_; rintro e w3 ⟨⟨q4n, ⟨q4p, q4k, q4c⟩, ⟨q4fp, q4fk, q4fc⟩⟩, rfl, hG⟩; replace hL := hL.gotP hG HM1.out; clear hG; (try dsimp only)))
  obtain ⟨wq, hwq⟩ : ∃ x, x = w1 := ⟨_, rfl⟩
  subst hwq
  refine draw_begin [65, 66, 67, 68, 69, 70, 71, 72, 73] ?_
  apply draw_val
  · intro g w hb hdep; replace hL := hL.grow hb; clear hdep; simp only [fillD, fLa, fLb, sTa, sTb]
    go_wp2_with (first | (with_reducible refine lld hL ?_) | (with_reducible refine ldD hL ?_))
    exact cY
  simp only [apN, apC]
  apply draw_val
  · intro g w hb hdep; replace hL := hL.grow hb; clear hdep; simp only [fillD, fLa, fLb, sTa, sTb]
    go_wp2_with (first | (with_reducible refine lld hL ?_) | (with_reducible refine ldD hL ?_))
    exact cY
  simp only [apN, apC]
  refine draw_next (JoinR w wq jd) JoinR.stable ?_ ?_
  · intro g w hb hdep; replace hL := hL.grow hb; have d0 := yv hdep 0; have d1 := yv hdep 1; clear hdep; simp only [fillD, fLa, fLb, sTa, sTb]; simp only [d0, d1]
    go_wp2_with (go_at_call 16; refine (HRJ.out _ hL.below).mono ?_; rintro e w3 ⟨r, rfl, hO⟩; dsimp only)
    obtain ⟨S, hF, hS⟩ := hO.fresh; exact ⟨rfl, _, rfl, hO.below, r, S, rfl, hF.since hb, hS⟩
  simp only [apN, apC]
  apply draw_val
  · intro g w hb hdep; replace hL := hL.grow hb; clear hdep; simp only [fillD, fLa, fLb, sTa, sTb]
    go_wp2_with (first | (with_reducible refine lld hL ?_) | (with_reducible refine ldD hL ?_))
    exact cY
  simp only [apN, apC]
  apply draw_val
  · intro g w hb hdep; replace hL := hL.grow hb; clear hdep; simp only [fillD, fLa, fLb, sTa, sTb]
    go_wp2_with (first | (with_reducible refine lld hL ?_) | (with_reducible refine ldD hL ?_))
    exact cY
  simp only [apN, apC]
  refine draw_next (JoinR w wq wd) JoinR.stable ?_ ?_
  · intro g w hb hdep; replace hL := hL.grow hb; have d3 := yv hdep 3; have d4 := yv hdep 4; clear hdep; simp only [fillD, fLa, fLb, sTa, sTb]; simp only [d3, d4]
    go_wp2_with (go_at_call 16; refine (HRW.out _ hL.below).mono ?_; rintro e w3 ⟨r, rfl, hO⟩; dsimp only)
    obtain ⟨S, hF, hS⟩ := hO.fresh; exact ⟨rfl, _, rfl, hO.below, r, S, rfl, hF.since hb, hS⟩
  simp only [apN, apC]
  apply draw_val
  · intro g w hb hdep; replace hL := hL.grow hb; clear hdep; simp only [fillD, fLa, fLb, sTa, sTb]
    go_wp2_with (first | (with_reducible refine lld hL ?_) | (with_reducible refine ldD hL ?_))
    exact cY
  simp only [apN, apC]
  apply draw_val
  · intro g w hb hdep; replace hL := hL.grow hb; clear hdep; simp only [fillD, fLa, fLb, sTa, sTb]
    go_wp2_with (first | (with_reducible refine lld hL ?_) | (with_reducible refine ldD hL ?_))
    exact cY
  simp only [apN, apC]
  apply draw_val
  · intro g w hb hdep; replace hL := hL.grow hb; have d6 := yv hdep 6; have d7 := yv hdep 7; clear hdep; simp only [fillD, fLa, fLb, sTa, sTb]; simp only [d6, d7]
    go_wp2_with (go_at_call 17; refine (HRI.out _ hL.below).mono ?_; rintro e w3 ⟨rfl, hb3⟩; dsimp only)
    exact ⟨rfl, _, rfl, hb3, rfl⟩
  simp only [apN, apC]
  refine draw_end hL (by kernel_rfl) (by kernel_rfl) ?_
  intro g w2 hb hR; simp only [List.length_cons, List.length_nil, Nat.reduceAdd] at hR
  have e0 := yv hR 0
  have e1 := yv hR 1
  have e2 : (JoinR w wq jd) (g 67) w2 := yr hR 2
  obtain ⟨⟨q5n, ⟨q5p, q5k, q5c⟩, ⟨q5fp, q5fk, q5fc⟩⟩, S5, e2, hF5, hS5⟩ := e2
  have e3 := yv hR 3
  have e4 := yv hR 4
  have e5 : (JoinR w wq wd) (g 70) w2 := yr hR 5
  obtain ⟨⟨q6n, ⟨q6p, q6k, q6c⟩, ⟨q6fp, q6fk, q6fc⟩⟩, S6, e5, hF6, hS6⟩ := e5; have hL0 := hL; have hb0 := hb
  have e6 := yv hR 6
  have e7 := yv hR 7
  have e8 := yv hR 8
  clear hR; simp only [fillD, fLa, fLb, sTa, sTb]
  simp only [e0, e1, e2, e3, e4, e5, e6, e7, e8]
  clear e0 e1 e2 e3 e4 e5 e6 e7 e8
  replace hL := hL.grow hb
  clear hb
  clear hL
  have hL := hL0.moreAll hb0 (Ds := [S5, S6]) (by intro S hS; rcases List.mem_cons.1 hS with rfl | hS <;> first | exact hF5 | (rw [List.mem_singleton.1 hS]; exact hF6))
  clear hL0 hb0 hF5 hF6
  simp only [List.cons_append, List.nil_append] at hL
  have HS5 := Lib.hid hS5
  have HS6 := Lib.hid hS6
  clear hS5 hS6
  go_upto_region 12 with (first | (with_reducible refine lld hL ?_) | ((with_reducible first | refine lbx hL ?_ | refine lal hL ?_ | refine lbs hL ?_); clear hL; intro bl w1 hL) | ((with_reducible refine lst' hL ?_); clear hL; intro w1 hL) | (go_at_call 12; refine (HBE.out _ hL.below).mono ?_; rintro e w3 ⟨⟨q1n, ⟨q1p, q1k, q1c⟩, ⟨q1fp, q1fk, q1fc⟩⟩, rfl, hG⟩; replace hL := hL.gotP hG HM1.out; clear hG; (try dsimp only)) | (go_at_call 10; refine (HJN.out _ hL.below).mono ?_; rintro e w3 ⟨⟨q2n, ⟨q2p, q2k, q2c⟩, ⟨q2fp, q2fk, q2fc⟩⟩, rfl, hG⟩; replace hL := hL.gotP hG HM2.out; clear hG; (try dsimp only)) | (go_at_call 11; refine (HWD.out _ hL.below).mono ?_; rintro e w3 ⟨⟨q3n, ⟨q3p, q3k, q3c⟩, ⟨q3fp, q3fk, q3fc⟩⟩, rfl, hG⟩; replace hL := hL.gotP hG HM3.out; clear hG; (try dsimp only)) | (go_at_call 13; refine (HWI.out _ hL.below).mono ?_; rintro e w1 ⟨rfl, hb⟩; replace hL := hL.grow hb; clear hb; dsimp only) | (go_at_call 15; refine (HFI.out _).mono ?_; rintro e w3 ⟨⟨q4n, ⟨q4p, q4k, q4c⟩, ⟨q4fp, q4fk, q4fc⟩⟩, rfl, hG⟩; replace hL := hL.gotP hG HM1.out; clear hG; (try dsimp only)))
  have hp1 := (hL.get (S := fun w => PicIs w ⟨q1n, ⟨q1p, q1k, q1c⟩, ⟨q1fp, q1fk, q1fc⟩⟩ fd) (by repeat (first | exact List.mem_cons_self | apply List.mem_cons_of_mem)))
  have hp4 := (hL.get (S := fun w => PicIs w ⟨q4n, ⟨q4p, q4k, q4c⟩, ⟨q4fp, q4fk, q4fc⟩⟩ fd) (by repeat (first | exact List.mem_cons_self | apply List.mem_cons_of_mem)))
  have HI1 := Lib.hid (fun w' (hb : Below w1.heap.size w1 w') => pictureIs_ok ⟨q1n, ⟨q1p, q1k, q1c⟩, ⟨q1fp, q1fk, q1fc⟩⟩ ⟨q4n, ⟨q4p, q4k, q4c⟩, ⟨q4fp, q4fk, q4fc⟩⟩ fd w' (hp1.grow hb) (hp4.grow hb))
  clear hp1 hp4
  have hp2 := (hL.get (S := fun w => PicIs w ⟨q2n, ⟨q2p, q2k, q2c⟩, ⟨q2fp, q2fk, q2fc⟩⟩ jd) (by repeat (first | exact List.mem_cons_self | apply List.mem_cons_of_mem)))
  have hp5 := HS5.out w1 (hL.get (S := S5) (by repeat (first | exact List.mem_cons_self | apply List.mem_cons_of_mem))) hL.below
  have HI2 := Lib.hid (fun w' (hb : Below w1.heap.size w1 w') => pictureIs_ok ⟨q2n, ⟨q2p, q2k, q2c⟩, ⟨q2fp, q2fk, q2fc⟩⟩ ⟨q5n, ⟨q5p, q5k, q5c⟩, ⟨q5fp, q5fk, q5fc⟩⟩ jd w' (hp2.grow hb) (hp5.grow hb))
  clear hp2 hp5
  have hp3 := (hL.get (S := fun w => PicIs w ⟨q3n, ⟨q3p, q3k, q3c⟩, ⟨q3fp, q3fk, q3fc⟩⟩ wd) (by repeat (first | exact List.mem_cons_self | apply List.mem_cons_of_mem)))
  have hp6 := HS6.out w1 (hL.get (S := S6) (by repeat (first | exact List.mem_cons_self | apply List.mem_cons_of_mem))) hL.below
  have HI3 := Lib.hid (fun w' (hb : Below w1.heap.size w1 w') => pictureIs_ok ⟨q3n, ⟨q3p, q3k, q3c⟩, ⟨q3fp, q3fk, q3fc⟩⟩ ⟨q6n, ⟨q6p, q6k, q6c⟩, ⟨q6fp, q6fk, q6fc⟩⟩ wd w' (hp3.grow hb) (hp6.grow hb))
  clear hp3 hp6
  obtain ⟨wr, hwr⟩ : ∃ x, x = w1 := ⟨_, rfl⟩
  subst hwr
  refine seq_begin [74, 75, 76, 77, 78, 79, 80, 81, 82, 83, 84, 85, 86, 87, 88, 89, 90, 91, 92, 93, 94, 95, 96, 97, 98, 99, 100, 101, 102, 103, 104, 105, 106, 107, 108, 109, 110, 111, 112, 6] ?_
  apply draw_val
  · intro g w hb hdep; replace hL := hL.grow hb; clear hdep; simp only [fillD, fLa, fLb, sTa, sTb]
    go_wp2_with (go_at_call 9; refine (HPB.out _).mono ?_; rintro e w3 ⟨rfl, hb3⟩; dsimp only)
    exact ⟨rfl, _, rfl, (by assumption), rfl⟩
  simp only [apN, apC]
  apply draw_val
  · intro g w hb hdep; replace hL := hL.grow hb; have d0 := yv hdep 0; clear hdep; simp only [fillD, fLa, fLb, sTa, sTb]; simp only [d0]
    go_wp2
    exact cY
  simp only [apN, apC]
  apply draw_val
  · intro g w hb hdep; replace hL := hL.grow hb; have d1 := yv hdep 1; clear hdep; simp only [fillD, fLa, fLb, sTa, sTb]; simp only [d1]
    go_wp2_with (first | (with_reducible refine lld hL ?_) | (with_reducible refine ldD hL ?_))
    exact cY
  simp only [apN, apC]
  apply draw_val
  · intro g w hb hdep; replace hL := hL.grow hb; have d1 := yv hdep 1; clear hdep; simp only [fillD, fLa, fLb, sTa, sTb]; simp only [d1]
    go_wp2_with (first | (with_reducible refine lld hL ?_) | (with_reducible refine ldD hL ?_))
    exact cY
  simp only [apN, apC]
  apply draw_val
  · intro g w hb hdep; replace hL := hL.grow hb; have d2 := yv hdep 2; have d3 := yv hdep 3; have d1 := yv hdep 1; clear hdep; simp only [fillD, fLa, fLb, sTa, sTb]; simp only [d2, d3, d1]
    go_wp2_with (go_at_call 18; refine (HCK.out _ hL.below).mono ?_; rintro e w3 ⟨rfl, hb3⟩; dsimp only)
    exact ⟨rfl, _, rfl, (by assumption), rfl⟩
  simp only [apN, apC]
  apply draw_val
  · intro g w hb hdep; replace hL := hL.grow hb; have d1 := yv hdep 1; clear hdep; simp only [fillD, fLa, fLb, sTa, sTb]; simp only [d1]
    go_wp2
    exact cY
  simp only [apN, apC]
  apply draw_val
  · intro g w hb hdep; replace hL := hL.grow hb; have d4 := yv hdep 4; have d5 := yv hdep 5; have d1 := yv hdep 1; clear hdep; simp only [fillD, fLa, fLb, sTa, sTb]; simp only [d4, d5, d1]
    go_wp2
    exact cY
  simp only [apN, apC]
  apply draw_val
  · intro g w hb hdep; replace hL := hL.grow hb; have d1 := yv hdep 1; have d6 := yv hdep 6; clear hdep; simp only [fillD, fLa, fLb, sTa, sTb]; simp only [d1, d6]
    go_wp2
    exact cY
  simp only [apN, apC]
  apply draw_val
  · intro g w hb hdep; replace hL := hL.grow hb; have d7 := yv hdep 7; clear hdep; simp only [fillD, fLa, fLb, sTa, sTb]; simp only [d7]
    go_wp2
    exact cY
  simp only [apN, apC]
  apply draw_val
  · intro g w hb hdep; replace hL := hL.grow hb; have d8 := yv hdep 8; clear hdep; simp only [fillD, fLa, fLb, sTa, sTb]; simp only [d8]
    go_wp2_with (first | (with_reducible refine lld hL ?_) | (with_reducible refine ldD hL ?_))
    exact cY
  simp only [apN, apC]
  apply draw_val
  · intro g w hb hdep; replace hL := hL.grow hb; have d8 := yv hdep 8; clear hdep; simp only [fillD, fLa, fLb, sTa, sTb]; simp only [d8]
    go_wp2
    exact cY
  simp only [apN, apC]
  apply draw_val
  · intro g w hb hdep; replace hL := hL.grow hb; have d8 := yv hdep 8; clear hdep; simp only [fillD, fLa, fLb, sTa, sTb]; simp only [d8]
    go_wp2
    exact cY
  simp only [apN, apC]
  apply draw_val
  · intro g w hb hdep; replace hL := hL.grow hb; have d8 := yv hdep 8; clear hdep; simp only [fillD, fLa, fLb, sTa, sTb]; simp only [d8]
    go_wp2_with (first | (with_reducible refine lld hL ?_) | (with_reducible refine ldD hL ?_))
    exact cY
  simp only [apN, apC]
  apply draw_val
  · intro g w hb hdep; replace hL := hL.grow hb; have d9 := yv hdep 9; have d10 := yv hdep 10; have d11 := yv hdep 11; have d12 := yv hdep 12; have d8 := yv hdep 8; clear hdep; simp only [fillD, fLa, fLb, sTa, sTb]; simp only [d9, d10, d11, d12, d8]
    go_wp2_with (go_at_call 19; refine (HI1.out _ hb).mono ?_; rintro e w3 ⟨rfl, hb3⟩; dsimp only)
    exact ⟨rfl, _, rfl, (by assumption), rfl⟩
  simp only [apN, apC]
  apply draw_val
  · intro g w hb hdep; replace hL := hL.grow hb; have d8 := yv hdep 8; have d13 := yv hdep 13; clear hdep; simp only [fillD, fLa, fLb, sTa, sTb]; simp only [d8, d13]
    go_wp2
    exact cY
  simp only [apN, apC]
  apply draw_val
  · intro g w hb hdep; replace hL := hL.grow hb; have d14 := yv hdep 14; clear hdep; simp only [fillD, fLa, fLb, sTa, sTb]; simp only [d14]
    go_wp2
    exact cY
  simp only [apN, apC]
  apply draw_val
  · intro g w hb hdep; replace hL := hL.grow hb; have d15 := yv hdep 15; clear hdep; simp only [fillD, fLa, fLb, sTa, sTb]; simp only [d15]
    go_wp2_with (first | (with_reducible refine lld hL ?_) | (with_reducible refine ldD hL ?_))
    exact cY
  simp only [apN, apC]
  apply draw_val
  · intro g w hb hdep; replace hL := hL.grow hb; have d15 := yv hdep 15; clear hdep; simp only [fillD, fLa, fLb, sTa, sTb]; simp only [d15]
    go_wp2
    exact cY
  simp only [apN, apC]
  apply draw_val
  · intro g w hb hdep; replace hL := hL.grow hb; have d15 := yv hdep 15; clear hdep; simp only [fillD, fLa, fLb, sTa, sTb]; simp only [d15]
    go_wp2
    exact cY
  simp only [apN, apC]
  apply draw_val
  · intro g w hb hdep; replace hL := hL.grow hb; have d15 := yv hdep 15; clear hdep; simp only [fillD, fLa, fLb, sTa, sTb]; simp only [d15]
    go_wp2_with (first | (with_reducible refine lld hL ?_) | (with_reducible refine ldD hL ?_))
    exact cY
  simp only [apN, apC]
  apply draw_val
  · intro g w hb hdep; replace hL := hL.grow hb; have d16 := yv hdep 16; have d17 := yv hdep 17; have d18 := yv hdep 18; have d19 := yv hdep 19; have d15 := yv hdep 15; clear hdep; simp only [fillD, fLa, fLb, sTa, sTb]; simp only [d16, d17, d18, d19, d15]
    go_wp2_with (go_at_call 19; refine (HI2.out _ hb).mono ?_; rintro e w3 ⟨rfl, hb3⟩; dsimp only)
    exact ⟨rfl, _, rfl, (by assumption), rfl⟩
  simp only [apN, apC]
  apply draw_val
  · intro g w hb hdep; replace hL := hL.grow hb; have d15 := yv hdep 15; have d20 := yv hdep 20; clear hdep; simp only [fillD, fLa, fLb, sTa, sTb]; simp only [d15, d20]
    go_wp2
    exact cY
  simp only [apN, apC]
  apply draw_val
  · intro g w hb hdep; replace hL := hL.grow hb; have d21 := yv hdep 21; clear hdep; simp only [fillD, fLa, fLb, sTa, sTb]; simp only [d21]
    go_wp2
    exact cY
  simp only [apN, apC]
  apply draw_val
  · intro g w hb hdep; replace hL := hL.grow hb; have d22 := yv hdep 22; clear hdep; simp only [fillD, fLa, fLb, sTa, sTb]; simp only [d22]
    go_wp2_with (first | (with_reducible refine lld hL ?_) | (with_reducible refine ldD hL ?_))
    exact cY
  simp only [apN, apC]
  apply draw_val
  · intro g w hb hdep; replace hL := hL.grow hb; have d22 := yv hdep 22; clear hdep; simp only [fillD, fLa, fLb, sTa, sTb]; simp only [d22]
    go_wp2
    exact cY
  simp only [apN, apC]
  apply draw_val
  · intro g w hb hdep; replace hL := hL.grow hb; have d22 := yv hdep 22; clear hdep; simp only [fillD, fLa, fLb, sTa, sTb]; simp only [d22]
    go_wp2
    exact cY
  simp only [apN, apC]
  apply draw_val
  · intro g w hb hdep; replace hL := hL.grow hb; have d22 := yv hdep 22; clear hdep; simp only [fillD, fLa, fLb, sTa, sTb]; simp only [d22]
    go_wp2_with (first | (with_reducible refine lld hL ?_) | (with_reducible refine ldD hL ?_))
    exact cY
  simp only [apN, apC]
  apply draw_val
  · intro g w hb hdep; replace hL := hL.grow hb; have d23 := yv hdep 23; have d24 := yv hdep 24; have d25 := yv hdep 25; have d26 := yv hdep 26; have d22 := yv hdep 22; clear hdep; simp only [fillD, fLa, fLb, sTa, sTb]; simp only [d23, d24, d25, d26, d22]
    go_wp2_with (go_at_call 19; refine (HI3.out _ hb).mono ?_; rintro e w3 ⟨rfl, hb3⟩; dsimp only)
    exact ⟨rfl, _, rfl, (by assumption), rfl⟩
  simp only [apN, apC]
  apply draw_val
  · intro g w hb hdep; replace hL := hL.grow hb; have d22 := yv hdep 22; have d27 := yv hdep 27; clear hdep; simp only [fillD, fLa, fLb, sTa, sTb]; simp only [d22, d27]
    go_wp2
    exact cY
  simp only [apN, apC]
  apply draw_val
  · intro g w hb hdep; replace hL := hL.grow hb; have d28 := yv hdep 28; clear hdep; simp only [fillD, fLa, fLb, sTa, sTb]; simp only [d28]
    go_wp2
    exact cY
  simp only [apN, apC]
  apply draw_val
  · intro g w hb hdep; replace hL := hL.grow hb; have d29 := yv hdep 29; clear hdep; simp only [fillD, fLa, fLb, sTa, sTb]; simp only [d29]
    go_wp2
    exact cY
  simp only [apN, apC]
  apply draw_val
  · intro g w hb hdep; replace hL := hL.grow hb; have d29 := yv hdep 29; clear hdep; simp only [fillD, fLa, fLb, sTa, sTb]; simp only [d29]
    go_wp2
    exact cY
  simp only [apN, apC]
  apply draw_val
  · intro g w hb hdep; replace hL := hL.grow hb; have d30 := yv hdep 30; have d31 := yv hdep 31; have d29 := yv hdep 29; clear hdep; simp only [fillD, fLa, fLb, sTa, sTb]; simp only [d30, d31, d29]
    go_wp2
    exact cY
  simp only [apN, apC]
  apply draw_val
  · intro g w hb hdep; replace hL := hL.grow hb; have d29 := yv hdep 29; have d32 := yv hdep 32; clear hdep; simp only [fillD, fLa, fLb, sTa, sTb]; simp only [d29, d32]
    go_wp2
    exact cY
  simp only [apN, apC]
  apply draw_val
  · intro g w hb hdep; replace hL := hL.grow hb; have d33 := yv hdep 33; clear hdep; simp only [fillD, fLa, fLb, sTa, sTb]; simp only [d33]
    go_wp2
    exact cY
  simp only [apN, apC]
  apply draw_val
  · intro g w hb hdep; replace hL := hL.grow hb; have d34 := yv hdep 34; clear hdep; simp only [fillD, fLa, fLb, sTa, sTb]; simp only [d34]
    go_wp2
    exact cY
  simp only [apN, apC]
  apply draw_val
  · intro g w hb hdep; replace hL := hL.grow hb; have d34 := yv hdep 34; clear hdep; simp only [fillD, fLa, fLb, sTa, sTb]; simp only [d34]
    go_wp2
    exact cY
  simp only [apN, apC]
  apply draw_val
  · intro g w hb hdep; replace hL := hL.grow hb; have d35 := yv hdep 35; have d36 := yv hdep 36; have d34 := yv hdep 34; clear hdep; simp only [fillD, fLa, fLb, sTa, sTb]; simp only [d35, d36, d34]
    go_wp2
    exact cY
  simp only [apN, apC]
  apply draw_val
  · intro g w hb hdep; replace hL := hL.grow hb; have d34 := yv hdep 34; have d37 := yv hdep 37; clear hdep; simp only [fillD, fLa, fLb, sTa, sTb]; simp only [d34, d37]
    go_wp2
    exact cY
  simp only [apN, apC]
  apply draw_val
  · intro g w hb hdep; replace hL := hL.grow hb; have d38 := yv hdep 38; clear hdep; simp only [fillD, fLa, fLb, sTa, sTb]; simp only [d38]
    go_wp2
    exact cY
  simp only [apN, apC]
  refine seq_end hL (by kernel_rfl) ?_
  intro g w2 hb hR; simp only [List.length_cons, List.length_nil, Nat.reduceAdd] at hR
  have e0 := yv hR 0
  have e1 := yv hR 1
  have e2 := yv hR 2
  have e3 := yv hR 3
  have e4 := yv hR 4
  have e5 := yv hR 5
  have e6 := yv hR 6
  have e7 := yv hR 7
  have e8 := yv hR 8
  have e9 := yv hR 9
  have e10 := yv hR 10
  have e11 := yv hR 11
  have e12 := yv hR 12
  have e13 := yv hR 13
  have e14 := yv hR 14
  have e15 := yv hR 15
  have e16 := yv hR 16
  have e17 := yv hR 17
  have e18 := yv hR 18
  have e19 := yv hR 19
  have e20 := yv hR 20
  have e21 := yv hR 21
  have e22 := yv hR 22
  have e23 := yv hR 23
  have e24 := yv hR 24
  have e25 := yv hR 25
  have e26 := yv hR 26
  have e27 := yv hR 27
  have e28 := yv hR 28
  have e29 := yv hR 29
  have e30 := yv hR 30
  have e31 := yv hR 31
  have e32 := yv hR 32
  have e33 := yv hR 33
  have e34 := yv hR 34
  have e35 := yv hR 35
  have e36 := yv hR 36
  have e37 := yv hR 37
  have e38 := yv hR 38
  have e39 := yv hR 39
  clear hR; simp only [fillD, fLa, fLb, sTa, sTb]
  simp only [e0, e1, e2, e3, e4, e5, e6, e7, e8, e9, e10, e11, e12, e13, e14, e15, e16, e17, e18, e19, e20, e21, e22, e23, e24, e25, e26, e27, e28, e29, e30, e31, e32, e33, e34, e35, e36, e37, e38, e39]
  clear e0 e1 e2 e3 e4 e5 e6 e7 e8 e9 e10 e11 e12 e13 e14 e15 e16 e17 e18 e19 e20 e21 e22 e23 e24 e25 e26 e27 e28 e29 e30 e31 e32 e33 e34 e35 e36 e37 e38 e39
  replace hL := hL.grow hb
  clear hb
  go_wp2_with (first | (with_reducible refine lld hL ?_) | ((with_reducible first | refine lbx hL ?_ | refine lal hL ?_ | refine lbs hL ?_); clear hL; intro bl w1 hL) | ((with_reducible refine lst' hL ?_); clear hL; intro w1 hL))
  (try simp only [Exit.inBlock, Exit.then]); refine' ret1 rfl ?_ rfl ?_; (case refine'_2 => exact cRes)
  exact ⟨by simp, hL.below⟩

theorem pjoins_any (p : Pg) (is : Nat → Ins) (x y : Pv) (d e : Pd) (w : World) (hi : PicIn w p is x y d e) :
    Calls Tryz.prog 4 #[p.v, x.v, y.v] w fun q w' => q = .returned (.bool true) ∧ Below w.heap.size w w' := by
  by_cases h0 : checkProg p is = 0
  · by_cases h2 : cp2 p is d e = 0
    · exact pjoins_c p is x y d e w hi h0 h2
    · exact pjoins_b p is x y d e w hi h0 h2
  · exact pjoins_a p is x y d e w hi h0
end Go.Proofs.YtmbiooaeglpaiaaGreat
