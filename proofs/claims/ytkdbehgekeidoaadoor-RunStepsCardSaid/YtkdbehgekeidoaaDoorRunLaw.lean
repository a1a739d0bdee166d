/- The walks over the laws RunSteps and RunRuns. Conditions: what they read lies in memory that was there; the library's table of powers reads as it is laid. -/
import Derived.Test.YtkdbehgekeidoaaDoorRunBegun
set_option linter.unusedSimpArgs false
set_option linter.unusedVariables false
namespace Go.Proofs.YtkdbehgekeidoaaDoor
open Go.RowKit

/-- What comes in. -/
structure RunIn (w : World) (p : Pg) (is : Nat → Ins) (r : Rn) (s : Rs) : Prop where
  n : p.n ≤ 9223372036854775807
  c : CodeAt w p is
  r : RunIs w r s
  t : s.taken ≤ 9223372036854775807
  l : s.lines.length * 16 ≤ 140737488351232

set_option maxRecDepth 100000 in
set_option maxHeartbeats 4000000 in
theorem steps_a (p : Pg) (is : Nat → Ins) (ins : Sl) (xs : Nat → Int) (r : Rn) (s : Rs) (w : World) (h : RunIn w p is r s) (hin : InputsAt w ins xs) (hpw : Pows w) (ths : Nat → Th) (hra : RunAt w r s.val ths s.field s.line) (hth : ∀ k, k < s.things.length → (ths k).site = (s.thing k).1 ∧ (ths k).fs.n = (s.thing k).2.length)
    (hq : checkProg p is ≠ 0) :
    Calls Tryd.prog 3 #[p.v, r.v, ins.v] w fun e w' => e = .returned (.bool true) ∧ Below w.heap.size w w' := by
  have hrb := fun w' (hb : Below w.heap.size w w') => runBegun_any w' (hpw.grow hb)
  have HRB := Lib.hid (hrb)
  have hrp := fun w' (hb : Below w.heap.size w w') => rCheckProgram_any p is w' (h.c.grow hb) h.n
  have hrc := fun w' (hb : Below w.heap.size w w') => rCheckBoth_any p is r s ths w' h.n (h.c.grow hb) (hra.grow hb) hth h.r.nv h.r.nt
  have hck := fun w' (hb : Below w.heap.size w w') => runCheck_any p is r s.val ths s.field w' h.n (h.c.grow hb) (hra.l.grow hb)
  have hcr : checkRun p is r s.val ths s.field = checkProg p is := if_neg hq
  have hbg := fun w' (hb : Below w.heap.size w w') => runBegin_bad p is w' h.n (h.c.grow hb) hq
  have hst := fun w' (hb : Below w.heap.size w w') => runStep_bad p is ins r s.val ths s.field w' h.n (h.c.grow hb) (hra.l.grow hb) (by rw [hcr]; exact hq)
  rw [hcr] at hrc hck hst
  have hz := runIs_zero _ zeroR hq
  have hc1 : (checkProg p is == 0) = false := beq_eq_false_iff_ne.2 hq
  clear hq hcr h hin hpw hra hth hrb
  generalize checkProg p is = c at *
  have HRP := Lib.hid (hrp)
  have HRC := Lib.hid (hrc)
  have HCK := Lib.hid (hck)
  have HBG := Lib.hid (hbg)
  have HST := Lib.hid (hst)
  have HZ := Lib.hid (hz)
  clear hrp hrc hck hbg hst hz
  have hL := Loc.start w
  go_enter Tryd.func3, Tryd.ntmps3
  go_upto_region 3 with (first | (with_reducible refine lld hL ?_) | ((with_reducible first | refine lbx hL ?_ | refine lal hL ?_ | refine lbs hL ?_); clear hL; intro bl w1 hL) | ((with_reducible refine lst' hL ?_); clear hL; intro w1 hL) | (go_at_call 5; refine (HBG.out _ hL.below).mono ?_; rintro e w1 ⟨rfl, hb⟩; replace hL := hL.grow hb; clear hb; dsimp only) | (go_at_call 6; refine (HST.out _ hL.below).mono ?_; rintro e w1 ⟨rfl, hb⟩; replace hL := hL.grow hb; clear hb; dsimp only))
  refine draw_begin [27, 28, 29, 30, 31, 11, 12] ?_
  apply draw_val
  · intro g w hb hdep; replace hL := hL.grow hb; clear hdep; simp only [fillD, fLa, fLb, sTa, sTb]
    go_wp2_with (first | (with_reducible refine lld hL ?_) | (with_reducible refine ldD hL ?_))
    exact cY
  simp only [apN, apC]
  apply draw_val
  · intro g w hb hdep; replace hL := hL.grow hb; have d0 := yv hdep 0; clear hdep; simp only [fillD, fLa, fLb, sTa, sTb]; simp only [d0]
    go_wp2_with (go_at_call 7; refine (HRP.out _ hL.below).mono ?_; rintro e w3 ⟨rfl, hb3⟩; dsimp only)
    exact ⟨rfl, _, rfl, (by assumption), rfl⟩
  simp only [apN, apC]
  apply draw_val
  · intro g w hb hdep; replace hL := hL.grow hb; clear hdep; simp only [fillD, fLa, fLb, sTa, sTb]
    go_wp2_with (first | (with_reducible refine lld hL ?_) | (with_reducible refine ldD hL ?_))
    exact cY
  simp only [apN, apC]
  apply draw_val
  · intro g w hb hdep; replace hL := hL.grow hb; clear hdep; simp only [fillD, fLa, fLb, sTa, sTb]
    go_wp2_with (first | (with_reducible refine lld hL ?_) | (with_reducible refine ldD hL ?_))
    exact cY
  simp only [apN, apC]
  apply draw_val
  · intro g w hb hdep; replace hL := hL.grow hb; have d2 := yv hdep 2; have d3 := yv hdep 3; clear hdep; simp only [fillD, fLa, fLb, sTa, sTb]; simp only [d2, d3]
    go_wp2_with (go_at_call 8; refine (HRC.out _ hL.below).mono ?_; rintro e w3 ⟨rfl, hb3⟩; dsimp only)
    exact ⟨rfl, _, rfl, (by assumption), rfl⟩
  simp only [apN, apC]
  apply draw_val
  · intro g w hb hdep; replace hL := hL.grow hb; have d1 := yv hdep 1; clear hdep; simp only [fillD, fLa, fLb, sTa, sTb]; simp only [d1]
    go_wp2
    exact cY
  simp only [apN, apC]
  apply draw_val
  · intro g w hb hdep; replace hL := hL.grow hb; have d4 := yv hdep 4; clear hdep; simp only [fillD, fLa, fLb, sTa, sTb]; simp only [d4]
    go_wp2
    exact cY
  simp only [apN, apC]
  refine draw_end hL (by kernel_rfl) (by kernel_rfl) ?_
  intro g w2 hb hR; simp only [List.length_cons, List.length_nil, Nat.reduceAdd] at hR
  have e0 := yv hR 0
  have e1 := yv hR 1
  have e2 := yv hR 2
  have e3 := yv hR 3
  have e4 := yv hR 4
  have e5 := yv hR 5
  have e6 := yv hR 6
  clear hR; simp only [fillD, fLa, fLb, sTa, sTb]
  simp only [e0, e1, e2, e3, e4, e5, e6]
  clear e0 e1 e2 e3 e4 e5 e6
  replace hL := hL.grow hb
  clear hb
  go_upto_region 9 with (first | (with_reducible refine lld hL ?_) | ((with_reducible first | refine lbx hL ?_ | refine lal hL ?_ | refine lbs hL ?_); clear hL; intro bl w1 hL) | ((with_reducible refine lst' hL ?_); clear hL; intro w1 hL))
  have HI1 := Lib.hid (fun w' (_ : Below w1.heap.size w1 w') => HZ.out w')
  have HI2 := Lib.hid (fun w' (_ : Below w1.heap.size w1 w') => HZ.out w')
  clear HRP HRC
  refine seq_begin [42, 43, 44, 45, 46, 47, 48, 49, 50, 51, 52, 53, 54, 55, 56, 57, 58, 59, 60, 61, 62, 63, 6] ?_
  apply draw_val
  · intro g w hb hdep; replace hL := hL.grow hb; clear hdep; simp only [fillD, fLa, fLb, sTa, sTb]
    go_wp2_with (go_at_call 11; refine (HRB.out _ hL.below).mono ?_; rintro e w3 ⟨rfl, hb3⟩; dsimp only)
    exact ⟨rfl, _, rfl, (by assumption), rfl⟩
  simp only [apN, apC]
  apply draw_val
  · intro g w hb hdep; replace hL := hL.grow hb; have d0 := yv hdep 0; clear hdep; simp only [fillD, fLa, fLb, sTa, sTb]; simp only [d0]
    go_wp2
    exact cY
  simp only [apN, apC]
  apply draw_val
  · intro g w hb hdep; replace hL := hL.grow hb; have d1 := yv hdep 1; clear hdep; simp only [fillD, fLa, fLb, sTa, sTb]; simp only [d1]
    go_wp2_with (first | (with_reducible refine lld hL ?_) | (with_reducible refine ldD hL ?_))
    exact cY
  simp only [apN, apC]
  apply draw_val
  · intro g w hb hdep; replace hL := hL.grow hb; have d1 := yv hdep 1; clear hdep; simp only [fillD, fLa, fLb, sTa, sTb]; simp only [d1]
    go_wp2_with (first | (with_reducible refine lld hL ?_) | (with_reducible refine ldD hL ?_))
    exact cY
  simp only [apN, apC]
  apply draw_val
  · intro g w hb hdep; replace hL := hL.grow hb; have d2 := yv hdep 2; have d3 := yv hdep 3; have d1 := yv hdep 1; clear hdep; simp only [fillD, fLa, fLb, sTa, sTb]; simp only [d2, d3, d1]
    go_wp2_with (go_at_call 12; refine (HCK.out _ hL.below).mono ?_; rintro e w3 ⟨rfl, hb3⟩; dsimp only)
    exact ⟨rfl, _, rfl, (by assumption), rfl⟩
  simp only [apN, apC]
  apply draw_val
  · intro g w hb hdep; replace hL := hL.grow hb; have d1 := yv hdep 1; clear hdep; simp only [fillD, fLa, fLb, sTa, sTb]; simp only [d1]
    go_wp2
    exact cY
  simp only [apN, apC]
  apply draw_val
  · intro g w hb hdep; replace hL := hL.grow hb; have d4 := yv hdep 4; have d5 := yv hdep 5; have d1 := yv hdep 1; clear hdep; simp only [fillD, fLa, fLb, sTa, sTb]; simp only [d4, d5, d1]
    go_wp2
    exact cY
  simp only [apN, apC]
  apply draw_val
  · intro g w hb hdep; replace hL := hL.grow hb; have d1 := yv hdep 1; have d6 := yv hdep 6; clear hdep; simp only [fillD, fLa, fLb, sTa, sTb]; simp only [d1, d6]
    go_wp2
    exact cY
  simp only [apN, apC]
  apply draw_val
  · intro g w hb hdep; replace hL := hL.grow hb; have d7 := yv hdep 7; clear hdep; simp only [fillD, fLa, fLb, sTa, sTb]; simp only [d7]
    go_wp2
    exact cY
  simp only [apN, apC]
  apply draw_val
  · intro g w hb hdep; replace hL := hL.grow hb; have d8 := yv hdep 8; clear hdep; simp only [fillD, fLa, fLb, sTa, sTb]; simp only [d8]
    go_wp2_with (first | (with_reducible refine lld hL ?_) | (with_reducible refine ldD hL ?_))
    exact cY
  simp only [apN, apC]
  apply draw_val
  · intro g w hb hdep; replace hL := hL.grow hb; have d8 := yv hdep 8; clear hdep; simp only [fillD, fLa, fLb, sTa, sTb]; simp only [d8]
    go_wp2
    exact cY
  simp only [apN, apC]
  apply draw_val
  · intro g w hb hdep; replace hL := hL.grow hb; have d8 := yv hdep 8; clear hdep; simp only [fillD, fLa, fLb, sTa, sTb]; simp only [d8]
    go_wp2
    exact cY
  simp only [apN, apC]
  apply draw_val
  · intro g w hb hdep; replace hL := hL.grow hb; have d8 := yv hdep 8; clear hdep; simp only [fillD, fLa, fLb, sTa, sTb]; simp only [d8]
    go_wp2_with (first | (with_reducible refine lld hL ?_) | (with_reducible refine ldD hL ?_))
    exact cY
  simp only [apN, apC]
  apply draw_val
  · intro g w hb hdep; replace hL := hL.grow hb; have d9 := yv hdep 9; have d10 := yv hdep 10; have d11 := yv hdep 11; have d12 := yv hdep 12; have d8 := yv hdep 8; clear hdep; simp only [fillD, fLa, fLb, sTa, sTb]; simp only [d9, d10, d11, d12, d8]
    go_wp2_with (go_at_call 13; refine (HI1.out _ hb).mono ?_; rintro e w3 ⟨rfl, hb3⟩; dsimp only)
    exact ⟨rfl, _, rfl, (by assumption), rfl⟩
  simp only [apN, apC]
  apply draw_val
  · intro g w hb hdep; replace hL := hL.grow hb; have d8 := yv hdep 8; have d13 := yv hdep 13; clear hdep; simp only [fillD, fLa, fLb, sTa, sTb]; simp only [d8, d13]
    go_wp2
    exact cY
  simp only [apN, apC]
  apply draw_val
  · intro g w hb hdep; replace hL := hL.grow hb; have d14 := yv hdep 14; clear hdep; simp only [fillD, fLa, fLb, sTa, sTb]; simp only [d14]
    go_wp2
    exact cY
  simp only [apN, apC]
  apply draw_val
  · intro g w hb hdep; replace hL := hL.grow hb; have d15 := yv hdep 15; clear hdep; simp only [fillD, fLa, fLb, sTa, sTb]; simp only [d15]
    go_wp2_with (first | (with_reducible refine lld hL ?_) | (with_reducible refine ldD hL ?_))
    exact cY
  simp only [apN, apC]
  apply draw_val
  · intro g w hb hdep; replace hL := hL.grow hb; have d15 := yv hdep 15; clear hdep; simp only [fillD, fLa, fLb, sTa, sTb]; simp only [d15]
    go_wp2
    exact cY
  simp only [apN, apC]
  apply draw_val
  · intro g w hb hdep; replace hL := hL.grow hb; have d15 := yv hdep 15; clear hdep; simp only [fillD, fLa, fLb, sTa, sTb]; simp only [d15]
    go_wp2
    exact cY
  simp only [apN, apC]
  apply draw_val
  · intro g w hb hdep; replace hL := hL.grow hb; have d15 := yv hdep 15; clear hdep; simp only [fillD, fLa, fLb, sTa, sTb]; simp only [d15]
    go_wp2_with (first | (with_reducible refine lld hL ?_) | (with_reducible refine ldD hL ?_))
    exact cY
  simp only [apN, apC]
  apply draw_val
  · intro g w hb hdep; replace hL := hL.grow hb; have d16 := yv hdep 16; have d17 := yv hdep 17; have d18 := yv hdep 18; have d19 := yv hdep 19; have d15 := yv hdep 15; clear hdep; simp only [fillD, fLa, fLb, sTa, sTb]; simp only [d16, d17, d18, d19, d15]
    go_wp2_with (go_at_call 13; refine (HI2.out _ hb).mono ?_; rintro e w3 ⟨rfl, hb3⟩; dsimp only)
    exact ⟨rfl, _, rfl, (by assumption), rfl⟩
  simp only [apN, apC]
  apply draw_val
  · intro g w hb hdep; replace hL := hL.grow hb; have d15 := yv hdep 15; have d20 := yv hdep 20; clear hdep; simp only [fillD, fLa, fLb, sTa, sTb]; simp only [d15, d20]
    go_wp2
    exact cY
  simp only [apN, apC]
  apply draw_val
  · intro g w hb hdep; replace hL := hL.grow hb; have d21 := yv hdep 21; clear hdep; simp only [fillD, fLa, fLb, sTa, sTb]; simp only [d21]
    go_wp2
    exact cY
  simp only [apN, apC]
  refine seq_end hL (by kernel_rfl) ?_
  intro g w2 hb hR; simp only [List.length_cons, List.length_nil, Nat.reduceAdd] at hR
  have e0 := yv hR 0
  have e1 := yv hR 1
  have e2 := yv hR 2
  have e3 := yv hR 3
  have e4 := yv hR 4
  have e5 := yv hR 5
  have e6 := yv hR 6
  have e7 := yv hR 7
  have e8 := yv hR 8
  have e9 := yv hR 9
  have e10 := yv hR 10
  have e11 := yv hR 11
  have e12 := yv hR 12
  have e13 := yv hR 13
  have e14 := yv hR 14
  have e15 := yv hR 15
  have e16 := yv hR 16
  have e17 := yv hR 17
  have e18 := yv hR 18
  have e19 := yv hR 19
  have e20 := yv hR 20
  have e21 := yv hR 21
  have e22 := yv hR 22
  clear hR; simp only [fillD, fLa, fLb, sTa, sTb]
  simp only [e0, e1, e2, e3, e4, e5, e6, e7, e8, e9, e10, e11, e12, e13, e14, e15, e16, e17, e18, e19, e20, e21, e22]
  clear e0 e1 e2 e3 e4 e5 e6 e7 e8 e9 e10 e11 e12 e13 e14 e15 e16 e17 e18 e19 e20 e21 e22
  replace hL := hL.grow hb
  clear hb
  go_wp2_with (first | (with_reducible refine lld hL ?_) | ((with_reducible first | refine lbx hL ?_ | refine lal hL ?_ | refine lbs hL ?_); clear hL; intro bl w1 hL) | ((with_reducible refine lst' hL ?_); clear hL; intro w1 hL))
  (try simp only [Exit.inBlock, Exit.then]); refine' ret1 rfl ?_ rfl ?_; (case refine'_2 => exact cRes)
  exact ⟨by simp, hL.below⟩

set_option maxRecDepth 100000 in
set_option maxHeartbeats 4000000 in
theorem steps_b (p : Pg) (is : Nat → Ins) (ins : Sl) (xs : Nat → Int) (r : Rn) (s : Rs) (w : World) (h : RunIn w p is r s) (hin : InputsAt w ins xs) (hpw : Pows w) (ths : Nat → Th) (hra : RunAt w r s.val ths s.field s.line) (hth : ∀ k, k < s.things.length → (ths k).site = (s.thing k).1 ∧ (ths k).fs.n = (s.thing k).2.length)
    (hP : checkProg p is = 0) (hq : checkRun p is r s.val ths s.field ≠ 0) (n : Nat) (hpn : p.vars = n) (hn8 : n ≤ 8) :
    Calls Tryd.prog 3 #[p.v, r.v, ins.v] w fun e w' => e = .returned (.bool true) ∧ Below w.heap.size w w' := by
  have hrb := fun w' (hb : Below w.heap.size w w') => runBegun_any w' (hpw.grow hb)
  have HRB := Lib.hid (hrb)
  have hrp := fun w' (hb : Below w.heap.size w w') => rCheckProgram_any p is w' (h.c.grow hb) h.n
  have hrc := fun w' (hb : Below w.heap.size w w') => rCheckBoth_any p is r s ths w' h.n (h.c.grow hb) (hra.grow hb) hth h.r.nv h.r.nt
  have hck := fun w' (hb : Below w.heap.size w w') => runCheck_any p is r s.val ths s.field w' h.n (h.c.grow hb) (hra.l.grow hb)
  have hbg := fun w' (hb : Below w.heap.size w w') => runBegin_ok p is n w' h.n (h.c.grow hb) hP hpn hn8
  have hrg := fun w' => rBegin_any p n w' hpn hn8
  have hst := fun w' (hb : Below w.heap.size w w') => runStep_bad p is ins r s.val ths s.field w' h.n (h.c.grow hb) (hra.l.grow hb) hq
  have hz := runIs_zero _ zeroR hq
  have hc1 : (checkRun p is r s.val ths s.field == 0) = false := beq_eq_false_iff_ne.2 hq
  rw [hP] at hrp
  clear  hP hq h hin hpw hra hth hrb hpn hn8
  generalize checkRun p is r s.val ths s.field = d at *
  have HRP := Lib.hid (hrp)
  have HRC := Lib.hid (hrc)
  have HCK := Lib.hid (hck)
  have HBG := Lib.hid (hbg)
  have HRG := Lib.hid (hrg)
  have HST := Lib.hid (hst)
  have HZ := Lib.hid (hz)
  clear hrp hrc hck hbg hrg hst hz
  have hL := Loc.start w
  go_enter Tryd.func3, Tryd.ntmps3
  go_upto_region 3 with (first | (with_reducible refine lld hL ?_) | ((with_reducible first | refine lbx hL ?_ | refine lal hL ?_ | refine lbs hL ?_); clear hL; intro bl w1 hL) | ((with_reducible refine lst' hL ?_); clear hL; intro w1 hL) | (go_at_call 5; refine (HBG.out _ hL.below).mono ?_; rintro e w3 ⟨⟨ra1, rv1, rt1, rk1, rl1, re1⟩, ts1, Rv1, Rt1, Rl1, Rf1, rfl, hR1, ho1, hb3⟩; replace hL := hL.gainTail hb3 ho1; simp only [List.cons_append, List.nil_append] at hL; clear ho1 hb3; dsimp only) | (go_at_call 6; refine (HST.out _ hL.below).mono ?_; rintro e w1 ⟨rfl, hb⟩; replace hL := hL.grow hb; clear hb; dsimp only))
  refine draw_begin [27, 28, 29, 30, 31, 11, 12] ?_
  apply draw_val
  · intro g w hb hdep; replace hL := hL.grow hb; clear hdep; simp only [fillD, fLa, fLb, sTa, sTb]
    go_wp2_with (first | (with_reducible refine lld hL ?_) | (with_reducible refine ldD hL ?_))
    exact cY
  simp only [apN, apC]
  apply draw_val
  · intro g w hb hdep; replace hL := hL.grow hb; have d0 := yv hdep 0; clear hdep; simp only [fillD, fLa, fLb, sTa, sTb]; simp only [d0]
    go_wp2_with (go_at_call 7; refine (HRP.out _ hL.below).mono ?_; rintro e w3 ⟨rfl, hb3⟩; dsimp only)
    exact ⟨rfl, _, rfl, (by assumption), rfl⟩
  simp only [apN, apC]
  apply draw_val
  · intro g w hb hdep; replace hL := hL.grow hb; clear hdep; simp only [fillD, fLa, fLb, sTa, sTb]
    go_wp2_with (first | (with_reducible refine lld hL ?_) | (with_reducible refine ldD hL ?_))
    exact cY
  simp only [apN, apC]
  apply draw_val
  · intro g w hb hdep; replace hL := hL.grow hb; clear hdep; simp only [fillD, fLa, fLb, sTa, sTb]
    go_wp2_with (first | (with_reducible refine lld hL ?_) | (with_reducible refine ldD hL ?_))
    exact cY
  simp only [apN, apC]
  apply draw_val
  · intro g w hb hdep; replace hL := hL.grow hb; have d2 := yv hdep 2; have d3 := yv hdep 3; clear hdep; simp only [fillD, fLa, fLb, sTa, sTb]; simp only [d2, d3]
    go_wp2_with (go_at_call 8; refine (HRC.out _ hL.below).mono ?_; rintro e w3 ⟨rfl, hb3⟩; dsimp only)
    exact ⟨rfl, _, rfl, (by assumption), rfl⟩
  simp only [apN, apC]
  apply draw_val
  · intro g w hb hdep; replace hL := hL.grow hb; have d1 := yv hdep 1; clear hdep; simp only [fillD, fLa, fLb, sTa, sTb]; simp only [d1]
    go_wp2
    exact cY
  simp only [apN, apC]
  apply draw_val
  · intro g w hb hdep; replace hL := hL.grow hb; have d4 := yv hdep 4; clear hdep; simp only [fillD, fLa, fLb, sTa, sTb]; simp only [d4]
    go_wp2
    exact cY
  simp only [apN, apC]
  refine draw_end hL (by kernel_rfl) (by kernel_rfl) ?_
  intro g w2 hb hR; simp only [List.length_cons, List.length_nil, Nat.reduceAdd] at hR
  have e0 := yv hR 0
  have e1 := yv hR 1
  have e2 := yv hR 2
  have e3 := yv hR 3
  have e4 := yv hR 4
  have e5 := yv hR 5
  have e6 := yv hR 6
  clear hR; simp only [fillD, fLa, fLb, sTa, sTb]
  simp only [e0, e1, e2, e3, e4, e5, e6]
  clear e0 e1 e2 e3 e4 e5 e6
  replace hL := hL.grow hb
  clear hb
  go_upto_region 9 with (first | (with_reducible refine lld hL ?_) | ((with_reducible first | refine lbx hL ?_ | refine lal hL ?_ | refine lbs hL ?_); clear hL; intro bl w1 hL) | ((with_reducible refine lst' hL ?_); clear hL; intro w1 hL) | (go_at_call 9; refine (HRG.out _).mono ?_; rintro e w3 ⟨⟨ra3, rv3, rt3, rk3, rl3, re3⟩, ts3, Rv3, Rt3, Rl3, Rf3, rfl, hR3, ho3, hb3⟩; replace hL := hL.gainTail hb3 ho3; simp only [List.cons_append, List.nil_append] at hL; clear ho3 hb3; dsimp only))
  have HI1 := Lib.hid (fun w' (hb : Below w1.heap.size w1 w') => runIs_same ⟨ra1, rv1, rt1, rk1, rl1, re1⟩ ⟨ra3, rv3, rt3, rk3, rl3, re3⟩ (beginS n) w' ((hR1.is (hL.ownOf (by repeat (first | exact List.Sublist.refl _ | exact List.sublist_append_right _ _ | apply List.Sublist.cons | refine List.Sublist.trans ?_ (List.sublist_append_left _ _))))).grow hb) ((hR3.is (hL.ownOf (by repeat (first | exact List.Sublist.refl _ | exact List.sublist_append_right _ _ | apply List.Sublist.cons | refine List.Sublist.trans ?_ (List.sublist_append_left _ _))))).grow hb))
  have HI2 := Lib.hid (fun w' (_ : Below w1.heap.size w1 w') => HZ.out w')
  clear hR1 hR3
  clear HRP HRC
  refine seq_begin [42, 43, 44, 45, 46, 47, 48, 49, 50, 51, 52, 53, 54, 55, 56, 57, 58, 59, 60, 61, 62, 63, 6] ?_
  apply draw_val
  · intro g w hb hdep; replace hL := hL.grow hb; clear hdep; simp only [fillD, fLa, fLb, sTa, sTb]
    go_wp2_with (go_at_call 11; refine (HRB.out _ hL.below).mono ?_; rintro e w3 ⟨rfl, hb3⟩; dsimp only)
    exact ⟨rfl, _, rfl, (by assumption), rfl⟩
  simp only [apN, apC]
  apply draw_val
  · intro g w hb hdep; replace hL := hL.grow hb; have d0 := yv hdep 0; clear hdep; simp only [fillD, fLa, fLb, sTa, sTb]; simp only [d0]
    go_wp2
    exact cY
  simp only [apN, apC]
  apply draw_val
  · intro g w hb hdep; replace hL := hL.grow hb; have d1 := yv hdep 1; clear hdep; simp only [fillD, fLa, fLb, sTa, sTb]; simp only [d1]
    go_wp2_with (first | (with_reducible refine lld hL ?_) | (with_reducible refine ldD hL ?_))
    exact cY
  simp only [apN, apC]
  apply draw_val
  · intro g w hb hdep; replace hL := hL.grow hb; have d1 := yv hdep 1; clear hdep; simp only [fillD, fLa, fLb, sTa, sTb]; simp only [d1]
    go_wp2_with (first | (with_reducible refine lld hL ?_) | (with_reducible refine ldD hL ?_))
    exact cY
  simp only [apN, apC]
  apply draw_val
  · intro g w hb hdep; replace hL := hL.grow hb; have d2 := yv hdep 2; have d3 := yv hdep 3; have d1 := yv hdep 1; clear hdep; simp only [fillD, fLa, fLb, sTa, sTb]; simp only [d2, d3, d1]
    go_wp2_with (go_at_call 12; refine (HCK.out _ hL.below).mono ?_; rintro e w3 ⟨rfl, hb3⟩; dsimp only)
    exact ⟨rfl, _, rfl, (by assumption), rfl⟩
  simp only [apN, apC]
  apply draw_val
  · intro g w hb hdep; replace hL := hL.grow hb; have d1 := yv hdep 1; clear hdep; simp only [fillD, fLa, fLb, sTa, sTb]; simp only [d1]
    go_wp2
    exact cY
  simp only [apN, apC]
  apply draw_val
  · intro g w hb hdep; replace hL := hL.grow hb; have d4 := yv hdep 4; have d5 := yv hdep 5; have d1 := yv hdep 1; clear hdep; simp only [fillD, fLa, fLb, sTa, sTb]; simp only [d4, d5, d1]
    go_wp2
    exact cY
  simp only [apN, apC]
  apply draw_val
  · intro g w hb hdep; replace hL := hL.grow hb; have d1 := yv hdep 1; have d6 := yv hdep 6; clear hdep; simp only [fillD, fLa, fLb, sTa, sTb]; simp only [d1, d6]
    go_wp2
    exact cY
  simp only [apN, apC]
  apply draw_val
  · intro g w hb hdep; replace hL := hL.grow hb; have d7 := yv hdep 7; clear hdep; simp only [fillD, fLa, fLb, sTa, sTb]; simp only [d7]
    go_wp2
    exact cY
  simp only [apN, apC]
  apply draw_val
  · intro g w hb hdep; replace hL := hL.grow hb; have d8 := yv hdep 8; clear hdep; simp only [fillD, fLa, fLb, sTa, sTb]; simp only [d8]
    go_wp2_with (first | (with_reducible refine lld hL ?_) | (with_reducible refine ldD hL ?_))
    exact cY
  simp only [apN, apC]
  apply draw_val
  · intro g w hb hdep; replace hL := hL.grow hb; have d8 := yv hdep 8; clear hdep; simp only [fillD, fLa, fLb, sTa, sTb]; simp only [d8]
    go_wp2
    exact cY
  simp only [apN, apC]
  apply draw_val
  · intro g w hb hdep; replace hL := hL.grow hb; have d8 := yv hdep 8; clear hdep; simp only [fillD, fLa, fLb, sTa, sTb]; simp only [d8]
    go_wp2
    exact cY
  simp only [apN, apC]
  apply draw_val
  · intro g w hb hdep; replace hL := hL.grow hb; have d8 := yv hdep 8; clear hdep; simp only [fillD, fLa, fLb, sTa, sTb]; simp only [d8]
    go_wp2_with (first | (with_reducible refine lld hL ?_) | (with_reducible refine ldD hL ?_))
    exact cY
  simp only [apN, apC]
  apply draw_val
  · intro g w hb hdep; replace hL := hL.grow hb; have d9 := yv hdep 9; have d10 := yv hdep 10; have d11 := yv hdep 11; have d12 := yv hdep 12; have d8 := yv hdep 8; clear hdep; simp only [fillD, fLa, fLb, sTa, sTb]; simp only [d9, d10, d11, d12, d8]
    go_wp2_with (go_at_call 13; refine (HI1.out _ hb).mono ?_; rintro e w3 ⟨rfl, hb3⟩; dsimp only)
    exact ⟨rfl, _, rfl, (by assumption), rfl⟩
  simp only [apN, apC]
  apply draw_val
  · intro g w hb hdep; replace hL := hL.grow hb; have d8 := yv hdep 8; have d13 := yv hdep 13; clear hdep; simp only [fillD, fLa, fLb, sTa, sTb]; simp only [d8, d13]
    go_wp2
    exact cY
  simp only [apN, apC]
  apply draw_val
  · intro g w hb hdep; replace hL := hL.grow hb; have d14 := yv hdep 14; clear hdep; simp only [fillD, fLa, fLb, sTa, sTb]; simp only [d14]
    go_wp2
    exact cY
  simp only [apN, apC]
  apply draw_val
  · intro g w hb hdep; replace hL := hL.grow hb; have d15 := yv hdep 15; clear hdep; simp only [fillD, fLa, fLb, sTa, sTb]; simp only [d15]
    go_wp2_with (first | (with_reducible refine lld hL ?_) | (with_reducible refine ldD hL ?_))
    exact cY
  simp only [apN, apC]
  apply draw_val
  · intro g w hb hdep; replace hL := hL.grow hb; have d15 := yv hdep 15; clear hdep; simp only [fillD, fLa, fLb, sTa, sTb]; simp only [d15]
    go_wp2
    exact cY
  simp only [apN, apC]
  apply draw_val
  · intro g w hb hdep; replace hL := hL.grow hb; have d15 := yv hdep 15; clear hdep; simp only [fillD, fLa, fLb, sTa, sTb]; simp only [d15]
    go_wp2
    exact cY
  simp only [apN, apC]
  apply draw_val
  · intro g w hb hdep; replace hL := hL.grow hb; have d15 := yv hdep 15; clear hdep; simp only [fillD, fLa, fLb, sTa, sTb]; simp only [d15]
    go_wp2_with (first | (with_reducible refine lld hL ?_) | (with_reducible refine ldD hL ?_))
    exact cY
  simp only [apN, apC]
  apply draw_val
  · intro g w hb hdep; replace hL := hL.grow hb; have d16 := yv hdep 16; have d17 := yv hdep 17; have d18 := yv hdep 18; have d19 := yv hdep 19; have d15 := yv hdep 15; clear hdep; simp only [fillD, fLa, fLb, sTa, sTb]; simp only [d16, d17, d18, d19, d15]
    go_wp2_with (go_at_call 13; refine (HI2.out _ hb).mono ?_; rintro e w3 ⟨rfl, hb3⟩; dsimp only)
    exact ⟨rfl, _, rfl, (by assumption), rfl⟩
  simp only [apN, apC]
  apply draw_val
  · intro g w hb hdep; replace hL := hL.grow hb; have d15 := yv hdep 15; have d20 := yv hdep 20; clear hdep; simp only [fillD, fLa, fLb, sTa, sTb]; simp only [d15, d20]
    go_wp2
    exact cY
  simp only [apN, apC]
  apply draw_val
  · intro g w hb hdep; replace hL := hL.grow hb; have d21 := yv hdep 21; clear hdep; simp only [fillD, fLa, fLb, sTa, sTb]; simp only [d21]
    go_wp2
    exact cY
  simp only [apN, apC]
  refine seq_end hL (by kernel_rfl) ?_
  intro g w2 hb hR; simp only [List.length_cons, List.length_nil, Nat.reduceAdd] at hR
  have e0 := yv hR 0
  have e1 := yv hR 1
  have e2 := yv hR 2
  have e3 := yv hR 3
  have e4 := yv hR 4
  have e5 := yv hR 5
  have e6 := yv hR 6
  have e7 := yv hR 7
  have e8 := yv hR 8
  have e9 := yv hR 9
  have e10 := yv hR 10
  have e11 := yv hR 11
  have e12 := yv hR 12
  have e13 := yv hR 13
  have e14 := yv hR 14
  have e15 := yv hR 15
  have e16 := yv hR 16
  have e17 := yv hR 17
  have e18 := yv hR 18
  have e19 := yv hR 19
  have e20 := yv hR 20
  have e21 := yv hR 21
  have e22 := yv hR 22
  clear hR; simp only [fillD, fLa, fLb, sTa, sTb]
  simp only [e0, e1, e2, e3, e4, e5, e6, e7, e8, e9, e10, e11, e12, e13, e14, e15, e16, e17, e18, e19, e20, e21, e22]
  clear e0 e1 e2 e3 e4 e5 e6 e7 e8 e9 e10 e11 e12 e13 e14 e15 e16 e17 e18 e19 e20 e21 e22
  replace hL := hL.grow hb
  clear hb
  go_wp2_with (first | (with_reducible refine lld hL ?_) | ((with_reducible first | refine lbx hL ?_ | refine lal hL ?_ | refine lbs hL ?_); clear hL; intro bl w1 hL) | ((with_reducible refine lst' hL ?_); clear hL; intro w1 hL))
  (try simp only [Exit.inBlock, Exit.then]); refine' ret1 rfl ?_ rfl ?_; (case refine'_2 => exact cRes)
  exact ⟨by simp, hL.below⟩

set_option maxRecDepth 100000 in
set_option maxHeartbeats 4000000 in
theorem steps_c (p : Pg) (is : Nat → Ins) (ins : Sl) (xs : Nat → Int) (r : Rn) (s : Rs) (w : World) (h : RunIn w p is r s) (hin : InputsAt w ins xs) (hpw : Pows w) (ths : Nat → Th) (hra : RunAt w r s.val ths s.field s.line) (hth : ∀ k, k < s.things.length → (ths k).site = (s.thing k).1 ∧ (ths k).fs.n = (s.thing k).2.length)
    (hP : checkProg p is = 0) (hq : checkRun p is r s.val ths s.field = 0) (n : Nat) (hpn : p.vars = n) (hn8 : n ≤ 8) :
    Calls Tryd.prog 3 #[p.v, r.v, ins.v] w fun e w' => e = .returned (.bool true) ∧ Below w.heap.size w w' := by
  have hrb := fun w' (hb : Below w.heap.size w w') => runBegun_any w' (hpw.grow hb)
  have HRB := Lib.hid (hrb)
  have hrp := fun w' (hb : Below w.heap.size w w') => rCheckProgram_any p is w' (h.c.grow hb) h.n
  have hrc := fun w' (hb : Below w.heap.size w w') => rCheckBoth_any p is r s ths w' h.n (h.c.grow hb) (hra.grow hb) hth h.r.nv h.r.nt
  have hck := fun w' (hb : Below w.heap.size w w') => runCheck_any p is r s.val ths s.field w' h.n (h.c.grow hb) (hra.l.grow hb)
  have hbg := fun w' (hb : Below w.heap.size w w') => runBegin_ok p is n w' h.n (h.c.grow hb) hP hpn hn8
  have hrg := fun w' => rBegin_any p n w' hpn hn8
  have hR : RightS p s := right_of (by rw [checkRun, if_pos hP] at hq; exact hq) h.r.a h.r.t h.r.nv h.r.nt (fun k hk => (hth k hk).2) h.t
  have hst := fun w' (hb : Below w.heap.size w w') => runStep_ok p is ins xs r s s.val ths s.field w' h.n (h.c.grow hb) (hra.l.grow hb) hq (h.r.grow hb) hR hP ⟨hin.1.grow hb, hin.2⟩ h.l (hpw.grow hb)
  have hrs := fun w' (hb : Below w.heap.size w w') => rstep_all p is ins xs r s w' (h.r.grow hb) hR hP (h.c.grow hb) ⟨hin.1.grow hb, hin.2⟩ h.l
  rw [hq] at hrc hck
  rw [hP] at hrp
  clear hR hP hq h hin hpw hra hth hrb hpn hn8
  have HRP := Lib.hid (hrp)
  have HRC := Lib.hid (hrc)
  have HCK := Lib.hid (hck)
  have HBG := Lib.hid (hbg)
  have HRG := Lib.hid (hrg)
  have HST := Lib.hid (hst)
  have HRS := Lib.hid (hrs)
  clear hrp hrc hck hbg hrg hst hrs
  have hL := Loc.start w
  go_enter Tryd.func3, Tryd.ntmps3
  go_upto_region 3 with (first | (with_reducible refine lld hL ?_) | ((with_reducible first | refine lbx hL ?_ | refine lal hL ?_ | refine lbs hL ?_); clear hL; intro bl w1 hL) | ((with_reducible refine lst' hL ?_); clear hL; intro w1 hL) | (go_at_call 5; refine (HBG.out _ hL.below).mono ?_; rintro e w3 ⟨⟨ra1, rv1, rt1, rk1, rl1, re1⟩, ts1, Rv1, Rt1, Rl1, Rf1, rfl, hR1, ho1, hb3⟩; replace hL := hL.gainTail hb3 ho1; simp only [List.cons_append, List.nil_append] at hL; clear ho1 hb3; dsimp only) | (go_at_call 6; refine (HST.out _ hL.below).mono ?_; rintro e w3 ⟨⟨ra2, rv2, rt2, rk2, rl2, re2⟩, ts2, Rv2, Rt2, Rl2, Rf2, rfl, hR2, ho2, hb3⟩; replace hL := hL.gainTail hb3 ho2; simp only [List.cons_append, List.nil_append] at hL; clear ho2 hb3; dsimp only))
  refine draw_begin [27, 28, 29, 30, 31, 11, 12] ?_
  apply draw_val
  · intro g w hb hdep; replace hL := hL.grow hb; clear hdep; simp only [fillD, fLa, fLb, sTa, sTb]
    go_wp2_with (first | (with_reducible refine lld hL ?_) | (with_reducible refine ldD hL ?_))
    exact cY
  simp only [apN, apC]
  apply draw_val
  · intro g w hb hdep; replace hL := hL.grow hb; have d0 := yv hdep 0; clear hdep; simp only [fillD, fLa, fLb, sTa, sTb]; simp only [d0]
    go_wp2_with (go_at_call 7; refine (HRP.out _ hL.below).mono ?_; rintro e w3 ⟨rfl, hb3⟩; dsimp only)
    exact ⟨rfl, _, rfl, (by assumption), rfl⟩
  simp only [apN, apC]
  apply draw_val
  · intro g w hb hdep; replace hL := hL.grow hb; clear hdep; simp only [fillD, fLa, fLb, sTa, sTb]
    go_wp2_with (first | (with_reducible refine lld hL ?_) | (with_reducible refine ldD hL ?_))
    exact cY
  simp only [apN, apC]
  apply draw_val
  · intro g w hb hdep; replace hL := hL.grow hb; clear hdep; simp only [fillD, fLa, fLb, sTa, sTb]
    go_wp2_with (first | (with_reducible refine lld hL ?_) | (with_reducible refine ldD hL ?_))
    exact cY
  simp only [apN, apC]
  apply draw_val
  · intro g w hb hdep; replace hL := hL.grow hb; have d2 := yv hdep 2; have d3 := yv hdep 3; clear hdep; simp only [fillD, fLa, fLb, sTa, sTb]; simp only [d2, d3]
    go_wp2_with (go_at_call 8; refine (HRC.out _ hL.below).mono ?_; rintro e w3 ⟨rfl, hb3⟩; dsimp only)
    exact ⟨rfl, _, rfl, (by assumption), rfl⟩
  simp only [apN, apC]
  apply draw_val
  · intro g w hb hdep; replace hL := hL.grow hb; have d1 := yv hdep 1; clear hdep; simp only [fillD, fLa, fLb, sTa, sTb]; simp only [d1]
    go_wp2
    exact cY
  simp only [apN, apC]
  apply draw_val
  · intro g w hb hdep; replace hL := hL.grow hb; have d4 := yv hdep 4; clear hdep; simp only [fillD, fLa, fLb, sTa, sTb]; simp only [d4]
    go_wp2
    exact cY
  simp only [apN, apC]
  refine draw_end hL (by kernel_rfl) (by kernel_rfl) ?_
  intro g w2 hb hR; simp only [List.length_cons, List.length_nil, Nat.reduceAdd] at hR
  have e0 := yv hR 0
  have e1 := yv hR 1
  have e2 := yv hR 2
  have e3 := yv hR 3
  have e4 := yv hR 4
  have e5 := yv hR 5
  have e6 := yv hR 6
  clear hR; simp only [fillD, fLa, fLb, sTa, sTb]
  simp only [e0, e1, e2, e3, e4, e5, e6]
  clear e0 e1 e2 e3 e4 e5 e6
  replace hL := hL.grow hb
  clear hb
  go_upto_region 9 with (first | (with_reducible refine lld hL ?_) | ((with_reducible first | refine lbx hL ?_ | refine lal hL ?_ | refine lbs hL ?_); clear hL; intro bl w1 hL) | ((with_reducible refine lst' hL ?_); clear hL; intro w1 hL) | (go_at_call 9; refine (HRG.out _).mono ?_; rintro e w3 ⟨⟨ra3, rv3, rt3, rk3, rl3, re3⟩, ts3, Rv3, Rt3, Rl3, Rf3, rfl, hR3, ho3, hb3⟩; replace hL := hL.gainTail hb3 ho3; simp only [List.cons_append, List.nil_append] at hL; clear ho3 hb3; dsimp only) | (go_at_call 10; refine (HRS.out _ hL.below).mono ?_; rintro e w3 ⟨⟨ra4, rv4, rt4, rk4, rl4, re4⟩, ts4, Rv4, Rt4, Rl4, Rf4, rfl, hR4, ho4, hb3⟩; replace hL := hL.gainTail hb3 ho4; simp only [List.cons_append, List.nil_append] at hL; clear ho4 hb3; dsimp only))
  have HI1 := Lib.hid (fun w' (hb : Below w1.heap.size w1 w') => runIs_same ⟨ra1, rv1, rt1, rk1, rl1, re1⟩ ⟨ra3, rv3, rt3, rk3, rl3, re3⟩ (beginS n) w' ((hR1.is (hL.ownOf (by repeat (first | exact List.Sublist.refl _ | exact List.sublist_append_right _ _ | apply List.Sublist.cons | refine List.Sublist.trans ?_ (List.sublist_append_left _ _))))).grow hb) ((hR3.is (hL.ownOf (by repeat (first | exact List.Sublist.refl _ | exact List.sublist_append_right _ _ | apply List.Sublist.cons | refine List.Sublist.trans ?_ (List.sublist_append_left _ _))))).grow hb))
  have HI2 := Lib.hid (fun w' (hb : Below w1.heap.size w1 w') => runIs_same ⟨ra2, rv2, rt2, rk2, rl2, re2⟩ ⟨ra4, rv4, rt4, rk4, rl4, re4⟩ (stepS p is ins xs s) w' ((hR2.is (hL.ownOf (by repeat (first | exact List.Sublist.refl _ | exact List.sublist_append_right _ _ | apply List.Sublist.cons | refine List.Sublist.trans ?_ (List.sublist_append_left _ _))))).grow hb) ((hR4.is (hL.ownOf (by repeat (first | exact List.Sublist.refl _ | exact List.sublist_append_right _ _ | apply List.Sublist.cons | refine List.Sublist.trans ?_ (List.sublist_append_left _ _))))).grow hb))
  clear hR1 hR2 hR3 hR4
  clear HRP HRC
  refine seq_begin [42, 43, 44, 45, 46, 47, 48, 49, 50, 51, 52, 53, 54, 55, 56, 57, 58, 59, 60, 61, 62, 63, 6] ?_
  apply draw_val
  · intro g w hb hdep; replace hL := hL.grow hb; clear hdep; simp only [fillD, fLa, fLb, sTa, sTb]
    go_wp2_with (go_at_call 11; refine (HRB.out _ hL.below).mono ?_; rintro e w3 ⟨rfl, hb3⟩; dsimp only)
    exact ⟨rfl, _, rfl, (by assumption), rfl⟩
  simp only [apN, apC]
  apply draw_val
  · intro g w hb hdep; replace hL := hL.grow hb; have d0 := yv hdep 0; clear hdep; simp only [fillD, fLa, fLb, sTa, sTb]; simp only [d0]
    go_wp2
    exact cY
  simp only [apN, apC]
  apply draw_val
  · intro g w hb hdep; replace hL := hL.grow hb; have d1 := yv hdep 1; clear hdep; simp only [fillD, fLa, fLb, sTa, sTb]; simp only [d1]
    go_wp2_with (first | (with_reducible refine lld hL ?_) | (with_reducible refine ldD hL ?_))
    exact cY
  simp only [apN, apC]
  apply draw_val
  · intro g w hb hdep; replace hL := hL.grow hb; have d1 := yv hdep 1; clear hdep; simp only [fillD, fLa, fLb, sTa, sTb]; simp only [d1]
    go_wp2_with (first | (with_reducible refine lld hL ?_) | (with_reducible refine ldD hL ?_))
    exact cY
  simp only [apN, apC]
  apply draw_val
  · intro g w hb hdep; replace hL := hL.grow hb; have d2 := yv hdep 2; have d3 := yv hdep 3; have d1 := yv hdep 1; clear hdep; simp only [fillD, fLa, fLb, sTa, sTb]; simp only [d2, d3, d1]
    go_wp2_with (go_at_call 12; refine (HCK.out _ hL.below).mono ?_; rintro e w3 ⟨rfl, hb3⟩; dsimp only)
    exact ⟨rfl, _, rfl, (by assumption), rfl⟩
  simp only [apN, apC]
  apply draw_val
  · intro g w hb hdep; replace hL := hL.grow hb; have d1 := yv hdep 1; clear hdep; simp only [fillD, fLa, fLb, sTa, sTb]; simp only [d1]
    go_wp2
    exact cY
  simp only [apN, apC]
  apply draw_val
  · intro g w hb hdep; replace hL := hL.grow hb; have d4 := yv hdep 4; have d5 := yv hdep 5; have d1 := yv hdep 1; clear hdep; simp only [fillD, fLa, fLb, sTa, sTb]; simp only [d4, d5, d1]
    go_wp2
    exact cY
  simp only [apN, apC]
  apply draw_val
  · intro g w hb hdep; replace hL := hL.grow hb; have d1 := yv hdep 1; have d6 := yv hdep 6; clear hdep; simp only [fillD, fLa, fLb, sTa, sTb]; simp only [d1, d6]
    go_wp2
    exact cY
  simp only [apN, apC]
  apply draw_val
  · intro g w hb hdep; replace hL := hL.grow hb; have d7 := yv hdep 7; clear hdep; simp only [fillD, fLa, fLb, sTa, sTb]; simp only [d7]
    go_wp2
    exact cY
  simp only [apN, apC]
  apply draw_val
  · intro g w hb hdep; replace hL := hL.grow hb; have d8 := yv hdep 8; clear hdep; simp only [fillD, fLa, fLb, sTa, sTb]; simp only [d8]
    go_wp2_with (first | (with_reducible refine lld hL ?_) | (with_reducible refine ldD hL ?_))
    exact cY
  simp only [apN, apC]
  apply draw_val
  · intro g w hb hdep; replace hL := hL.grow hb; have d8 := yv hdep 8; clear hdep; simp only [fillD, fLa, fLb, sTa, sTb]; simp only [d8]
    go_wp2
    exact cY
  simp only [apN, apC]
  apply draw_val
  · intro g w hb hdep; replace hL := hL.grow hb; have d8 := yv hdep 8; clear hdep; simp only [fillD, fLa, fLb, sTa, sTb]; simp only [d8]
    go_wp2
    exact cY
  simp only [apN, apC]
  apply draw_val
  · intro g w hb hdep; replace hL := hL.grow hb; have d8 := yv hdep 8; clear hdep; simp only [fillD, fLa, fLb, sTa, sTb]; simp only [d8]
    go_wp2_with (first | (with_reducible refine lld hL ?_) | (with_reducible refine ldD hL ?_))
    exact cY
  simp only [apN, apC]
  apply draw_val
  · intro g w hb hdep; replace hL := hL.grow hb; have d9 := yv hdep 9; have d10 := yv hdep 10; have d11 := yv hdep 11; have d12 := yv hdep 12; have d8 := yv hdep 8; clear hdep; simp only [fillD, fLa, fLb, sTa, sTb]; simp only [d9, d10, d11, d12, d8]
    go_wp2_with (go_at_call 13; refine (HI1.out _ hb).mono ?_; rintro e w3 ⟨rfl, hb3⟩; dsimp only)
    exact ⟨rfl, _, rfl, (by assumption), rfl⟩
  simp only [apN, apC]
  apply draw_val
  · intro g w hb hdep; replace hL := hL.grow hb; have d8 := yv hdep 8; have d13 := yv hdep 13; clear hdep; simp only [fillD, fLa, fLb, sTa, sTb]; simp only [d8, d13]
    go_wp2
    exact cY
  simp only [apN, apC]
  apply draw_val
  · intro g w hb hdep; replace hL := hL.grow hb; have d14 := yv hdep 14; clear hdep; simp only [fillD, fLa, fLb, sTa, sTb]; simp only [d14]
    go_wp2
    exact cY
  simp only [apN, apC]
  apply draw_val
  · intro g w hb hdep; replace hL := hL.grow hb; have d15 := yv hdep 15; clear hdep; simp only [fillD, fLa, fLb, sTa, sTb]; simp only [d15]
    go_wp2_with (first | (with_reducible refine lld hL ?_) | (with_reducible refine ldD hL ?_))
    exact cY
  simp only [apN, apC]
  apply draw_val
  · intro g w hb hdep; replace hL := hL.grow hb; have d15 := yv hdep 15; clear hdep; simp only [fillD, fLa, fLb, sTa, sTb]; simp only [d15]
    go_wp2
    exact cY
  simp only [apN, apC]
  apply draw_val
  · intro g w hb hdep; replace hL := hL.grow hb; have d15 := yv hdep 15; clear hdep; simp only [fillD, fLa, fLb, sTa, sTb]; simp only [d15]
    go_wp2
    exact cY
  simp only [apN, apC]
  apply draw_val
  · intro g w hb hdep; replace hL := hL.grow hb; have d15 := yv hdep 15; clear hdep; simp only [fillD, fLa, fLb, sTa, sTb]; simp only [d15]
    go_wp2_with (first | (with_reducible refine lld hL ?_) | (with_reducible refine ldD hL ?_))
    exact cY
  simp only [apN, apC]
  apply draw_val
  · intro g w hb hdep; replace hL := hL.grow hb; have d16 := yv hdep 16; have d17 := yv hdep 17; have d18 := yv hdep 18; have d19 := yv hdep 19; have d15 := yv hdep 15; clear hdep; simp only [fillD, fLa, fLb, sTa, sTb]; simp only [d16, d17, d18, d19, d15]
    go_wp2_with (go_at_call 13; refine (HI2.out _ hb).mono ?_; rintro e w3 ⟨rfl, hb3⟩; dsimp only)
    exact ⟨rfl, _, rfl, (by assumption), rfl⟩
  simp only [apN, apC]
  apply draw_val
  · intro g w hb hdep; replace hL := hL.grow hb; have d15 := yv hdep 15; have d20 := yv hdep 20; clear hdep; simp only [fillD, fLa, fLb, sTa, sTb]; simp only [d15, d20]
    go_wp2
    exact cY
  simp only [apN, apC]
  apply draw_val
  · intro g w hb hdep; replace hL := hL.grow hb; have d21 := yv hdep 21; clear hdep; simp only [fillD, fLa, fLb, sTa, sTb]; simp only [d21]
    go_wp2
    exact cY
  simp only [apN, apC]
  refine seq_end hL (by kernel_rfl) ?_
  intro g w2 hb hR; simp only [List.length_cons, List.length_nil, Nat.reduceAdd] at hR
  have e0 := yv hR 0
  have e1 := yv hR 1
  have e2 := yv hR 2
  have e3 := yv hR 3
  have e4 := yv hR 4
  have e5 := yv hR 5
  have e6 := yv hR 6
  have e7 := yv hR 7
  have e8 := yv hR 8
  have e9 := yv hR 9
  have e10 := yv hR 10
  have e11 := yv hR 11
  have e12 := yv hR 12
  have e13 := yv hR 13
  have e14 := yv hR 14
  have e15 := yv hR 15
  have e16 := yv hR 16
  have e17 := yv hR 17
  have e18 := yv hR 18
  have e19 := yv hR 19
  have e20 := yv hR 20
  have e21 := yv hR 21
  have e22 := yv hR 22
  clear hR; simp only [fillD, fLa, fLb, sTa, sTb]
  simp only [e0, e1, e2, e3, e4, e5, e6, e7, e8, e9, e10, e11, e12, e13, e14, e15, e16, e17, e18, e19, e20, e21, e22]
  clear e0 e1 e2 e3 e4 e5 e6 e7 e8 e9 e10 e11 e12 e13 e14 e15 e16 e17 e18 e19 e20 e21 e22
  replace hL := hL.grow hb
  clear hb
  go_wp2_with (first | (with_reducible refine lld hL ?_) | ((with_reducible first | refine lbx hL ?_ | refine lal hL ?_ | refine lbs hL ?_); clear hL; intro bl w1 hL) | ((with_reducible refine lst' hL ?_); clear hL; intro w1 hL))
  (try simp only [Exit.inBlock, Exit.then]); refine' ret1 rfl ?_ rfl ?_; (case refine'_2 => exact cRes)
  exact ⟨by simp, hL.below⟩

theorem steps_any (p : Pg) (is : Nat → Ins) (ins : Sl) (xs : Nat → Int) (r : Rn) (s : Rs) (w : World) (h : RunIn w p is r s) (hin : InputsAt w ins xs) (hpw : Pows w) :
    Calls Tryd.prog 3 #[p.v, r.v, ins.v] w fun e w' => e = .returned (.bool true) ∧ Below w.heap.size w w' := by
  obtain ⟨ths, h1, h2⟩ := h.r.ex
  by_cases hP : checkProg p is = 0
  · have hs := (prog_right hP).1
    have hn : p.vars = (p.vars.toNat : Nat) := by have := hs.v1; omega
    have hn8 : p.vars.toNat ≤ 8 := by have := hs.v2; omega
    by_cases hq : checkRun p is r s.val ths s.field = 0
    · exact steps_c p is ins xs r s w h hin hpw ths h1 h2 hP hq _ hn hn8
    · exact steps_b p is ins xs r s w h hin hpw ths h1 h2 hP hq _ hn hn8
  · exact steps_a p is ins xs r s w h hin hpw ths h1 h2 hP
end Go.Proofs.YtkdbehgekeidoaaDoor
