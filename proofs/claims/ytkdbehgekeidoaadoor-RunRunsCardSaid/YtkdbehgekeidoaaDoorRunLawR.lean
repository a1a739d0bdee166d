/- The walk over the law RunRuns. Conditions: what it reads lies in memory that was there; the library's table of powers reads as it is laid. -/
import Derived.Test.YtkdbehgekeidoaaDoorRunBegun
set_option linter.unusedSimpArgs false
set_option linter.unusedVariables false
namespace Go.Proofs.YtkdbehgekeidoaaDoor
open Go.RowKit

set_option maxRecDepth 100000 in
set_option maxHeartbeats 4000000 in
theorem runs_a (p : Pg) (is : Nat → Ins) (ins : Sl) (xs : Nat → Int) (fuel : Int) (w : World) (hn : p.n ≤ 9223372036854775807) (hc : CodeAt w p is) (hin : InputsAt w ins xs) (hpw : Pows w)
    (hq : checkProg p is ≠ 0) :
    Calls Tryd.prog 4 #[p.v, ins.v, .int .i64 fuel] w fun e w' => e = .returned (.bool true) ∧ Below w.heap.size w w' := by
  have hrb := fun w' (hb : Below w.heap.size w w') => runBegun_any w' (hpw.grow hb)
  have hrp := fun w' (hb : Below w.heap.size w w') => rCheckProgram_any p is w' (hc.grow hb) hn
  have hru := fun w' (hb : Below w.heap.size w w') => runRun_bad p is ins fuel w' hn (hc.grow hb) hq
  have hz := runIs_zero _ zeroR hq
  have hc1 : (checkProg p is == 0) = false := beq_eq_false_iff_ne.2 hq
  clear hq hc hn hin hpw
  generalize checkProg p is = c at *
  have HRB := Lib.hid (hrb)
  have HRP := Lib.hid (hrp)
  have HRU := Lib.hid (hru)
  have HZ := Lib.hid (hz)
  clear hrb hrp hru hz
  have hL := Loc.start w
  go_enter Tryd.func4, Tryd.ntmps4
  go_upto_region 9 with (first | (with_reducible refine lld hL ?_) | ((with_reducible first | refine lbx hL ?_ | refine lal hL ?_ | refine lbs hL ?_); clear hL; intro bl w1 hL) | ((with_reducible refine lst' hL ?_); clear hL; intro w1 hL) | (go_at_call 14; refine (HRU.out _ hL.below).mono ?_; rintro e w1 ⟨rfl, hb⟩; replace hL := hL.grow hb; clear hb; dsimp only) | (go_at_call 7; refine (HRP.out _ hL.below).mono ?_; rintro e w1 ⟨rfl, hb⟩; replace hL := hL.grow hb; clear hb; dsimp only))
  have HI1 := Lib.hid (fun w' (_ : Below w1.heap.size w1 w') => HZ.out w')
  refine seq_begin [42, 43, 44, 45, 46, 47, 48, 49, 50, 51, 52, 53, 54, 6] ?_
  apply draw_val
  · intro g w hb hdep; replace hL := hL.grow hb; clear hdep; simp only [fillD, fLa, fLb, sTa, sTb]
    go_wp2_with (go_at_call 11; refine (HRB.out _ hL.below).mono ?_; rintro e w3 ⟨rfl, hb3⟩; dsimp only)
    exact ⟨rfl, _, rfl, (by assumption), rfl⟩
  simp only [apN, apC]
  apply draw_val
  · intro g w hb hdep; replace hL := hL.grow hb; have d0 := yv hdep 0; clear hdep; simp only [fillD, fLa, fLb, sTa, sTb]; simp only [d0]
    go_wp2
    exact cY
  simp only [apN, apC]
  apply draw_val
  · intro g w hb hdep; replace hL := hL.grow hb; have d1 := yv hdep 1; clear hdep; simp only [fillD, fLa, fLb, sTa, sTb]; simp only [d1]
    go_wp2_with (first | (with_reducible refine lld hL ?_) | (with_reducible refine ldD hL ?_))
    exact cY
  simp only [apN, apC]
  apply draw_val
  · intro g w hb hdep; replace hL := hL.grow hb; have d1 := yv hdep 1; clear hdep; simp only [fillD, fLa, fLb, sTa, sTb]; simp only [d1]
    go_wp2
    exact cY
  simp only [apN, apC]
  apply draw_val
  · intro g w hb hdep; replace hL := hL.grow hb; have d1 := yv hdep 1; clear hdep; simp only [fillD, fLa, fLb, sTa, sTb]; simp only [d1]
    go_wp2
    exact cY
  simp only [apN, apC]
  apply draw_val
  · intro g w hb hdep; replace hL := hL.grow hb; have d1 := yv hdep 1; clear hdep; simp only [fillD, fLa, fLb, sTa, sTb]; simp only [d1]
    go_wp2_with (first | (with_reducible refine lld hL ?_) | (with_reducible refine ldD hL ?_))
    exact cY
  simp only [apN, apC]
  apply draw_val
  · intro g w hb hdep; replace hL := hL.grow hb; have d2 := yv hdep 2; have d3 := yv hdep 3; have d4 := yv hdep 4; have d5 := yv hdep 5; have d1 := yv hdep 1; clear hdep; simp only [fillD, fLa, fLb, sTa, sTb]; simp only [d2, d3, d4, d5, d1]
    go_wp2_with (go_at_call 13; refine (HI1.out _ hb).mono ?_; rintro e w3 ⟨rfl, hb3⟩; dsimp only)
    exact ⟨rfl, _, rfl, (by assumption), rfl⟩
  simp only [apN, apC]
  apply draw_val
  · intro g w hb hdep; replace hL := hL.grow hb; have d1 := yv hdep 1; have d6 := yv hdep 6; clear hdep; simp only [fillD, fLa, fLb, sTa, sTb]; simp only [d1, d6]
    go_wp2
    exact cY
  simp only [apN, apC]
  apply draw_val
  · intro g w hb hdep; replace hL := hL.grow hb; have d7 := yv hdep 7; clear hdep; simp only [fillD, fLa, fLb, sTa, sTb]; simp only [d7]
    go_wp2
    exact cY
  simp only [apN, apC]
  apply draw_val
  · intro g w hb hdep; replace hL := hL.grow hb; have d8 := yv hdep 8; clear hdep; simp only [fillD, fLa, fLb, sTa, sTb]; simp only [d8]
    go_wp2
    exact cY
  simp only [apN, apC]
  apply draw_val
  · intro g w hb hdep; replace hL := hL.grow hb; have d8 := yv hdep 8; clear hdep; simp only [fillD, fLa, fLb, sTa, sTb]; simp only [d8]
    go_wp2
    exact cY
  simp only [apN, apC]
  apply draw_val
  · intro g w hb hdep; replace hL := hL.grow hb; have d9 := yv hdep 9; have d10 := yv hdep 10; have d8 := yv hdep 8; clear hdep; simp only [fillD, fLa, fLb, sTa, sTb]; simp only [d9, d10, d8]
    go_wp2
    exact cY
  simp only [apN, apC]
  apply draw_val
  · intro g w hb hdep; replace hL := hL.grow hb; have d8 := yv hdep 8; have d11 := yv hdep 11; clear hdep; simp only [fillD, fLa, fLb, sTa, sTb]; simp only [d8, d11]
    go_wp2
    exact cY
  simp only [apN, apC]
  apply draw_val
  · intro g w hb hdep; replace hL := hL.grow hb; have d12 := yv hdep 12; clear hdep; simp only [fillD, fLa, fLb, sTa, sTb]; simp only [d12]
    go_wp2
    exact cY
  simp only [apN, apC]
  refine seq_end hL (by kernel_rfl) ?_
  intro g w2 hb hR; simp only [List.length_cons, List.length_nil, Nat.reduceAdd] at hR
  have e0 := yv hR 0
  have e1 := yv hR 1
  have e2 := yv hR 2
  have e3 := yv hR 3
  have e4 := yv hR 4
  have e5 := yv hR 5
  have e6 := yv hR 6
  have e7 := yv hR 7
  have e8 := yv hR 8
  have e9 := yv hR 9
  have e10 := yv hR 10
  have e11 := yv hR 11
  have e12 := yv hR 12
  have e13 := yv hR 13
  clear hR; simp only [fillD, fLa, fLb, sTa, sTb]
  simp only [e0, e1, e2, e3, e4, e5, e6, e7, e8, e9, e10, e11, e12, e13]
  clear e0 e1 e2 e3 e4 e5 e6 e7 e8 e9 e10 e11 e12 e13
  replace hL := hL.grow hb
  clear hb
  go_wp2_with (first | (with_reducible refine lld hL ?_) | ((with_reducible first | refine lbx hL ?_ | refine lal hL ?_ | refine lbs hL ?_); clear hL; intro bl w1 hL) | ((with_reducible refine lst' hL ?_); clear hL; intro w1 hL))
  (try simp only [Exit.inBlock, Exit.then]); refine' ret1 rfl ?_ rfl ?_; (case refine'_2 => exact cRes)
  exact ⟨by simp, hL.below⟩

set_option maxRecDepth 100000 in
set_option maxHeartbeats 4000000 in
theorem runs_b1 (p : Pg) (is : Nat → Ins) (ins : Sl) (xs : Nat → Int) (fuel : Int) (w : World) (hn : p.n ≤ 9223372036854775807) (hc : CodeAt w p is) (hin : InputsAt w ins xs) (hpw : Pows w)
    (hP : checkProg p is = 0) (hf : fuel < 0) :
    Calls Tryd.prog 4 #[p.v, ins.v, .int .i64 fuel] w fun e w' => e = .returned (.bool true) ∧ Below w.heap.size w w' := by
  have hrb := fun w' (hb : Below w.heap.size w w') => runBegun_any w' (hpw.grow hb)
  have hrp := fun w' (hb : Below w.heap.size w w') => rCheckProgram_any p is w' (hc.grow hb) hn
  have hru := fun w' (hb : Below w.heap.size w w') => runRun_fuel p is ins fuel w' hn (hc.grow hb) hP (by omega)
  have hz := runIs_zero 3 zeroR (by decide)
  have c0 : decide (fuel < 0) = true := decide_eq_true hf
  rw [hP] at hrp
  clear hf hP hc hn hin hpw
  have HRB := Lib.hid (hrb)
  have HRP := Lib.hid (hrp)
  have HRU := Lib.hid (hru)
  have HZ := Lib.hid (hz)
  clear hrb hrp hru hz
  have hL := Loc.start w
  go_enter Tryd.func4, Tryd.ntmps4
  go_upto_region 9 with (first | (with_reducible refine lld hL ?_) | ((with_reducible first | refine lbx hL ?_ | refine lal hL ?_ | refine lbs hL ?_); clear hL; intro bl w1 hL) | ((with_reducible refine lst' hL ?_); clear hL; intro w1 hL) | (go_at_call 14; refine (HRU.out _ hL.below).mono ?_; rintro e w1 ⟨rfl, hb⟩; replace hL := hL.grow hb; clear hb; dsimp only) | (go_at_call 7; refine (HRP.out _ hL.below).mono ?_; rintro e w1 ⟨rfl, hb⟩; replace hL := hL.grow hb; clear hb; dsimp only))
  have HI1 := Lib.hid (fun w' (_ : Below w1.heap.size w1 w') => HZ.out w')
  refine seq_begin [42, 43, 44, 45, 46, 47, 48, 49, 50, 51, 52, 53, 54, 6] ?_
  apply draw_val
  · intro g w hb hdep; replace hL := hL.grow hb; clear hdep; simp only [fillD, fLa, fLb, sTa, sTb]
    go_wp2_with (go_at_call 11; refine (HRB.out _ hL.below).mono ?_; rintro e w3 ⟨rfl, hb3⟩; dsimp only)
    exact ⟨rfl, _, rfl, (by assumption), rfl⟩
  simp only [apN, apC]
  apply draw_val
  · intro g w hb hdep; replace hL := hL.grow hb; have d0 := yv hdep 0; clear hdep; simp only [fillD, fLa, fLb, sTa, sTb]; simp only [d0]
    go_wp2
    exact cY
  simp only [apN, apC]
  apply draw_val
  · intro g w hb hdep; replace hL := hL.grow hb; have d1 := yv hdep 1; clear hdep; simp only [fillD, fLa, fLb, sTa, sTb]; simp only [d1]
    go_wp2_with (first | (with_reducible refine lld hL ?_) | (with_reducible refine ldD hL ?_))
    exact cY
  simp only [apN, apC]
  apply draw_val
  · intro g w hb hdep; replace hL := hL.grow hb; have d1 := yv hdep 1; clear hdep; simp only [fillD, fLa, fLb, sTa, sTb]; simp only [d1]
    go_wp2
    exact cY
  simp only [apN, apC]
  apply draw_val
  · intro g w hb hdep; replace hL := hL.grow hb; have d1 := yv hdep 1; clear hdep; simp only [fillD, fLa, fLb, sTa, sTb]; simp only [d1]
    go_wp2
    exact cY
  simp only [apN, apC]
  apply draw_val
  · intro g w hb hdep; replace hL := hL.grow hb; have d1 := yv hdep 1; clear hdep; simp only [fillD, fLa, fLb, sTa, sTb]; simp only [d1]
    go_wp2_with (first | (with_reducible refine lld hL ?_) | (with_reducible refine ldD hL ?_))
    exact cY
  simp only [apN, apC]
  apply draw_val
  · intro g w hb hdep; replace hL := hL.grow hb; have d2 := yv hdep 2; have d3 := yv hdep 3; have d4 := yv hdep 4; have d5 := yv hdep 5; have d1 := yv hdep 1; clear hdep; simp only [fillD, fLa, fLb, sTa, sTb]; simp only [d2, d3, d4, d5, d1]
    go_wp2_with (go_at_call 13; refine (HI1.out _ hb).mono ?_; rintro e w3 ⟨rfl, hb3⟩; dsimp only)
    exact ⟨rfl, _, rfl, (by assumption), rfl⟩
  simp only [apN, apC]
  apply draw_val
  · intro g w hb hdep; replace hL := hL.grow hb; have d1 := yv hdep 1; have d6 := yv hdep 6; clear hdep; simp only [fillD, fLa, fLb, sTa, sTb]; simp only [d1, d6]
    go_wp2
    exact cY
  simp only [apN, apC]
  apply draw_val
  · intro g w hb hdep; replace hL := hL.grow hb; have d7 := yv hdep 7; clear hdep; simp only [fillD, fLa, fLb, sTa, sTb]; simp only [d7]
    go_wp2
    exact cY
  simp only [apN, apC]
  apply draw_val
  · intro g w hb hdep; replace hL := hL.grow hb; have d8 := yv hdep 8; clear hdep; simp only [fillD, fLa, fLb, sTa, sTb]; simp only [d8]
    go_wp2
    exact cY
  simp only [apN, apC]
  apply draw_val
  · intro g w hb hdep; replace hL := hL.grow hb; have d8 := yv hdep 8; clear hdep; simp only [fillD, fLa, fLb, sTa, sTb]; simp only [d8]
    go_wp2
    exact cY
  simp only [apN, apC]
  apply draw_val
  · intro g w hb hdep; replace hL := hL.grow hb; have d9 := yv hdep 9; have d10 := yv hdep 10; have d8 := yv hdep 8; clear hdep; simp only [fillD, fLa, fLb, sTa, sTb]; simp only [d9, d10, d8]
    go_wp2
    exact cY
  simp only [apN, apC]
  apply draw_val
  · intro g w hb hdep; replace hL := hL.grow hb; have d8 := yv hdep 8; have d11 := yv hdep 11; clear hdep; simp only [fillD, fLa, fLb, sTa, sTb]; simp only [d8, d11]
    go_wp2
    exact cY
  simp only [apN, apC]
  apply draw_val
  · intro g w hb hdep; replace hL := hL.grow hb; have d12 := yv hdep 12; clear hdep; simp only [fillD, fLa, fLb, sTa, sTb]; simp only [d12]
    go_wp2
    exact cY
  simp only [apN, apC]
  refine seq_end hL (by kernel_rfl) ?_
  intro g w2 hb hR; simp only [List.length_cons, List.length_nil, Nat.reduceAdd] at hR
  have e0 := yv hR 0
  have e1 := yv hR 1
  have e2 := yv hR 2
  have e3 := yv hR 3
  have e4 := yv hR 4
  have e5 := yv hR 5
  have e6 := yv hR 6
  have e7 := yv hR 7
  have e8 := yv hR 8
  have e9 := yv hR 9
  have e10 := yv hR 10
  have e11 := yv hR 11
  have e12 := yv hR 12
  have e13 := yv hR 13
  clear hR; simp only [fillD, fLa, fLb, sTa, sTb]
  simp only [e0, e1, e2, e3, e4, e5, e6, e7, e8, e9, e10, e11, e12, e13]
  clear e0 e1 e2 e3 e4 e5 e6 e7 e8 e9 e10 e11 e12 e13
  replace hL := hL.grow hb
  clear hb
  go_wp2_with (first | (with_reducible refine lld hL ?_) | ((with_reducible first | refine lbx hL ?_ | refine lal hL ?_ | refine lbs hL ?_); clear hL; intro bl w1 hL) | ((with_reducible refine lst' hL ?_); clear hL; intro w1 hL))
  (try simp only [Exit.inBlock, Exit.then]); refine' ret1 rfl ?_ rfl ?_; (case refine'_2 => exact cRes)
  exact ⟨by simp, hL.below⟩

set_option maxRecDepth 100000 in
set_option maxHeartbeats 4000000 in
theorem runs_b2 (p : Pg) (is : Nat → Ins) (ins : Sl) (xs : Nat → Int) (fuel : Int) (w : World) (hn : p.n ≤ 9223372036854775807) (hc : CodeAt w p is) (hin : InputsAt w ins xs) (hpw : Pows w)
    (hP : checkProg p is = 0) (hf : 5000 < fuel) :
    Calls Tryd.prog 4 #[p.v, ins.v, .int .i64 fuel] w fun e w' => e = .returned (.bool true) ∧ Below w.heap.size w w' := by
  have hrb := fun w' (hb : Below w.heap.size w w') => runBegun_any w' (hpw.grow hb)
  have hrp := fun w' (hb : Below w.heap.size w w') => rCheckProgram_any p is w' (hc.grow hb) hn
  have hru := fun w' (hb : Below w.heap.size w w') => runRun_fuel p is ins fuel w' hn (hc.grow hb) hP (by omega)
  have hz := runIs_zero 3 zeroR (by decide)
  have c0 : decide (fuel < 0) = false := decide_eq_false (by omega)
  have c1 : decide (5000 < fuel) = true := decide_eq_true hf
  rw [hP] at hrp
  clear hf hP hc hn hin hpw
  have HRB := Lib.hid (hrb)
  have HRP := Lib.hid (hrp)
  have HRU := Lib.hid (hru)
  have HZ := Lib.hid (hz)
  clear hrb hrp hru hz
  have hL := Loc.start w
  go_enter Tryd.func4, Tryd.ntmps4
  go_upto_region 9 with (first | (with_reducible refine lld hL ?_) | ((with_reducible first | refine lbx hL ?_ | refine lal hL ?_ | refine lbs hL ?_); clear hL; intro bl w1 hL) | ((with_reducible refine lst' hL ?_); clear hL; intro w1 hL) | (go_at_call 14; refine (HRU.out _ hL.below).mono ?_; rintro e w1 ⟨rfl, hb⟩; replace hL := hL.grow hb; clear hb; dsimp only) | (go_at_call 7; refine (HRP.out _ hL.below).mono ?_; rintro e w1 ⟨rfl, hb⟩; replace hL := hL.grow hb; clear hb; dsimp only))
  have HI1 := Lib.hid (fun w' (_ : Below w1.heap.size w1 w') => HZ.out w')
  refine seq_begin [42, 43, 44, 45, 46, 47, 48, 49, 50, 51, 52, 53, 54, 6] ?_
  apply draw_val
  · intro g w hb hdep; replace hL := hL.grow hb; clear hdep; simp only [fillD, fLa, fLb, sTa, sTb]
    go_wp2_with (go_at_call 11; refine (HRB.out _ hL.below).mono ?_; rintro e w3 ⟨rfl, hb3⟩; dsimp only)
    exact ⟨rfl, _, rfl, (by assumption), rfl⟩
  simp only [apN, apC]
  apply draw_val
  · intro g w hb hdep; replace hL := hL.grow hb; have d0 := yv hdep 0; clear hdep; simp only [fillD, fLa, fLb, sTa, sTb]; simp only [d0]
    go_wp2
    exact cY
  simp only [apN, apC]
  apply draw_val
  · intro g w hb hdep; replace hL := hL.grow hb; have d1 := yv hdep 1; clear hdep; simp only [fillD, fLa, fLb, sTa, sTb]; simp only [d1]
    go_wp2_with (first | (with_reducible refine lld hL ?_) | (with_reducible refine ldD hL ?_))
    exact cY
  simp only [apN, apC]
  apply draw_val
  · intro g w hb hdep; replace hL := hL.grow hb; have d1 := yv hdep 1; clear hdep; simp only [fillD, fLa, fLb, sTa, sTb]; simp only [d1]
    go_wp2
    exact cY
  simp only [apN, apC]
  apply draw_val
  · intro g w hb hdep; replace hL := hL.grow hb; have d1 := yv hdep 1; clear hdep; simp only [fillD, fLa, fLb, sTa, sTb]; simp only [d1]
    go_wp2
    exact cY
  simp only [apN, apC]
  apply draw_val
  · intro g w hb hdep; replace hL := hL.grow hb; have d1 := yv hdep 1; clear hdep; simp only [fillD, fLa, fLb, sTa, sTb]; simp only [d1]
    go_wp2_with (first | (with_reducible refine lld hL ?_) | (with_reducible refine ldD hL ?_))
    exact cY
  simp only [apN, apC]
  apply draw_val
  · intro g w hb hdep; replace hL := hL.grow hb; have d2 := yv hdep 2; have d3 := yv hdep 3; have d4 := yv hdep 4; have d5 := yv hdep 5; have d1 := yv hdep 1; clear hdep; simp only [fillD, fLa, fLb, sTa, sTb]; simp only [d2, d3, d4, d5, d1]
    go_wp2_with (go_at_call 13; refine (HI1.out _ hb).mono ?_; rintro e w3 ⟨rfl, hb3⟩; dsimp only)
    exact ⟨rfl, _, rfl, (by assumption), rfl⟩
  simp only [apN, apC]
  apply draw_val
  · intro g w hb hdep; replace hL := hL.grow hb; have d1 := yv hdep 1; have d6 := yv hdep 6; clear hdep; simp only [fillD, fLa, fLb, sTa, sTb]; simp only [d1, d6]
    go_wp2
    exact cY
  simp only [apN, apC]
  apply draw_val
  · intro g w hb hdep; replace hL := hL.grow hb; have d7 := yv hdep 7; clear hdep; simp only [fillD, fLa, fLb, sTa, sTb]; simp only [d7]
    go_wp2
    exact cY
  simp only [apN, apC]
  apply draw_val
  · intro g w hb hdep; replace hL := hL.grow hb; have d8 := yv hdep 8; clear hdep; simp only [fillD, fLa, fLb, sTa, sTb]; simp only [d8]
    go_wp2
    exact cY
  simp only [apN, apC]
  apply draw_val
  · intro g w hb hdep; replace hL := hL.grow hb; have d8 := yv hdep 8; clear hdep; simp only [fillD, fLa, fLb, sTa, sTb]; simp only [d8]
    go_wp2
    exact cY
  simp only [apN, apC]
  apply draw_val
  · intro g w hb hdep; replace hL := hL.grow hb; have d9 := yv hdep 9; have d10 := yv hdep 10; have d8 := yv hdep 8; clear hdep; simp only [fillD, fLa, fLb, sTa, sTb]; simp only [d9, d10, d8]
    go_wp2
    exact cY
  simp only [apN, apC]
  apply draw_val
  · intro g w hb hdep; replace hL := hL.grow hb; have d8 := yv hdep 8; have d11 := yv hdep 11; clear hdep; simp only [fillD, fLa, fLb, sTa, sTb]; simp only [d8, d11]
    go_wp2
    exact cY
  simp only [apN, apC]
  apply draw_val
  · intro g w hb hdep; replace hL := hL.grow hb; have d12 := yv hdep 12; clear hdep; simp only [fillD, fLa, fLb, sTa, sTb]; simp only [d12]
    go_wp2
    exact cY
  simp only [apN, apC]
  refine seq_end hL (by kernel_rfl) ?_
  intro g w2 hb hR; simp only [List.length_cons, List.length_nil, Nat.reduceAdd] at hR
  have e0 := yv hR 0
  have e1 := yv hR 1
  have e2 := yv hR 2
  have e3 := yv hR 3
  have e4 := yv hR 4
  have e5 := yv hR 5
  have e6 := yv hR 6
  have e7 := yv hR 7
  have e8 := yv hR 8
  have e9 := yv hR 9
  have e10 := yv hR 10
  have e11 := yv hR 11
  have e12 := yv hR 12
  have e13 := yv hR 13
  clear hR; simp only [fillD, fLa, fLb, sTa, sTb]
  simp only [e0, e1, e2, e3, e4, e5, e6, e7, e8, e9, e10, e11, e12, e13]
  clear e0 e1 e2 e3 e4 e5 e6 e7 e8 e9 e10 e11 e12 e13
  replace hL := hL.grow hb
  clear hb
  go_wp2_with (first | (with_reducible refine lld hL ?_) | ((with_reducible first | refine lbx hL ?_ | refine lal hL ?_ | refine lbs hL ?_); clear hL; intro bl w1 hL) | ((with_reducible refine lst' hL ?_); clear hL; intro w1 hL))
  (try simp only [Exit.inBlock, Exit.then]); refine' ret1 rfl ?_ rfl ?_; (case refine'_2 => exact cRes)
  exact ⟨by simp, hL.below⟩

set_option maxRecDepth 100000 in
set_option maxHeartbeats 4000000 in
theorem runs_c (p : Pg) (is : Nat → Ins) (ins : Sl) (xs : Nat → Int) (fuel n : Nat) (w : World) (hn : p.n ≤ 9223372036854775807) (hc : CodeAt w p is) (hin : InputsAt w ins xs) (hpw : Pows w)
    (hP : checkProg p is = 0) (hpn : p.vars = n) (hn8 : n ≤ 8) (hf : fuel ≤ 5000) :
    Calls Tryd.prog 4 #[p.v, ins.v, .int .i64 fuel] w fun e w' => e = .returned (.bool true) ∧ Below w.heap.size w w' := by
  have hrb := fun w' (hb : Below w.heap.size w w') => runBegun_any w' (hpw.grow hb)
  have hrp := fun w' (hb : Below w.heap.size w w') => rCheckProgram_any p is w' (hc.grow hb) hn
  have hru := fun w' (hb : Below w.heap.size w w') => runRun_ok p is ins xs fuel n w' hn (hc.grow hb) hP ⟨hin.1.grow hb, hin.2⟩ (hpw.grow hb) hpn hn8 hf
  have hro := fun w' (hb : Below w.heap.size w w') => rRunOf_any p is ins xs fuel n w' hn (hc.grow hb) hP ⟨hin.1.grow hb, hin.2⟩ hpn hn8 hf
  have c0 : decide ((fuel : Int) < 0) = false := decide_eq_false (by omega)
  have c1 : decide ((5000 : Int) < (fuel : Int)) = false := decide_eq_false (by omega)
  rw [hP] at hrp
  clear hf hP hc hn hin hpw hpn hn8
  generalize runN p is ins xs fuel (beginS n) 0 = Z at hru hro
  have HRB := Lib.hid (hrb)
  have HRP := Lib.hid (hrp)
  have HRU := Lib.hid (hru)
  have HRO := Lib.hid (hro)
  clear hrb hrp hru hro
  have hL := Loc.start w
  go_enter Tryd.func4, Tryd.ntmps4
  go_upto_region 9 with (first | (with_reducible refine lld hL ?_) | ((with_reducible first | refine lbx hL ?_ | refine lal hL ?_ | refine lbs hL ?_); clear hL; intro bl w1 hL) | ((with_reducible refine lst' hL ?_); clear hL; intro w1 hL) | (go_at_call 14; refine (HRU.out _ hL.below).mono ?_; rintro e w3 ⟨⟨ra1, rv1, rt1, rk1, rl1, re1⟩, ts1, Rv1, Rt1, Rl1, Rf1, rfl, hR1, ho1, hb3⟩; replace hL := hL.gainTail hb3 ho1; simp only [List.cons_append, List.nil_append] at hL; clear ho1 hb3; dsimp only) | (go_at_call 7; refine (HRP.out _ hL.below).mono ?_; rintro e w1 ⟨rfl, hb⟩; replace hL := hL.grow hb; clear hb; dsimp only) | (go_at_call 15; refine (HRO.out _ hL.below).mono ?_; rintro e w3 ⟨⟨ra2, rv2, rt2, rk2, rl2, re2⟩, ts2, Rv2, Rt2, Rl2, Rf2, rfl, hR2, ho2, hb3⟩; replace hL := hL.gainTail hb3 ho2; simp only [List.cons_append, List.nil_append] at hL; clear ho2 hb3; dsimp only))
  have HI1 := Lib.hid (fun w' (hb : Below w1.heap.size w1 w') => runIs_same ⟨ra1, rv1, rt1, rk1, rl1, re1⟩ ⟨ra2, rv2, rt2, rk2, rl2, re2⟩ (outS Z.1) w' ((hR1.is (hL.ownOf (by repeat (first | exact List.Sublist.refl _ | exact List.sublist_append_right _ _ | apply List.Sublist.cons | refine List.Sublist.trans ?_ (List.sublist_append_left _ _))))).grow hb) ((hR2.is (hL.ownOf (by repeat (first | exact List.Sublist.refl _ | exact List.sublist_append_right _ _ | apply List.Sublist.cons | refine List.Sublist.trans ?_ (List.sublist_append_left _ _))))).grow hb))
  clear hR1 hR2
  refine seq_begin [42, 43, 44, 45, 46, 47, 48, 49, 50, 51, 52, 53, 54, 6] ?_
  apply draw_val
  · intro g w hb hdep; replace hL := hL.grow hb; clear hdep; simp only [fillD, fLa, fLb, sTa, sTb]
    go_wp2_with (go_at_call 11; refine (HRB.out _ hL.below).mono ?_; rintro e w3 ⟨rfl, hb3⟩; dsimp only)
    exact ⟨rfl, _, rfl, (by assumption), rfl⟩
  simp only [apN, apC]
  apply draw_val
  · intro g w hb hdep; replace hL := hL.grow hb; have d0 := yv hdep 0; clear hdep; simp only [fillD, fLa, fLb, sTa, sTb]; simp only [d0]
    go_wp2
    exact cY
  simp only [apN, apC]
  apply draw_val
  · intro g w hb hdep; replace hL := hL.grow hb; have d1 := yv hdep 1; clear hdep; simp only [fillD, fLa, fLb, sTa, sTb]; simp only [d1]
    go_wp2_with (first | (with_reducible refine lld hL ?_) | (with_reducible refine ldD hL ?_))
    exact cY
  simp only [apN, apC]
  apply draw_val
  · intro g w hb hdep; replace hL := hL.grow hb; have d1 := yv hdep 1; clear hdep; simp only [fillD, fLa, fLb, sTa, sTb]; simp only [d1]
    go_wp2
    exact cY
  simp only [apN, apC]
  apply draw_val
  · intro g w hb hdep; replace hL := hL.grow hb; have d1 := yv hdep 1; clear hdep; simp only [fillD, fLa, fLb, sTa, sTb]; simp only [d1]
    go_wp2
    exact cY
  simp only [apN, apC]
  apply draw_val
  · intro g w hb hdep; replace hL := hL.grow hb; have d1 := yv hdep 1; clear hdep; simp only [fillD, fLa, fLb, sTa, sTb]; simp only [d1]
    go_wp2_with (first | (with_reducible refine lld hL ?_) | (with_reducible refine ldD hL ?_))
    exact cY
  simp only [apN, apC]
  apply draw_val
  · intro g w hb hdep; replace hL := hL.grow hb; have d2 := yv hdep 2; have d3 := yv hdep 3; have d4 := yv hdep 4; have d5 := yv hdep 5; have d1 := yv hdep 1; clear hdep; simp only [fillD, fLa, fLb, sTa, sTb]; simp only [d2, d3, d4, d5, d1]
    go_wp2_with (go_at_call 13; refine (HI1.out _ hb).mono ?_; rintro e w3 ⟨rfl, hb3⟩; dsimp only)
    exact ⟨rfl, _, rfl, (by assumption), rfl⟩
  simp only [apN, apC]
  apply draw_val
  · intro g w hb hdep; replace hL := hL.grow hb; have d1 := yv hdep 1; have d6 := yv hdep 6; clear hdep; simp only [fillD, fLa, fLb, sTa, sTb]; simp only [d1, d6]
    go_wp2
    exact cY
  simp only [apN, apC]
  apply draw_val
  · intro g w hb hdep; replace hL := hL.grow hb; have d7 := yv hdep 7; clear hdep; simp only [fillD, fLa, fLb, sTa, sTb]; simp only [d7]
    go_wp2
    exact cY
  simp only [apN, apC]
  apply draw_val
  · intro g w hb hdep; replace hL := hL.grow hb; have d8 := yv hdep 8; clear hdep; simp only [fillD, fLa, fLb, sTa, sTb]; simp only [d8]
    go_wp2
    exact cY
  simp only [apN, apC]
  apply draw_val
  · intro g w hb hdep; replace hL := hL.grow hb; have d8 := yv hdep 8; clear hdep; simp only [fillD, fLa, fLb, sTa, sTb]; simp only [d8]
    go_wp2
    exact cY
  simp only [apN, apC]
  apply draw_val
  · intro g w hb hdep; replace hL := hL.grow hb; have d9 := yv hdep 9; have d10 := yv hdep 10; have d8 := yv hdep 8; clear hdep; simp only [fillD, fLa, fLb, sTa, sTb]; simp only [d9, d10, d8]
    go_wp2
    exact cY
  simp only [apN, apC]
  apply draw_val
  · intro g w hb hdep; replace hL := hL.grow hb; have d8 := yv hdep 8; have d11 := yv hdep 11; clear hdep; simp only [fillD, fLa, fLb, sTa, sTb]; simp only [d8, d11]
    go_wp2
    exact cY
  simp only [apN, apC]
  apply draw_val
  · intro g w hb hdep; replace hL := hL.grow hb; have d12 := yv hdep 12; clear hdep; simp only [fillD, fLa, fLb, sTa, sTb]; simp only [d12]
    go_wp2
    exact cY
  simp only [apN, apC]
  refine seq_end hL (by kernel_rfl) ?_
  intro g w2 hb hR; simp only [List.length_cons, List.length_nil, Nat.reduceAdd] at hR
  have e0 := yv hR 0
  have e1 := yv hR 1
  have e2 := yv hR 2
  have e3 := yv hR 3
  have e4 := yv hR 4
  have e5 := yv hR 5
  have e6 := yv hR 6
  have e7 := yv hR 7
  have e8 := yv hR 8
  have e9 := yv hR 9
  have e10 := yv hR 10
  have e11 := yv hR 11
  have e12 := yv hR 12
  have e13 := yv hR 13
  clear hR; simp only [fillD, fLa, fLb, sTa, sTb]
  simp only [e0, e1, e2, e3, e4, e5, e6, e7, e8, e9, e10, e11, e12, e13]
  clear e0 e1 e2 e3 e4 e5 e6 e7 e8 e9 e10 e11 e12 e13
  replace hL := hL.grow hb
  clear hb
  go_wp2_with (first | (with_reducible refine lld hL ?_) | ((with_reducible first | refine lbx hL ?_ | refine lal hL ?_ | refine lbs hL ?_); clear hL; intro bl w1 hL) | ((with_reducible refine lst' hL ?_); clear hL; intro w1 hL))
  (try simp only [Exit.inBlock, Exit.then]); refine' ret1 rfl ?_ rfl ?_; (case refine'_2 => exact cRes)
  exact ⟨by simp, hL.below⟩

theorem runs_any (p : Pg) (is : Nat → Ins) (ins : Sl) (xs : Nat → Int) (fuel : Int) (w : World) (hn : p.n ≤ 9223372036854775807) (hc : CodeAt w p is) (hin : InputsAt w ins xs) (hpw : Pows w) :
    Calls Tryd.prog 4 #[p.v, ins.v, .int .i64 fuel] w fun e w' => e = .returned (.bool true) ∧ Below w.heap.size w w' := by
  by_cases hP : checkProg p is = 0
  · have hs := (prog_right hP).1
    have hpn : p.vars = (p.vars.toNat : Nat) := by have := hs.v1; omega
    have hn8 : p.vars.toNat ≤ 8 := by have := hs.v2; omega
    rcases (by omega : fuel < 0 ∨ 0 ≤ fuel) with h0 | h0
    · exact runs_b1 p is ins xs fuel w hn hc hin hpw hP h0
    · rcases (by omega : 5000 < fuel ∨ fuel ≤ 5000) with h1 | h1
      · exact runs_b2 p is ins xs fuel w hn hc hin hpw hP h1
      · obtain ⟨k, rfl⟩ : ∃ k : Nat, fuel = k := ⟨fuel.toNat, by omega⟩
        exact runs_c p is ins xs k _ w hn hc hin hpw hP hpn hn8 (by omega)
  · exact runs_a p is ins xs fuel w hn hc hin hpw hP
end Go.Proofs.YtkdbehgekeidoaaDoor
