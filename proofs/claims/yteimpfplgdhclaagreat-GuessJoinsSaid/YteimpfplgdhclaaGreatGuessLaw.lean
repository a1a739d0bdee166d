/- The walks over the laws GuessDoes and GuessJoins. Conditions: what they read lies in memory that was there. -/
import Derived.Test.YteimpfplgdhclaaGreatGuessQ
set_option linter.unusedSimpArgs false
set_option linter.unusedVariables false
namespace Go.Proofs.YteimpfplgdhclaaGreat
open Go.RowKit

/-- What comes in. -/
structure GuIn (w : World) (p : Pg) (is : Nat → Ins) (g h : Gu) (l m : List Int) : Prop where
  n : p.n ≤ 9223372036854775807
  c : CodeAt w p is
  l : IntsAt w g.s l
  m : IntsAt w h.s m
theorem rdo_law (k : Int) (g h : Gu) (l m : List Int) (w w' : World) (hb : Below w.heap.size w w') (hk : betw k 4 10 = true) (hg : RightGu g l) (hh : RightGu h m) (hl : IntsAt w g.s l) (hm : IntsAt w h.s m) :
    Calls Tryz.prog 7 #[.int .i64 k, g.v, h.v] w' fun e w2 => ∃ r : Sl, e = .returned (.tuple #[((madeG k g h l m).1.gu r).v, .bool (madeG k g h l m).2]) ∧ (∀ w3, Below w.heap.size w w3 → IntsAt w3 r (madeG k g h l m).1.l) ∧ Below w'.heap.size w' w2 :=
  (rdo_all k g h l m w' hk hg hh (hl.grow hb) (hm.grow hb)).mono fun e w2 ⟨r, h1, h2, h3⟩ => ⟨r, h1, fun w3 hb3 => by
    rcases h2 with ⟨h4, h5⟩ | ⟨h4, h5⟩
    · rw [h4, h5]; exact hl.grow hb3
    · rw [h4, h5]; exact IntsAt.nil w3, h3⟩
theorem cg2_first {p : Pg} {is : Nat → Ins} {g h : Gu} {l m : List Int} (h0 : cg1 p is g l ≠ 0) : cg2 p is g h l m = cg1 p is g l := by
  have h1 : errs (checkProg p is) (fun k => rightG p is (pick2 g h k) (pick2 l m k)) 1 = cg1 p is g l := rfl
  have h2 : errs (checkProg p is) (fun k => rightG p is (pick2 g h k) (pick2 l m k)) 2 = cg2 p is g h l m := rfl
  rw [← h1, ← h2]
  exact errs_stop (by omega) (by rw [h1]; exact h0)
theorem right_g {p : Pg} {is : Nat → Ins} {g h : Gu} {l m : List Int} {w : World} (hi : GuIn w p is g h l m) (h0 : cg2 p is g h l m = 0) : RightGu g l ∧ RightGu h m :=
  ⟨.of (cg2_zero h0).2.1 (cg2_zero h0).1 hi.l.n, .of (cg2_zero h0).2.2 (cg2_zero h0).1 hi.m.n⟩

set_option maxRecDepth 100000 in
set_option maxHeartbeats 4000000 in
theorem does_a (p : Pg) (is : Nat → Ins) (g h : Gu) (l m : List Int) (k : Int) (w : World) (hi : GuIn w p is g h l m) (hq : cg2 p is g h l m ≠ 0) :
    Calls Tryz.prog 3 #[p.v, .int .i64 k, g.v, h.v] w fun e w' => e = .returned (.bool true) ∧ Below w.heap.size w w' := by
  obtain ⟨hn, hc, hl, hm⟩ := hi
  have hgb := fun w' => guessBegun_any w'
  have hrc := fun (b : Nat) (w' : World) (hb : Below w.heap.size w w') (hh : w'.heap[b]? = some (.cells (g.cells ++ h.cells).toArray 29 (0, 0))) => (show Calls Tryz.prog 6 #[p.v, .slice (some ⟨b, 0, none⟩) 2 2] w' fun e w2 => e = .returned (.int .i64 (cg2 p is g h l m)) ∧ Below w'.heap.size w' w2 from rCheckGuesses_any p is (some ⟨b, 0, none⟩) 2 2 (pick2 g h) (pick2 l m) w' hn (hc.grow hb) (gus2 hh (hl.grow hb) (hm.grow hb)))
  have hdo := fun w' (hb : Below w.heap.size w w') => gDo_err p is g h l m w' hn (hc.grow hb) (hl.grow hb) (hm.grow hb) k hq
  have hc1 : (cg2 p is g h l m == 0) = false := beq_eq_false_iff_ne.2 hq
  have hz := fun w' => guessIs_err (cg2 p is g h l m) hq zeroG w'
  clear hq hc hl hm hn
  generalize cg2 p is g h l m = c at *
  have HGB := Lib.hid hgb
  have HRC := Lib.hid hrc
  have HDO := Lib.hid hdo
  have HZ := Lib.hid hz
  clear hgb hrc hdo hz
  have hL := Loc.start w
  go_enter Tryz.func3, Tryz.ntmps3
  go_upto_region 9 with (first | (with_reducible refine lld hL ?_) | ((with_reducible first | refine lbx hL ?_ | refine lal hL ?_ | refine lbs hL ?_); clear hL; intro bl w1 hL) | ((with_reducible refine lst' hL ?_); clear hL; intro w1 hL) | (go_at_call 6; refine (HRC.out bl _ hL.below (hL.heap (by repeat (first | exact InL.head | apply InL.tail)))).mono ?_; rintro e w1 ⟨rfl, hb⟩; replace hL := hL.grow hb; clear hb; dsimp only) | (go_at_call 5; refine (HDO.out _ hL.below).mono ?_; rintro e w1 ⟨rfl, hb⟩; replace hL := hL.grow hb; clear hb; dsimp only))
  have HI := Lib.hid (fun w' (_ : Below w1.heap.size w1 w') => HZ.out w')
  refine seq_begin [48, 49, 50, 51, 52, 53, 54, 55, 56, 57, 58, 59, 60, 8] ?_
  apply draw_val
  · intro g w hb hdep; replace hL := hL.grow hb; clear hdep; simp only [fillD, fLa, fLb, sTa, sTb]
    go_wp2_with (go_at_call 8; refine (HGB.out _).mono ?_; rintro e w3 ⟨rfl, hb3⟩; dsimp only)
    exact ⟨rfl, _, rfl, (by assumption), rfl⟩
  simp only [apN, apC]
  apply draw_val
  · intro g w hb hdep; replace hL := hL.grow hb; have d0 := yv hdep 0; clear hdep; simp only [fillD, fLa, fLb, sTa, sTb]; simp only [d0]
    go_wp2
    exact cY
  simp only [apN, apC]
  apply draw_val
  · intro g w hb hdep; replace hL := hL.grow hb; have d1 := yv hdep 1; clear hdep; simp only [fillD, fLa, fLb, sTa, sTb]; simp only [d1]
    go_wp2_with (first | (with_reducible refine lld hL ?_) | (with_reducible refine ldD hL ?_))
    exact cY
  simp only [apN, apC]
  apply draw_val
  · intro g w hb hdep; replace hL := hL.grow hb; have d1 := yv hdep 1; clear hdep; simp only [fillD, fLa, fLb, sTa, sTb]; simp only [d1]
    go_wp2
    exact cY
  simp only [apN, apC]
  apply draw_val
  · intro g w hb hdep; replace hL := hL.grow hb; have d1 := yv hdep 1; clear hdep; simp only [fillD, fLa, fLb, sTa, sTb]; simp only [d1]
    go_wp2
    exact cY
  simp only [apN, apC]
  apply draw_val
  · intro g w hb hdep; replace hL := hL.grow hb; have d1 := yv hdep 1; clear hdep; simp only [fillD, fLa, fLb, sTa, sTb]; simp only [d1]
    go_wp2_with (first | (with_reducible refine lld hL ?_) | (with_reducible refine ldD hL ?_))
    exact cY
  simp only [apN, apC]
  apply draw_val
  · intro g w hb hdep; replace hL := hL.grow hb; have d2 := yv hdep 2; have d3 := yv hdep 3; have d4 := yv hdep 4; have d5 := yv hdep 5; have d1 := yv hdep 1; clear hdep; simp only [fillD, fLa, fLb, sTa, sTb]; simp only [d2, d3, d4, d5, d1]
    go_wp2_with (go_at_call 9; refine (HI.out _ hb).mono ?_; rintro e w3 ⟨rfl, hb3⟩; dsimp only)
    exact ⟨rfl, _, rfl, (by assumption), rfl⟩
  simp only [apN, apC]
  apply draw_val
  · intro g w hb hdep; replace hL := hL.grow hb; have d1 := yv hdep 1; have d6 := yv hdep 6; clear hdep; simp only [fillD, fLa, fLb, sTa, sTb]; simp only [d1, d6]
    go_wp2
    exact cY
  simp only [apN, apC]
  apply draw_val
  · intro g w hb hdep; replace hL := hL.grow hb; have d7 := yv hdep 7; clear hdep; simp only [fillD, fLa, fLb, sTa, sTb]; simp only [d7]
    go_wp2
    exact cY
  simp only [apN, apC]
  apply draw_val
  · intro g w hb hdep; replace hL := hL.grow hb; have d8 := yv hdep 8; clear hdep; simp only [fillD, fLa, fLb, sTa, sTb]; simp only [d8]
    go_wp2
    exact cY
  simp only [apN, apC]
  apply draw_val
  · intro g w hb hdep; replace hL := hL.grow hb; have d8 := yv hdep 8; clear hdep; simp only [fillD, fLa, fLb, sTa, sTb]; simp only [d8]
    go_wp2
    exact cY
  simp only [apN, apC]
  apply draw_val
  · intro g w hb hdep; replace hL := hL.grow hb; have d9 := yv hdep 9; have d10 := yv hdep 10; have d8 := yv hdep 8; clear hdep; simp only [fillD, fLa, fLb, sTa, sTb]; simp only [d9, d10, d8]
    go_wp2
    exact cY
  simp only [apN, apC]
  apply draw_val
  · intro g w hb hdep; replace hL := hL.grow hb; have d8 := yv hdep 8; have d11 := yv hdep 11; clear hdep; simp only [fillD, fLa, fLb, sTa, sTb]; simp only [d8, d11]
    go_wp2
    exact cY
  simp only [apN, apC]
  apply draw_val
  · intro g w hb hdep; replace hL := hL.grow hb; have d12 := yv hdep 12; clear hdep; simp only [fillD, fLa, fLb, sTa, sTb]; simp only [d12]
    go_wp2
    exact cY
  simp only [apN, apC]
  refine seq_end hL (by kernel_rfl) ?_
  intro g w2 hb hR; simp only [List.length_cons, List.length_nil, Nat.reduceAdd] at hR
  have e0 := yv hR 0
  have e1 := yv hR 1
  have e2 := yv hR 2
  have e3 := yv hR 3
  have e4 := yv hR 4
  have e5 := yv hR 5
  have e6 := yv hR 6
  have e7 := yv hR 7
  have e8 := yv hR 8
  have e9 := yv hR 9
  have e10 := yv hR 10
  have e11 := yv hR 11
  have e12 := yv hR 12
  have e13 := yv hR 13
  clear hR; simp only [fillD, fLa, fLb, sTa, sTb]
  simp only [e0, e1, e2, e3, e4, e5, e6, e7, e8, e9, e10, e11, e12, e13]
  clear e0 e1 e2 e3 e4 e5 e6 e7 e8 e9 e10 e11 e12 e13
  replace hL := hL.grow hb
  clear hb
  go_wp2_with (first | (with_reducible refine lld hL ?_) | ((with_reducible first | refine lbx hL ?_ | refine lal hL ?_ | refine lbs hL ?_); clear hL; intro bl w1 hL) | ((with_reducible refine lst' hL ?_); clear hL; intro w1 hL))
  (try simp only [Exit.inBlock, Exit.then]); refine' ret1 rfl ?_ rfl ?_; (case refine'_2 => exact cRes)
  exact ⟨by simp, hL.below⟩

set_option maxRecDepth 100000 in
set_option maxHeartbeats 4000000 in
theorem does_b1 (p : Pg) (is : Nat → Ins) (g h : Gu) (l m : List Int) (k : Int) (w : World) (hi : GuIn w p is g h l m) (hP : cg2 p is g h l m = 0) (hk : k < 4) :
    Calls Tryz.prog 3 #[p.v, .int .i64 k, g.v, h.v] w fun e w' => e = .returned (.bool true) ∧ Below w.heap.size w w' := by
  obtain ⟨hn, hc, hl, hm⟩ := hi
  have hgb := fun w' => guessBegun_any w'
  have hrc := fun (b : Nat) (w' : World) (hb : Below w.heap.size w w') (hh : w'.heap[b]? = some (.cells (g.cells ++ h.cells).toArray 29 (0, 0))) => (show Calls Tryz.prog 6 #[p.v, .slice (some ⟨b, 0, none⟩) 2 2] w' fun e w2 => e = .returned (.int .i64 (cg2 p is g h l m)) ∧ Below w'.heap.size w' w2 from rCheckGuesses_any p is (some ⟨b, 0, none⟩) 2 2 (pick2 g h) (pick2 l m) w' hn (hc.grow hb) (gus2 hh (hl.grow hb) (hm.grow hb)))
  have hdo := fun w' (hb : Below w.heap.size w w') => gDo_kind p is g h l m w' hn (hc.grow hb) (hl.grow hb) (hm.grow hb) k hP (by simp [betw]; omega)
  have hz := fun w' => guessIs_err 6 (by decide) zeroG w'
  rw [hP] at hrc
  have c0 : decide (k < 4) = true := decide_eq_true hk
  clear hk hP hc hl hm hn
  have HGB := Lib.hid hgb
  have HRC := Lib.hid hrc
  have HDO := Lib.hid hdo
  have HZ := Lib.hid hz
  clear hgb hrc hdo hz
  have hL := Loc.start w
  go_enter Tryz.func3, Tryz.ntmps3
  go_upto_region 9 with (first | (with_reducible refine lld hL ?_) | ((with_reducible first | refine lbx hL ?_ | refine lal hL ?_ | refine lbs hL ?_); clear hL; intro bl w1 hL) | ((with_reducible refine lst' hL ?_); clear hL; intro w1 hL) | (go_at_call 6; refine (HRC.out bl _ hL.below (hL.heap (by repeat (first | exact InL.head | apply InL.tail)))).mono ?_; rintro e w1 ⟨rfl, hb⟩; replace hL := hL.grow hb; clear hb; dsimp only) | (go_at_call 5; refine (HDO.out _ hL.below).mono ?_; rintro e w1 ⟨rfl, hb⟩; replace hL := hL.grow hb; clear hb; dsimp only))
  have HI := Lib.hid (fun w' (_ : Below w1.heap.size w1 w') => HZ.out w')
  refine seq_begin [48, 49, 50, 51, 52, 53, 54, 55, 56, 57, 58, 59, 60, 8] ?_
  apply draw_val
  · intro g w hb hdep; replace hL := hL.grow hb; clear hdep; simp only [fillD, fLa, fLb, sTa, sTb]
    go_wp2_with (go_at_call 8; refine (HGB.out _).mono ?_; rintro e w3 ⟨rfl, hb3⟩; dsimp only)
    exact ⟨rfl, _, rfl, (by assumption), rfl⟩
  simp only [apN, apC]
  apply draw_val
  · intro g w hb hdep; replace hL := hL.grow hb; have d0 := yv hdep 0; clear hdep; simp only [fillD, fLa, fLb, sTa, sTb]; simp only [d0]
    go_wp2
    exact cY
  simp only [apN, apC]
  apply draw_val
  · intro g w hb hdep; replace hL := hL.grow hb; have d1 := yv hdep 1; clear hdep; simp only [fillD, fLa, fLb, sTa, sTb]; simp only [d1]
    go_wp2_with (first | (with_reducible refine lld hL ?_) | (with_reducible refine ldD hL ?_))
    exact cY
  simp only [apN, apC]
  apply draw_val
  · intro g w hb hdep; replace hL := hL.grow hb; have d1 := yv hdep 1; clear hdep; simp only [fillD, fLa, fLb, sTa, sTb]; simp only [d1]
    go_wp2
    exact cY
  simp only [apN, apC]
  apply draw_val
  · intro g w hb hdep; replace hL := hL.grow hb; have d1 := yv hdep 1; clear hdep; simp only [fillD, fLa, fLb, sTa, sTb]; simp only [d1]
    go_wp2
    exact cY
  simp only [apN, apC]
  apply draw_val
  · intro g w hb hdep; replace hL := hL.grow hb; have d1 := yv hdep 1; clear hdep; simp only [fillD, fLa, fLb, sTa, sTb]; simp only [d1]
    go_wp2_with (first | (with_reducible refine lld hL ?_) | (with_reducible refine ldD hL ?_))
    exact cY
  simp only [apN, apC]
  apply draw_val
  · intro g w hb hdep; replace hL := hL.grow hb; have d2 := yv hdep 2; have d3 := yv hdep 3; have d4 := yv hdep 4; have d5 := yv hdep 5; have d1 := yv hdep 1; clear hdep; simp only [fillD, fLa, fLb, sTa, sTb]; simp only [d2, d3, d4, d5, d1]
    go_wp2_with (go_at_call 9; refine (HI.out _ hb).mono ?_; rintro e w3 ⟨rfl, hb3⟩; dsimp only)
    exact ⟨rfl, _, rfl, (by assumption), rfl⟩
  simp only [apN, apC]
  apply draw_val
  · intro g w hb hdep; replace hL := hL.grow hb; have d1 := yv hdep 1; have d6 := yv hdep 6; clear hdep; simp only [fillD, fLa, fLb, sTa, sTb]; simp only [d1, d6]
    go_wp2
    exact cY
  simp only [apN, apC]
  apply draw_val
  · intro g w hb hdep; replace hL := hL.grow hb; have d7 := yv hdep 7; clear hdep; simp only [fillD, fLa, fLb, sTa, sTb]; simp only [d7]
    go_wp2
    exact cY
  simp only [apN, apC]
  apply draw_val
  · intro g w hb hdep; replace hL := hL.grow hb; have d8 := yv hdep 8; clear hdep; simp only [fillD, fLa, fLb, sTa, sTb]; simp only [d8]
    go_wp2
    exact cY
  simp only [apN, apC]
  apply draw_val
  · intro g w hb hdep; replace hL := hL.grow hb; have d8 := yv hdep 8; clear hdep; simp only [fillD, fLa, fLb, sTa, sTb]; simp only [d8]
    go_wp2
    exact cY
  simp only [apN, apC]
  apply draw_val
  · intro g w hb hdep; replace hL := hL.grow hb; have d9 := yv hdep 9; have d10 := yv hdep 10; have d8 := yv hdep 8; clear hdep; simp only [fillD, fLa, fLb, sTa, sTb]; simp only [d9, d10, d8]
    go_wp2
    exact cY
  simp only [apN, apC]
  apply draw_val
  · intro g w hb hdep; replace hL := hL.grow hb; have d8 := yv hdep 8; have d11 := yv hdep 11; clear hdep; simp only [fillD, fLa, fLb, sTa, sTb]; simp only [d8, d11]
    go_wp2
    exact cY
  simp only [apN, apC]
  apply draw_val
  · intro g w hb hdep; replace hL := hL.grow hb; have d12 := yv hdep 12; clear hdep; simp only [fillD, fLa, fLb, sTa, sTb]; simp only [d12]
    go_wp2
    exact cY
  simp only [apN, apC]
  refine seq_end hL (by kernel_rfl) ?_
  intro g w2 hb hR; simp only [List.length_cons, List.length_nil, Nat.reduceAdd] at hR
  have e0 := yv hR 0
  have e1 := yv hR 1
  have e2 := yv hR 2
  have e3 := yv hR 3
  have e4 := yv hR 4
  have e5 := yv hR 5
  have e6 := yv hR 6
  have e7 := yv hR 7
  have e8 := yv hR 8
  have e9 := yv hR 9
  have e10 := yv hR 10
  have e11 := yv hR 11
  have e12 := yv hR 12
  have e13 := yv hR 13
  clear hR; simp only [fillD, fLa, fLb, sTa, sTb]
  simp only [e0, e1, e2, e3, e4, e5, e6, e7, e8, e9, e10, e11, e12, e13]
  clear e0 e1 e2 e3 e4 e5 e6 e7 e8 e9 e10 e11 e12 e13
  replace hL := hL.grow hb
  clear hb
  go_wp2_with (first | (with_reducible refine lld hL ?_) | ((with_reducible first | refine lbx hL ?_ | refine lal hL ?_ | refine lbs hL ?_); clear hL; intro bl w1 hL) | ((with_reducible refine lst' hL ?_); clear hL; intro w1 hL))
  (try simp only [Exit.inBlock, Exit.then]); refine' ret1 rfl ?_ rfl ?_; (case refine'_2 => exact cRes)
  exact ⟨by simp, hL.below⟩

set_option maxRecDepth 100000 in
set_option maxHeartbeats 4000000 in
theorem does_b2 (p : Pg) (is : Nat → Ins) (g h : Gu) (l m : List Int) (k : Int) (w : World) (hi : GuIn w p is g h l m) (hP : cg2 p is g h l m = 0) (hk : 10 < k) :
    Calls Tryz.prog 3 #[p.v, .int .i64 k, g.v, h.v] w fun e w' => e = .returned (.bool true) ∧ Below w.heap.size w w' := by
  obtain ⟨hn, hc, hl, hm⟩ := hi
  have hgb := fun w' => guessBegun_any w'
  have hrc := fun (b : Nat) (w' : World) (hb : Below w.heap.size w w') (hh : w'.heap[b]? = some (.cells (g.cells ++ h.cells).toArray 29 (0, 0))) => (show Calls Tryz.prog 6 #[p.v, .slice (some ⟨b, 0, none⟩) 2 2] w' fun e w2 => e = .returned (.int .i64 (cg2 p is g h l m)) ∧ Below w'.heap.size w' w2 from rCheckGuesses_any p is (some ⟨b, 0, none⟩) 2 2 (pick2 g h) (pick2 l m) w' hn (hc.grow hb) (gus2 hh (hl.grow hb) (hm.grow hb)))
  have hdo := fun w' (hb : Below w.heap.size w w') => gDo_kind p is g h l m w' hn (hc.grow hb) (hl.grow hb) (hm.grow hb) k hP (by simp [betw]; omega)
  have hz := fun w' => guessIs_err 6 (by decide) zeroG w'
  rw [hP] at hrc
  have c0 : decide (k < 4) = false := decide_eq_false (by omega)
  have c1 : decide (10 < k) = true := decide_eq_true hk
  clear hk hP hc hl hm hn
  have HGB := Lib.hid hgb
  have HRC := Lib.hid hrc
  have HDO := Lib.hid hdo
  have HZ := Lib.hid hz
  clear hgb hrc hdo hz
  have hL := Loc.start w
  go_enter Tryz.func3, Tryz.ntmps3
  go_upto_region 9 with (first | (with_reducible refine lld hL ?_) | ((with_reducible first | refine lbx hL ?_ | refine lal hL ?_ | refine lbs hL ?_); clear hL; intro bl w1 hL) | ((with_reducible refine lst' hL ?_); clear hL; intro w1 hL) | (go_at_call 6; refine (HRC.out bl _ hL.below (hL.heap (by repeat (first | exact InL.head | apply InL.tail)))).mono ?_; rintro e w1 ⟨rfl, hb⟩; replace hL := hL.grow hb; clear hb; dsimp only) | (go_at_call 5; refine (HDO.out _ hL.below).mono ?_; rintro e w1 ⟨rfl, hb⟩; replace hL := hL.grow hb; clear hb; dsimp only))
  have HI := Lib.hid (fun w' (_ : Below w1.heap.size w1 w') => HZ.out w')
  refine seq_begin [48, 49, 50, 51, 52, 53, 54, 55, 56, 57, 58, 59, 60, 8] ?_
  apply draw_val
  · intro g w hb hdep; replace hL := hL.grow hb; clear hdep; simp only [fillD, fLa, fLb, sTa, sTb]
    go_wp2_with (go_at_call 8; refine (HGB.out _).mono ?_; rintro e w3 ⟨rfl, hb3⟩; dsimp only)
    exact ⟨rfl, _, rfl, (by assumption), rfl⟩
  simp only [apN, apC]
  apply draw_val
  · intro g w hb hdep; replace hL := hL.grow hb; have d0 := yv hdep 0; clear hdep; simp only [fillD, fLa, fLb, sTa, sTb]; simp only [d0]
    go_wp2
    exact cY
  simp only [apN, apC]
  apply draw_val
  · intro g w hb hdep; replace hL := hL.grow hb; have d1 := yv hdep 1; clear hdep; simp only [fillD, fLa, fLb, sTa, sTb]; simp only [d1]
    go_wp2_with (first | (with_reducible refine lld hL ?_) | (with_reducible refine ldD hL ?_))
    exact cY
  simp only [apN, apC]
  apply draw_val
  · intro g w hb hdep; replace hL := hL.grow hb; have d1 := yv hdep 1; clear hdep; simp only [fillD, fLa, fLb, sTa, sTb]; simp only [d1]
    go_wp2
    exact cY
  simp only [apN, apC]
  apply draw_val
  · intro g w hb hdep; replace hL := hL.grow hb; have d1 := yv hdep 1; clear hdep; simp only [fillD, fLa, fLb, sTa, sTb]; simp only [d1]
    go_wp2
    exact cY
  simp only [apN, apC]
  apply draw_val
  · intro g w hb hdep; replace hL := hL.grow hb; have d1 := yv hdep 1; clear hdep; simp only [fillD, fLa, fLb, sTa, sTb]; simp only [d1]
    go_wp2_with (first | (with_reducible refine lld hL ?_) | (with_reducible refine ldD hL ?_))
    exact cY
  simp only [apN, apC]
  apply draw_val
  · intro g w hb hdep; replace hL := hL.grow hb; have d2 := yv hdep 2; have d3 := yv hdep 3; have d4 := yv hdep 4; have d5 := yv hdep 5; have d1 := yv hdep 1; clear hdep; simp only [fillD, fLa, fLb, sTa, sTb]; simp only [d2, d3, d4, d5, d1]
    go_wp2_with (go_at_call 9; refine (HI.out _ hb).mono ?_; rintro e w3 ⟨rfl, hb3⟩; dsimp only)
    exact ⟨rfl, _, rfl, (by assumption), rfl⟩
  simp only [apN, apC]
  apply draw_val
  · intro g w hb hdep; replace hL := hL.grow hb; have d1 := yv hdep 1; have d6 := yv hdep 6; clear hdep; simp only [fillD, fLa, fLb, sTa, sTb]; simp only [d1, d6]
    go_wp2
    exact cY
  simp only [apN, apC]
  apply draw_val
  · intro g w hb hdep; replace hL := hL.grow hb; have d7 := yv hdep 7; clear hdep; simp only [fillD, fLa, fLb, sTa, sTb]; simp only [d7]
    go_wp2
    exact cY
  simp only [apN, apC]
  apply draw_val
  · intro g w hb hdep; replace hL := hL.grow hb; have d8 := yv hdep 8; clear hdep; simp only [fillD, fLa, fLb, sTa, sTb]; simp only [d8]
    go_wp2
    exact cY
  simp only [apN, apC]
  apply draw_val
  · intro g w hb hdep; replace hL := hL.grow hb; have d8 := yv hdep 8; clear hdep; simp only [fillD, fLa, fLb, sTa, sTb]; simp only [d8]
    go_wp2
    exact cY
  simp only [apN, apC]
  apply draw_val
  · intro g w hb hdep; replace hL := hL.grow hb; have d9 := yv hdep 9; have d10 := yv hdep 10; have d8 := yv hdep 8; clear hdep; simp only [fillD, fLa, fLb, sTa, sTb]; simp only [d9, d10, d8]
    go_wp2
    exact cY
  simp only [apN, apC]
  apply draw_val
  · intro g w hb hdep; replace hL := hL.grow hb; have d8 := yv hdep 8; have d11 := yv hdep 11; clear hdep; simp only [fillD, fLa, fLb, sTa, sTb]; simp only [d8, d11]
    go_wp2
    exact cY
  simp only [apN, apC]
  apply draw_val
  · intro g w hb hdep; replace hL := hL.grow hb; have d12 := yv hdep 12; clear hdep; simp only [fillD, fLa, fLb, sTa, sTb]; simp only [d12]
    go_wp2
    exact cY
  simp only [apN, apC]
  refine seq_end hL (by kernel_rfl) ?_
  intro g w2 hb hR; simp only [List.length_cons, List.length_nil, Nat.reduceAdd] at hR
  have e0 := yv hR 0
  have e1 := yv hR 1
  have e2 := yv hR 2
  have e3 := yv hR 3
  have e4 := yv hR 4
  have e5 := yv hR 5
  have e6 := yv hR 6
  have e7 := yv hR 7
  have e8 := yv hR 8
  have e9 := yv hR 9
  have e10 := yv hR 10
  have e11 := yv hR 11
  have e12 := yv hR 12
  have e13 := yv hR 13
  clear hR; simp only [fillD, fLa, fLb, sTa, sTb]
  simp only [e0, e1, e2, e3, e4, e5, e6, e7, e8, e9, e10, e11, e12, e13]
  clear e0 e1 e2 e3 e4 e5 e6 e7 e8 e9 e10 e11 e12 e13
  replace hL := hL.grow hb
  clear hb
  go_wp2_with (first | (with_reducible refine lld hL ?_) | ((with_reducible first | refine lbx hL ?_ | refine lal hL ?_ | refine lbs hL ?_); clear hL; intro bl w1 hL) | ((with_reducible refine lst' hL ?_); clear hL; intro w1 hL))
  (try simp only [Exit.inBlock, Exit.then]); refine' ret1 rfl ?_ rfl ?_; (case refine'_2 => exact cRes)
  exact ⟨by simp, hL.below⟩

set_option maxRecDepth 100000 in
set_option maxHeartbeats 4000000 in
theorem does_c (p : Pg) (is : Nat → Ins) (g h : Gu) (l m : List Int) (k : Int) (w : World) (hi : GuIn w p is g h l m) (hP : cg2 p is g h l m = 0) (hk : betw k 4 10 = true) :
    Calls Tryz.prog 3 #[p.v, .int .i64 k, g.v, h.v] w fun e w' => e = .returned (.bool true) ∧ Below w.heap.size w w' := by
  obtain ⟨hn, hc, hl, hm⟩ := hi
  have hgb := fun w' => guessBegun_any w'
  have hrc := fun (b : Nat) (w' : World) (hb : Below w.heap.size w w') (hh : w'.heap[b]? = some (.cells (g.cells ++ h.cells).toArray 29 (0, 0))) => (show Calls Tryz.prog 6 #[p.v, .slice (some ⟨b, 0, none⟩) 2 2] w' fun e w2 => e = .returned (.int .i64 (cg2 p is g h l m)) ∧ Below w'.heap.size w' w2 from rCheckGuesses_any p is (some ⟨b, 0, none⟩) 2 2 (pick2 g h) (pick2 l m) w' hn (hc.grow hb) (gus2 hh (hl.grow hb) (hm.grow hb)))
  have hr := right_g ⟨hn, hc, hl, hm⟩ hP
  have hdo := fun w' (hb : Below w.heap.size w w') => gDo_ok p is g h l m w' hn (hc.grow hb) (hl.grow hb) (hm.grow hb) k hP hk
  have hrd := fun w' (hb : Below w.heap.size w w') => rdo_law k g h l m w w' hb hk hr.1 hr.2 hl hm
  rw [hP] at hrc
  have c0 : decide (k < 4) = false := decide_eq_false (by simp [betw] at hk; omega)
  have c1 : decide (10 < k) = false := decide_eq_false (by simp [betw] at hk; omega)
  clear hk hP hc hl hm hn hr
  generalize madeG k g h l m = Z at hdo hrd
  obtain ⟨⟨zn, ⟨zs, zlo, zhi⟩, zt, zf, zl⟩, zw⟩ := Z
  dsimp only [Res.gu] at hdo hrd
  have HGB := Lib.hid hgb
  have HRC := Lib.hid hrc
  have HDO := Lib.hid hdo
  have HRD := Lib.hid hrd
  clear hgb hrc hdo hrd
  have hL := Loc.start w
  go_enter Tryz.func3, Tryz.ntmps3
  go_upto_region 9 with (first | (with_reducible refine lld hL ?_) | ((with_reducible first | refine lbx hL ?_ | refine lal hL ?_ | refine lbs hL ?_); clear hL; intro bl w1 hL) | ((with_reducible refine lst' hL ?_); clear hL; intro w1 hL) | (go_at_call 6; refine (HRC.out bl _ hL.below (hL.heap (by repeat (first | exact InL.head | apply InL.tail)))).mono ?_; rintro e w1 ⟨rfl, hb⟩; replace hL := hL.grow hb; clear hb; dsimp only) | (go_at_call 5; refine (HDO.out _ hL.below).mono ?_; rintro e w3 ⟨⟨rp1, rn1, rc1⟩, rfl, ⟨R1, hr1, ho1⟩, hb3⟩; replace hL := hL.gainTail hb3 ho1; simp only [List.cons_append, List.nil_append] at hL; clear hb3 ho1; dsimp only) | (go_at_call 7; refine (HRD.out _ hL.below).mono ?_; rintro e w3 ⟨⟨rp2, rn2, rc2⟩, rfl, hr2, hb3⟩; have HR2 := Lib.hid hr2; replace hL := hL.grow hb3; clear hb3 hr2; dsimp only))
  have HI := Lib.hid (fun w' (hb : Below w1.heap.size w1 w') => guessIs_ok ⟨zn, ⟨zs, zlo, zhi⟩, zt, zf, zl⟩ ⟨rp1, rn1, rc1⟩ ⟨rp2, rn2, rc2⟩ w' ((OwnI.ints (s := ⟨rp1, rn1, rc1⟩) ⟨R1, hr1, hL.ownOf (by repeat (first | exact List.Sublist.refl _ | exact List.sublist_append_right _ _ | apply List.Sublist.cons | refine List.Sublist.trans ?_ (List.sublist_append_left _ _)))⟩).grow hb) (HR2.out _ (hL.below.trans (hb.mono hL.below.size))))
  clear hr1 HR2
  refine seq_begin [48, 49, 50, 51, 52, 53, 54, 55, 56, 57, 58, 59, 60, 8] ?_
  apply draw_val
  · intro g w hb hdep; replace hL := hL.grow hb; clear hdep; simp only [fillD, fLa, fLb, sTa, sTb]
    go_wp2_with (go_at_call 8; refine (HGB.out _).mono ?_; rintro e w3 ⟨rfl, hb3⟩; dsimp only)
    exact ⟨rfl, _, rfl, (by assumption), rfl⟩
  simp only [apN, apC]
  apply draw_val
  · intro g w hb hdep; replace hL := hL.grow hb; have d0 := yv hdep 0; clear hdep; simp only [fillD, fLa, fLb, sTa, sTb]; simp only [d0]
    go_wp2
    exact cY
  simp only [apN, apC]
  apply draw_val
  · intro g w hb hdep; replace hL := hL.grow hb; have d1 := yv hdep 1; clear hdep; simp only [fillD, fLa, fLb, sTa, sTb]; simp only [d1]
    go_wp2_with (first | (with_reducible refine lld hL ?_) | (with_reducible refine ldD hL ?_))
    exact cY
  simp only [apN, apC]
  apply draw_val
  · intro g w hb hdep; replace hL := hL.grow hb; have d1 := yv hdep 1; clear hdep; simp only [fillD, fLa, fLb, sTa, sTb]; simp only [d1]
    go_wp2
    exact cY
  simp only [apN, apC]
  apply draw_val
  · intro g w hb hdep; replace hL := hL.grow hb; have d1 := yv hdep 1; clear hdep; simp only [fillD, fLa, fLb, sTa, sTb]; simp only [d1]
    go_wp2
    exact cY
  simp only [apN, apC]
  apply draw_val
  · intro g w hb hdep; replace hL := hL.grow hb; have d1 := yv hdep 1; clear hdep; simp only [fillD, fLa, fLb, sTa, sTb]; simp only [d1]
    go_wp2_with (first | (with_reducible refine lld hL ?_) | (with_reducible refine ldD hL ?_))
    exact cY
  simp only [apN, apC]
  apply draw_val
  · intro g w hb hdep; replace hL := hL.grow hb; have d2 := yv hdep 2; have d3 := yv hdep 3; have d4 := yv hdep 4; have d5 := yv hdep 5; have d1 := yv hdep 1; clear hdep; simp only [fillD, fLa, fLb, sTa, sTb]; simp only [d2, d3, d4, d5, d1]
    go_wp2_with (go_at_call 9; refine (HI.out _ hb).mono ?_; rintro e w3 ⟨rfl, hb3⟩; dsimp only)
    exact ⟨rfl, _, rfl, (by assumption), rfl⟩
  simp only [apN, apC]
  apply draw_val
  · intro g w hb hdep; replace hL := hL.grow hb; have d1 := yv hdep 1; have d6 := yv hdep 6; clear hdep; simp only [fillD, fLa, fLb, sTa, sTb]; simp only [d1, d6]
    go_wp2
    exact cY
  simp only [apN, apC]
  apply draw_val
  · intro g w hb hdep; replace hL := hL.grow hb; have d7 := yv hdep 7; clear hdep; simp only [fillD, fLa, fLb, sTa, sTb]; simp only [d7]
    go_wp2
    exact cY
  simp only [apN, apC]
  apply draw_val
  · intro g w hb hdep; replace hL := hL.grow hb; have d8 := yv hdep 8; clear hdep; simp only [fillD, fLa, fLb, sTa, sTb]; simp only [d8]
    go_wp2
    exact cY
  simp only [apN, apC]
  apply draw_val
  · intro g w hb hdep; replace hL := hL.grow hb; have d8 := yv hdep 8; clear hdep; simp only [fillD, fLa, fLb, sTa, sTb]; simp only [d8]
    go_wp2
    exact cY
  simp only [apN, apC]
  apply draw_val
  · intro g w hb hdep; replace hL := hL.grow hb; have d9 := yv hdep 9; have d10 := yv hdep 10; have d8 := yv hdep 8; clear hdep; simp only [fillD, fLa, fLb, sTa, sTb]; simp only [d9, d10, d8]
    go_wp2
    exact cY
  simp only [apN, apC]
  apply draw_val
  · intro g w hb hdep; replace hL := hL.grow hb; have d8 := yv hdep 8; have d11 := yv hdep 11; clear hdep; simp only [fillD, fLa, fLb, sTa, sTb]; simp only [d8, d11]
    go_wp2
    exact cY
  simp only [apN, apC]
  apply draw_val
  · intro g w hb hdep; replace hL := hL.grow hb; have d12 := yv hdep 12; clear hdep; simp only [fillD, fLa, fLb, sTa, sTb]; simp only [d12]
    go_wp2
    exact cY
  simp only [apN, apC]
  refine seq_end hL (by kernel_rfl) ?_
  intro g w2 hb hR; simp only [List.length_cons, List.length_nil, Nat.reduceAdd] at hR
  have e0 := yv hR 0
  have e1 := yv hR 1
  have e2 := yv hR 2
  have e3 := yv hR 3
  have e4 := yv hR 4
  have e5 := yv hR 5
  have e6 := yv hR 6
  have e7 := yv hR 7
  have e8 := yv hR 8
  have e9 := yv hR 9
  have e10 := yv hR 10
  have e11 := yv hR 11
  have e12 := yv hR 12
  have e13 := yv hR 13
  clear hR; simp only [fillD, fLa, fLb, sTa, sTb]
  simp only [e0, e1, e2, e3, e4, e5, e6, e7, e8, e9, e10, e11, e12, e13]
  clear e0 e1 e2 e3 e4 e5 e6 e7 e8 e9 e10 e11 e12 e13
  replace hL := hL.grow hb
  clear hb
  go_wp2_with (first | (with_reducible refine lld hL ?_) | ((with_reducible first | refine lbx hL ?_ | refine lal hL ?_ | refine lbs hL ?_); clear hL; intro bl w1 hL) | ((with_reducible refine lst' hL ?_); clear hL; intro w1 hL))
  (try simp only [Exit.inBlock, Exit.then]); refine' ret1 rfl ?_ rfl ?_; (case refine'_2 => exact cRes)
  exact ⟨by simp, hL.below⟩

theorem does_any (p : Pg) (is : Nat → Ins) (g h : Gu) (l m : List Int) (k : Int) (w : World) (hi : GuIn w p is g h l m) :
    Calls Tryz.prog 3 #[p.v, .int .i64 k, g.v, h.v] w fun e w' => e = .returned (.bool true) ∧ Below w.heap.size w w' := by
  by_cases hP : cg2 p is g h l m = 0
  · rcases (by omega : k < 4 ∨ 10 < k ∨ (4 ≤ k ∧ k ≤ 10)) with h0 | h0 | ⟨h0, h1⟩
    · exact does_b1 p is g h l m k w hi hP h0
    · exact does_b2 p is g h l m k w hi hP h0
    · exact does_c p is g h l m k w hi hP (by simp [betw]; omega)
  · exact does_a p is g h l m k w hi hP
end Go.Proofs.YteimpfplgdhclaaGreat
