/- The walks over the law GuessJoins, part 4. Conditions: what they read lies in memory that was there. -/
import Derived.Test.YteimpfplgdhclaaGreatGuessLawJ
set_option linter.unusedSimpArgs false
set_option linter.unusedVariables false
namespace Go.Proofs.YteimpfplgdhclaaGreat
open Go.RowKit

set_option maxRecDepth 100000 in
set_option maxHeartbeats 4000000 in
theorem joins_cok (p : Pg) (is : Nat → Ins) (g h : Gu) (l m : List Int) (v : Vl) (site : Int) (w : World) (hi : GuIn w p is g h l m) (hu : cg1 p is g l = 0) (hq : cg2 p is g h l m = 0) (hk : betw v.kind 0 3 = true) :
    Calls Tryz.prog 4 #[p.v, g.v, h.v, v.v, .int .i64 site] w fun e w' => e = .returned (.bool true) ∧ Below w.heap.size w w' := by
  obtain ⟨hn, hc, hl, hm⟩ := hi
  obtain ⟨vk, vn⟩ := v
  dsimp only at hk
  have hgb := fun w' => guessBegun_any w'
  have hrc := fun (b : Nat) (w' : World) (hb : Below w.heap.size w w') (hh : w'.heap[b]? = some (.cells (g.cells ++ h.cells).toArray 29 (0, 0))) => (show Calls Tryz.prog 6 #[p.v, .slice (some ⟨b, 0, none⟩) 2 2] w' fun e w2 => e = .returned (.int .i64 (cg2 p is g h l m)) ∧ Below w'.heap.size w' w2 from rCheckGuesses_any p is (some ⟨b, 0, none⟩) 2 2 (pick2 g h) (pick2 l m) w' hn (hc.grow hb) (gus2 hh (hl.grow hb) (hm.grow hb)))
  have hrd := fun (b : Nat) (w' : World) (hb : Below w.heap.size w w') (hh : w'.heap[b]? = some (.cells g.cells.toArray 29 (0, 0))) => (show Calls Tryz.prog 6 #[p.v, .slice (some ⟨b, 0, none⟩) 1 1] w' fun e w2 => e = .returned (.int .i64 (cg1 p is g l)) ∧ Below w'.heap.size w' w2 from rCheckGuesses_any p is (some ⟨b, 0, none⟩) 1 1 (fun _ => g) (fun _ => l) w' hn (hc.grow hb) (gus1 hh (hl.grow hb)))
  have hck := fun w' (hb : Below w.heap.size w w') => gCheck_any p is g l w' hn (hc.grow hb) (hl.grow hb)
  have hr := right_g ⟨hn, hc, hl, hm⟩ hq
  have htr := fun w' (hb : Below w.heap.size w w') => gTruth_ok p is g l w' hn (hc.grow hb) (hl.grow hb) hu
  have htf := fun w' => rTruthOf_any g w'
  have hho := fun w' (hb : Below w.heap.size w w') => gHolds_ok p is g l w' hn (hc.grow hb) (hl.grow hb) ⟨vk, vn⟩ site hu hk
  have hhf := fun w' (hb : Below w.heap.size w w') => rHeldOf_any g l ⟨vk, vn⟩ site w' (hl.grow hb) hk
  have hjn := fun w' (hb : Below w.heap.size w w') => gJoin_ok p is g h l m w' hn (hc.grow hb) (hl.grow hb) (hm.grow hb) hq (by have := hr.1.le; have := hr.2.le; omega)
  have hwd := fun w' (hb : Below w.heap.size w w') => gWiden_ok p is g h l m w' hn (hc.grow hb) (hl.grow hb) (hm.grow hb) hq (by have := hr.1.le; have := hr.2.le; omega)
  have hin := fun w' (hb : Below w.heap.size w w') => gWithin_ok p is g h l m w' hn (hc.grow hb) (hl.grow hb) (hm.grow hb) hq
  have hrj := fun w' (hb : Below w.heap.size w w') => rjoin_law false both rJoin_any g h l m w' hr.1 hr.2 (hl.grow hb) (hm.grow hb)
  have hrw := fun w' (hb : Below w.heap.size w w') => rjoin_law true wider rWiden_any g h l m w' hr.1 hr.2 (hl.grow hb) (hm.grow hb)
  have hri := fun w' (hb : Below w.heap.size w w') => rGuessIn_any g h l m w' hr.1.span (hl.grow hb) (hm.grow hb)
  rw [hu] at hrd hck
  rw [hq] at hrc
  have c0 : decide (vk < 0) = false := decide_eq_false (by simp [betw] at hk; omega)
  have c1 : decide (3 < vk) = false := decide_eq_false (by simp [betw] at hk; omega)
  clear hk hu hq hc hl hm hn hr
  generalize both g.span h.span = S at hjn hrj
  generalize wider g.span h.span = T at hwd hrw
  obtain ⟨sn, slo, shi⟩ := S
  obtain ⟨tn, tlo, thi⟩ := T
  generalize mixS l m = ml at hjn hrj hwd hrw
  generalize (g.null || h.null) = gn at hjn hrj hwd hrw
  generalize (g.tr || h.tr) = gt at hjn hrj hwd hrw
  generalize (g.fa || h.fa) = gf at hjn hrj hwd hrw
  generalize insideG g h l m = gi at hin hri
  generalize yesG g = gy at htr htf
  generalize noG g = gz at htr htf
  generalize held g l ⟨vk, vn⟩ site = gh at hho hhf
  have HGB := Lib.hid hgb
  have HRC := Lib.hid hrc
  have HRD := Lib.hid hrd
  have HCK := Lib.hid hck
  have HTR := Lib.hid htr
  have HTF := Lib.hid htf
  have HHO := Lib.hid hho
  have HHF := Lib.hid hhf
  have HJN := Lib.hid hjn
  have HWD := Lib.hid hwd
  have HIN := Lib.hid hin
  have HRJ := Lib.hid hrj
  have HRW := Lib.hid hrw
  have HRI := Lib.hid hri
  clear hgb hrc hrd hck htr htf hho hhf hjn hwd hin hrj hrw hri
  have hL := Loc.start w
  go_enter Tryz.func4, Tryz.ntmps4
  go_upto_region 6 with (first | (with_reducible refine lld hL ?_) | ((with_reducible first | refine lbx hL ?_ | refine lal hL ?_ | refine lbs hL ?_); clear hL; intro bl w1 hL) | ((with_reducible refine lst' hL ?_); clear hL; intro w1 hL) | (go_at_call 10; refine (HJN.out _ hL.below).mono ?_; rintro e w3 ⟨⟨rp1, rn1, rc1⟩, rfl, ⟨R1, hr1, ho1⟩, hb3⟩; replace hL := hL.gainTail hb3 ho1; simp only [List.cons_append, List.nil_append] at hL; clear hb3 ho1; dsimp only) | (go_at_call 11; refine (HWD.out _ hL.below).mono ?_; rintro e w3 ⟨⟨rp2, rn2, rc2⟩, rfl, ⟨R2, hr2, ho2⟩, hb3⟩; replace hL := hL.gainTail hb3 ho2; simp only [List.cons_append, List.nil_append] at hL; clear hb3 ho2; dsimp only) | (go_at_call 12; refine (HIN.out _ hL.below).mono ?_; rintro e w1 ⟨rfl, hb⟩; replace hL := hL.grow hb; clear hb; dsimp only) | (go_at_call 13; refine (HHO.out _ hL.below).mono ?_; rintro e w1 ⟨rfl, hb⟩; replace hL := hL.grow hb; clear hb; dsimp only) | (go_at_call 14; refine (HTR.out _ hL.below).mono ?_; rintro e w1 ⟨rfl, hb⟩; replace hL := hL.grow hb; clear hb; dsimp only) | (go_at_call 18; refine (HTF.out _).mono ?_; rintro e w1 ⟨rfl, hb⟩; replace hL := hL.grow hb; clear hb; dsimp only) | (go_at_call 17; refine (HHF.out _ hL.below).mono ?_; rintro e w1 ⟨rfl, hb⟩; replace hL := hL.grow hb; clear hb; dsimp only))
  refine draw_begin [67, 68, 69, 70, 71, 72, 73, 74, 75, 22, 23] ?_
  apply draw_val
  · intro g w hb hdep; replace hL := hL.grow hb; clear hdep; simp only [fillD, fLa, fLb, sTa, sTb]
    go_wp2_with (first | (with_reducible refine lld hL ?_) | (with_reducible refine ldD hL ?_))
    exact cY
  simp only [apN, apC]
  apply draw_val
  · intro g w hb hdep; replace hL := hL.grow hb; clear hdep; simp only [fillD, fLa, fLb, sTa, sTb]
    go_wp2_with (first | (with_reducible refine lld hL ?_) | (with_reducible refine ldD hL ?_))
    exact cY
  simp only [apN, apC]
  apply draw_row
  · intro g w hb hdep; replace hL := hL.grow hb; have d1 := yv hdep 1; clear hdep; simp only [fillD, fLa, fLb, sTa, sTb]; simp only [d1]
    go_wp2
    exact ⟨rfl, _, rfl, (Below.refl _ _).alloc (Nat.le_refl _) _, _, hb.size, rfl, heap_new _ _⟩
  simp only [apN, apC]
  apply draw_val
  · intro g w hb hdep; replace hL := hL.grow hb; have d0 := yv hdep 0; obtain ⟨b2, e2, d2, f2⟩ := rat_row (allR_get hdep (j := 2) (by decide)) rfl rfl; clear hdep; simp only [fillD, fLa, fLb, sTa, sTb]; simp only [d0, d2]
    go_wp2_with (go_at_call 6; refine (HRD.out b2 _ hL.below f2).mono ?_; rintro e w3 ⟨rfl, hb3⟩; dsimp only)
    exact ⟨rfl, _, rfl, hb3, rfl⟩
  simp only [apN, apC]
  apply draw_val
  · intro g w hb hdep; replace hL := hL.grow hb; clear hdep; simp only [fillD, fLa, fLb, sTa, sTb]
    go_wp2_with (first | (with_reducible refine lld hL ?_) | (with_reducible refine ldD hL ?_))
    exact cY
  simp only [apN, apC]
  apply draw_val
  · intro g w hb hdep; replace hL := hL.grow hb; clear hdep; simp only [fillD, fLa, fLb, sTa, sTb]
    go_wp2_with (first | (with_reducible refine lld hL ?_) | (with_reducible refine ldD hL ?_))
    exact cY
  simp only [apN, apC]
  apply draw_val
  · intro g w hb hdep; replace hL := hL.grow hb; clear hdep; simp only [fillD, fLa, fLb, sTa, sTb]
    go_wp2_with (first | (with_reducible refine lld hL ?_) | (with_reducible refine ldD hL ?_))
    exact cY
  simp only [apN, apC]
  apply draw_row
  · intro g w hb hdep; replace hL := hL.grow hb; have d5 := yv hdep 5; have d6 := yv hdep 6; clear hdep; simp only [fillD, fLa, fLb, sTa, sTb]; simp only [d5, d6]
    go_wp2
    exact ⟨rfl, _, rfl, (Below.refl _ _).alloc (Nat.le_refl _) _, _, hb.size, rfl, heap_new _ _⟩
  simp only [apN, apC]
  apply draw_val
  · intro g w hb hdep; replace hL := hL.grow hb; have d4 := yv hdep 4; obtain ⟨b7, e7, d7, f7⟩ := rat_row (allR_get hdep (j := 7) (by decide)) rfl rfl; clear hdep; simp only [fillD, fLa, fLb, sTa, sTb]; simp only [d4, d7]
    go_wp2_with (go_at_call 6; refine (HRC.out b7 _ hL.below f7).mono ?_; rintro e w3 ⟨rfl, hb3⟩; dsimp only)
    exact ⟨rfl, _, rfl, hb3, rfl⟩
  simp only [apN, apC]
  apply draw_val
  · intro g w hb hdep; replace hL := hL.grow hb; have d3 := yv hdep 3; clear hdep; simp only [fillD, fLa, fLb, sTa, sTb]; simp only [d3]
    go_wp2
    exact cY
  simp only [apN, apC]
  apply draw_val
  · intro g w hb hdep; replace hL := hL.grow hb; have d8 := yv hdep 8; clear hdep; simp only [fillD, fLa, fLb, sTa, sTb]; simp only [d8]
    go_wp2
    exact cY
  simp only [apN, apC]
  refine draw_end hL (by kernel_rfl) (by kernel_rfl) ?_
  intro g w2 hb hR; simp only [List.length_cons, List.length_nil, Nat.reduceAdd] at hR
  have e0 := yv hR 0
  have e1 := yv hR 1
  obtain ⟨b2, p2, e2, c2⟩ := rat_row (allR_get hR (j := 2) (by decide)) rfl rfl
  have e3 := yv hR 3
  have e4 := yv hR 4
  have e5 := yv hR 5
  have e6 := yv hR 6
  obtain ⟨b7, p7, e7, c7⟩ := rat_row (allR_get hR (j := 7) (by decide)) rfl rfl
  have e8 := yv hR 8
  have e9 := yv hR 9
  have e10 := yv hR 10
  clear hR; simp only [fillD, fLa, fLb, sTa, sTb]
  simp only [e0, e1, e2, e3, e4, e5, e6, e7, e8, e9, e10]
  clear e0 e1 e2 e3 e4 e5 e6 e7 e8 e9 e10
  clear p2 c2 p7 c7
  replace hL := hL.grow hb
  clear hb
  go_upto_region 13 with (first | (with_reducible refine lld hL ?_) | ((with_reducible first | refine lbx hL ?_ | refine lal hL ?_ | refine lbs hL ?_); clear hL; intro bl w1 hL) | ((with_reducible refine lst' hL ?_); clear hL; intro w1 hL))
  refine draw_begin [91, 92, 93, 94, 95, 96, 97, 98, 99] ?_
  apply draw_val
  · intro g w hb hdep; replace hL := hL.grow hb; clear hdep; simp only [fillD, fLa, fLb, sTa, sTb]
    go_wp2_with (first | (with_reducible refine lld hL ?_) | (with_reducible refine ldD hL ?_))
    exact cY
  simp only [apN, apC]
  apply draw_val
  · intro g w hb hdep; replace hL := hL.grow hb; clear hdep; simp only [fillD, fLa, fLb, sTa, sTb]
    go_wp2_with (first | (with_reducible refine lld hL ?_) | (with_reducible refine ldD hL ?_))
    exact cY
  simp only [apN, apC]
  refine draw_next (GuR w1.heap.size gn ⟨sn, slo, shi⟩ gt gf ml) GuR.stable ?_ ?_
  · intro g w hb hdep; replace hL := hL.grow hb; have d0 := yv hdep 0; have d1 := yv hdep 1; clear hdep; simp only [fillD, fLa, fLb, sTa, sTb]; simp only [d0, d1]
    go_wp2_with (go_at_call 15; refine (HRJ.out _ hL.below).mono ?_; rintro e w3 ⟨r, rfl, ⟨R, hr, ho⟩, hb3⟩; dsimp only)
    exact ⟨rfl, _, rfl, hb3, r, R, rfl, hr, ho.mono hb.size⟩
  simp only [apN, apC]
  apply draw_val
  · intro g w hb hdep; replace hL := hL.grow hb; clear hdep; simp only [fillD, fLa, fLb, sTa, sTb]
    go_wp2_with (first | (with_reducible refine lld hL ?_) | (with_reducible refine ldD hL ?_))
    exact cY
  simp only [apN, apC]
  apply draw_val
  · intro g w hb hdep; replace hL := hL.grow hb; clear hdep; simp only [fillD, fLa, fLb, sTa, sTb]
    go_wp2_with (first | (with_reducible refine lld hL ?_) | (with_reducible refine ldD hL ?_))
    exact cY
  simp only [apN, apC]
  refine draw_next (GuR w1.heap.size gn ⟨tn, tlo, thi⟩ gt gf ml) GuR.stable ?_ ?_
  · intro g w hb hdep; replace hL := hL.grow hb; have d3 := yv hdep 3; have d4 := yv hdep 4; clear hdep; simp only [fillD, fLa, fLb, sTa, sTb]; simp only [d3, d4]
    go_wp2_with (go_at_call 15; refine (HRW.out _ hL.below).mono ?_; rintro e w3 ⟨r, rfl, ⟨R, hr, ho⟩, hb3⟩; dsimp only)
    exact ⟨rfl, _, rfl, hb3, r, R, rfl, hr, ho.mono hb.size⟩
  simp only [apN, apC]
  apply draw_val
  · intro g w hb hdep; replace hL := hL.grow hb; clear hdep; simp only [fillD, fLa, fLb, sTa, sTb]
    go_wp2_with (first | (with_reducible refine lld hL ?_) | (with_reducible refine ldD hL ?_))
    exact cY
  simp only [apN, apC]
  apply draw_val
  · intro g w hb hdep; replace hL := hL.grow hb; clear hdep; simp only [fillD, fLa, fLb, sTa, sTb]
    go_wp2_with (first | (with_reducible refine lld hL ?_) | (with_reducible refine ldD hL ?_))
    exact cY
  simp only [apN, apC]
  apply draw_val
  · intro g w hb hdep; replace hL := hL.grow hb; have d6 := yv hdep 6; have d7 := yv hdep 7; clear hdep; simp only [fillD, fLa, fLb, sTa, sTb]; simp only [d6, d7]
    go_wp2_with (go_at_call 16; refine (HRI.out _ hL.below).mono ?_; rintro e w3 ⟨rfl, hb3⟩; dsimp only)
    exact ⟨rfl, _, rfl, hb3, rfl⟩
  simp only [apN, apC]
  refine draw_end hL (by kernel_rfl) (by kernel_rfl) ?_
  intro g w2 hb hR; simp only [List.length_cons, List.length_nil, Nat.reduceAdd] at hR
  have e0 := yv hR 0
  have e1 := yv hR 1
  have e2 : (GuR w1.heap.size gn ⟨sn, slo, shi⟩ gt gf ml) (g 93) w2 := yr hR 2
  obtain ⟨q2, Q2, e2, hq2, hO2⟩ := e2
  have e3 := yv hR 3
  have e4 := yv hR 4
  have e5 : (GuR w1.heap.size gn ⟨tn, tlo, thi⟩ gt gf ml) (g 96) w2 := yr hR 5
  obtain ⟨q5, Q5, e5, hq5, hO5⟩ := e5
  have e6 := yv hR 6
  have e7 := yv hR 7
  have e8 := yv hR 8
  clear hR; simp only [fillD, fLa, fLb, sTa, sTb]
  simp only [e0, e1, e2, e3, e4, e5, e6, e7, e8]
  clear e0 e1 e2 e3 e4 e5 e6 e7 e8
  replace hL := hL.moreAll hb (Ds := [fun w => IntsAt w q2 ml, fun w => IntsAt w q5 ml]) (by intro S hS; simp only [List.mem_cons, List.not_mem_nil, or_false] at hS; rcases hS with rfl | rfl; (exact own_fresh hq2 hO2); (exact own_fresh hq5 hO5)); simp only [List.cons_append, List.nil_append] at hL; clear hq2 hO2 hq5 hO5
  clear hb
  go_upto_region 18 with (first | (with_reducible refine lld hL ?_) | ((with_reducible first | refine lbx hL ?_ | refine lal hL ?_ | refine lbs hL ?_); clear hL; intro bl w1 hL) | ((with_reducible refine lst' hL ?_); clear hL; intro w1 hL) | (go_at_call 10; refine (HJN.out _ hL.below).mono ?_; rintro e w3 ⟨⟨rp1, rn1, rc1⟩, rfl, ⟨R1, hr1, ho1⟩, hb3⟩; replace hL := hL.gainTail hb3 ho1; simp only [List.cons_append, List.nil_append] at hL; clear hb3 ho1; dsimp only) | (go_at_call 11; refine (HWD.out _ hL.below).mono ?_; rintro e w3 ⟨⟨rp2, rn2, rc2⟩, rfl, ⟨R2, hr2, ho2⟩, hb3⟩; replace hL := hL.gainTail hb3 ho2; simp only [List.cons_append, List.nil_append] at hL; clear hb3 ho2; dsimp only) | (go_at_call 12; refine (HIN.out _ hL.below).mono ?_; rintro e w1 ⟨rfl, hb⟩; replace hL := hL.grow hb; clear hb; dsimp only) | (go_at_call 13; refine (HHO.out _ hL.below).mono ?_; rintro e w1 ⟨rfl, hb⟩; replace hL := hL.grow hb; clear hb; dsimp only) | (go_at_call 14; refine (HTR.out _ hL.below).mono ?_; rintro e w1 ⟨rfl, hb⟩; replace hL := hL.grow hb; clear hb; dsimp only) | (go_at_call 18; refine (HTF.out _).mono ?_; rintro e w1 ⟨rfl, hb⟩; replace hL := hL.grow hb; clear hb; dsimp only) | (go_at_call 17; refine (HHF.out _ hL.below).mono ?_; rintro e w1 ⟨rfl, hb⟩; replace hL := hL.grow hb; clear hb; dsimp only))
  have HI1 := Lib.hid (fun w' (hb : Below w1.heap.size w1 w') => guessIs_ok ⟨gn, ⟨sn, slo, shi⟩, gt, gf, ml⟩ ⟨rp1, rn1, rc1⟩ q2 w' ((OwnI.ints (s := ⟨rp1, rn1, rc1⟩) ⟨R1, hr1, hL.ownOf (by repeat (first | exact List.Sublist.refl _ | exact List.sublist_append_right _ _ | apply List.Sublist.cons | refine List.Sublist.trans ?_ (List.sublist_append_left _ _)))⟩).grow hb) (IntsAt.grow (hL.get (S := fun w => IntsAt w q2 ml) (by simp)) hb))
  have HI2 := Lib.hid (fun w' (hb : Below w1.heap.size w1 w') => guessIs_ok ⟨gn, ⟨tn, tlo, thi⟩, gt, gf, ml⟩ ⟨rp2, rn2, rc2⟩ q5 w' ((OwnI.ints (s := ⟨rp2, rn2, rc2⟩) ⟨R2, hr2, hL.ownOf (by repeat (first | exact List.Sublist.refl _ | exact List.sublist_append_right _ _ | apply List.Sublist.cons | refine List.Sublist.trans ?_ (List.sublist_append_left _ _)))⟩).grow hb) (IntsAt.grow (hL.get (S := fun w => IntsAt w q5 ml) (by simp)) hb))
  clear hr1 hr2
  refine seq_begin [113, 114, 115, 116, 117, 118, 119, 120, 121, 122, 123, 124, 125, 126, 127, 128, 129, 130, 131, 132, 133, 134, 135, 136, 137, 138, 139, 140, 141, 142, 143, 144, 145, 146, 147, 148, 149, 150, 151, 152, 153, 154, 155, 156, 157, 158, 159, 160, 161, 162, 163, 164, 165, 166, 167, 168, 169, 10] ?_
  apply draw_val
  · intro g w hb hdep; replace hL := hL.grow hb; clear hdep; simp only [fillD, fLa, fLb, sTa, sTb]
    go_wp2_with (go_at_call 8; refine (HGB.out _).mono ?_; rintro e w3 ⟨rfl, hb3⟩; dsimp only)
    exact ⟨rfl, _, rfl, (by assumption), rfl⟩
  simp only [apN, apC]
  apply draw_val
  · intro g w hb hdep; replace hL := hL.grow hb; have d0 := yv hdep 0; clear hdep; simp only [fillD, fLa, fLb, sTa, sTb]; simp only [d0]
    go_wp2
    exact cY
  simp only [apN, apC]
  apply draw_val
  · intro g w hb hdep; replace hL := hL.grow hb; have d1 := yv hdep 1; clear hdep; simp only [fillD, fLa, fLb, sTa, sTb]; simp only [d1]
    go_wp2_with (first | (with_reducible refine lld hL ?_) | (with_reducible refine ldD hL ?_))
    exact cY
  simp only [apN, apC]
  apply draw_val
  · intro g w hb hdep; replace hL := hL.grow hb; have d1 := yv hdep 1; clear hdep; simp only [fillD, fLa, fLb, sTa, sTb]; simp only [d1]
    go_wp2_with (first | (with_reducible refine lld hL ?_) | (with_reducible refine ldD hL ?_))
    exact cY
  simp only [apN, apC]
  apply draw_val
  · intro g w hb hdep; replace hL := hL.grow hb; have d2 := yv hdep 2; have d3 := yv hdep 3; have d1 := yv hdep 1; clear hdep; simp only [fillD, fLa, fLb, sTa, sTb]; simp only [d2, d3, d1]
    go_wp2_with (go_at_call 19; refine (HCK.out _ hL.below).mono ?_; rintro e w3 ⟨rfl, hb3⟩; dsimp only)
    exact ⟨rfl, _, rfl, (by assumption), rfl⟩
  simp only [apN, apC]
  apply draw_val
  · intro g w hb hdep; replace hL := hL.grow hb; have d1 := yv hdep 1; clear hdep; simp only [fillD, fLa, fLb, sTa, sTb]; simp only [d1]
    go_wp2
    exact cY
  simp only [apN, apC]
  apply draw_val
  · intro g w hb hdep; replace hL := hL.grow hb; have d4 := yv hdep 4; have d5 := yv hdep 5; have d1 := yv hdep 1; clear hdep; simp only [fillD, fLa, fLb, sTa, sTb]; simp only [d4, d5, d1]
    go_wp2
    exact cY
  simp only [apN, apC]
  apply draw_val
  · intro g w hb hdep; replace hL := hL.grow hb; have d1 := yv hdep 1; have d6 := yv hdep 6; clear hdep; simp only [fillD, fLa, fLb, sTa, sTb]; simp only [d1, d6]
    go_wp2
    exact cY
  simp only [apN, apC]
  apply draw_val
  · intro g w hb hdep; replace hL := hL.grow hb; have d7 := yv hdep 7; clear hdep; simp only [fillD, fLa, fLb, sTa, sTb]; simp only [d7]
    go_wp2
    exact cY
  simp only [apN, apC]
  apply draw_val
  · intro g w hb hdep; replace hL := hL.grow hb; have d8 := yv hdep 8; clear hdep; simp only [fillD, fLa, fLb, sTa, sTb]; simp only [d8]
    go_wp2_with (first | (with_reducible refine lld hL ?_) | (with_reducible refine ldD hL ?_))
    exact cY
  simp only [apN, apC]
  apply draw_val
  · intro g w hb hdep; replace hL := hL.grow hb; have d8 := yv hdep 8; clear hdep; simp only [fillD, fLa, fLb, sTa, sTb]; simp only [d8]
    go_wp2
    exact cY
  simp only [apN, apC]
  apply draw_val
  · intro g w hb hdep; replace hL := hL.grow hb; have d8 := yv hdep 8; clear hdep; simp only [fillD, fLa, fLb, sTa, sTb]; simp only [d8]
    go_wp2
    exact cY
  simp only [apN, apC]
  apply draw_val
  · intro g w hb hdep; replace hL := hL.grow hb; have d8 := yv hdep 8; clear hdep; simp only [fillD, fLa, fLb, sTa, sTb]; simp only [d8]
    go_wp2_with (first | (with_reducible refine lld hL ?_) | (with_reducible refine ldD hL ?_))
    exact cY
  simp only [apN, apC]
  apply draw_val
  · intro g w hb hdep; replace hL := hL.grow hb; have d9 := yv hdep 9; have d10 := yv hdep 10; have d11 := yv hdep 11; have d12 := yv hdep 12; have d8 := yv hdep 8; clear hdep; simp only [fillD, fLa, fLb, sTa, sTb]; simp only [d9, d10, d11, d12, d8]
    go_wp2_with (go_at_call 9; refine (HI1.out _ hb).mono ?_; rintro e w3 ⟨rfl, hb3⟩; dsimp only)
    exact ⟨rfl, _, rfl, (by assumption), rfl⟩
  simp only [apN, apC]
  apply draw_val
  · intro g w hb hdep; replace hL := hL.grow hb; have d8 := yv hdep 8; have d13 := yv hdep 13; clear hdep; simp only [fillD, fLa, fLb, sTa, sTb]; simp only [d8, d13]
    go_wp2
    exact cY
  simp only [apN, apC]
  apply draw_val
  · intro g w hb hdep; replace hL := hL.grow hb; have d14 := yv hdep 14; clear hdep; simp only [fillD, fLa, fLb, sTa, sTb]; simp only [d14]
    go_wp2
    exact cY
  simp only [apN, apC]
  apply draw_val
  · intro g w hb hdep; replace hL := hL.grow hb; have d15 := yv hdep 15; clear hdep; simp only [fillD, fLa, fLb, sTa, sTb]; simp only [d15]
    go_wp2_with (first | (with_reducible refine lld hL ?_) | (with_reducible refine ldD hL ?_))
    exact cY
  simp only [apN, apC]
  apply draw_val
  · intro g w hb hdep; replace hL := hL.grow hb; have d15 := yv hdep 15; clear hdep; simp only [fillD, fLa, fLb, sTa, sTb]; simp only [d15]
    go_wp2
    exact cY
  simp only [apN, apC]
  apply draw_val
  · intro g w hb hdep; replace hL := hL.grow hb; have d15 := yv hdep 15; clear hdep; simp only [fillD, fLa, fLb, sTa, sTb]; simp only [d15]
    go_wp2
    exact cY
  simp only [apN, apC]
  apply draw_val
  · intro g w hb hdep; replace hL := hL.grow hb; have d15 := yv hdep 15; clear hdep; simp only [fillD, fLa, fLb, sTa, sTb]; simp only [d15]
    go_wp2_with (first | (with_reducible refine lld hL ?_) | (with_reducible refine ldD hL ?_))
    exact cY
  simp only [apN, apC]
  apply draw_val
  · intro g w hb hdep; replace hL := hL.grow hb; have d16 := yv hdep 16; have d17 := yv hdep 17; have d18 := yv hdep 18; have d19 := yv hdep 19; have d15 := yv hdep 15; clear hdep; simp only [fillD, fLa, fLb, sTa, sTb]; simp only [d16, d17, d18, d19, d15]
    go_wp2_with (go_at_call 9; refine (HI2.out _ hb).mono ?_; rintro e w3 ⟨rfl, hb3⟩; dsimp only)
    exact ⟨rfl, _, rfl, (by assumption), rfl⟩
  simp only [apN, apC]
  apply draw_val
  · intro g w hb hdep; replace hL := hL.grow hb; have d15 := yv hdep 15; have d20 := yv hdep 20; clear hdep; simp only [fillD, fLa, fLb, sTa, sTb]; simp only [d15, d20]
    go_wp2
    exact cY
  simp only [apN, apC]
  apply draw_val
  · intro g w hb hdep; replace hL := hL.grow hb; have d21 := yv hdep 21; clear hdep; simp only [fillD, fLa, fLb, sTa, sTb]; simp only [d21]
    go_wp2
    exact cY
  simp only [apN, apC]
  apply draw_val
  · intro g w hb hdep; replace hL := hL.grow hb; have d22 := yv hdep 22; clear hdep; simp only [fillD, fLa, fLb, sTa, sTb]; simp only [d22]
    go_wp2
    exact cY
  simp only [apN, apC]
  apply draw_val
  · intro g w hb hdep; replace hL := hL.grow hb; have d22 := yv hdep 22; clear hdep; simp only [fillD, fLa, fLb, sTa, sTb]; simp only [d22]
    go_wp2
    exact cY
  simp only [apN, apC]
  apply draw_val
  · intro g w hb hdep; replace hL := hL.grow hb; have d23 := yv hdep 23; have d24 := yv hdep 24; have d22 := yv hdep 22; clear hdep; simp only [fillD, fLa, fLb, sTa, sTb]; simp only [d23, d24, d22]
    go_wp2
    exact cY
  simp only [apN, apC]
  apply draw_val
  · intro g w hb hdep; replace hL := hL.grow hb; have d22 := yv hdep 22; have d25 := yv hdep 25; clear hdep; simp only [fillD, fLa, fLb, sTa, sTb]; simp only [d22, d25]
    go_wp2
    exact cY
  simp only [apN, apC]
  apply draw_val
  · intro g w hb hdep; replace hL := hL.grow hb; have d26 := yv hdep 26; clear hdep; simp only [fillD, fLa, fLb, sTa, sTb]; simp only [d26]
    go_wp2
    exact cY
  simp only [apN, apC]
  apply draw_val
  · intro g w hb hdep; replace hL := hL.grow hb; have d27 := yv hdep 27; clear hdep; simp only [fillD, fLa, fLb, sTa, sTb]; simp only [d27]
    go_wp2
    exact cY
  simp only [apN, apC]
  apply draw_val
  · intro g w hb hdep; replace hL := hL.grow hb; have d27 := yv hdep 27; clear hdep; simp only [fillD, fLa, fLb, sTa, sTb]; simp only [d27]
    go_wp2
    exact cY
  simp only [apN, apC]
  apply draw_val
  · intro g w hb hdep; replace hL := hL.grow hb; have d28 := yv hdep 28; have d29 := yv hdep 29; have d27 := yv hdep 27; clear hdep; simp only [fillD, fLa, fLb, sTa, sTb]; simp only [d28, d29, d27]
    go_wp2
    exact cY
  simp only [apN, apC]
  apply draw_val
  · intro g w hb hdep; replace hL := hL.grow hb; have d27 := yv hdep 27; have d30 := yv hdep 30; clear hdep; simp only [fillD, fLa, fLb, sTa, sTb]; simp only [d27, d30]
    go_wp2
    exact cY
  simp only [apN, apC]
  apply draw_val
  · intro g w hb hdep; replace hL := hL.grow hb; have d31 := yv hdep 31; clear hdep; simp only [fillD, fLa, fLb, sTa, sTb]; simp only [d31]
    go_wp2
    exact cY
  simp only [apN, apC]
  apply draw_val
  · intro g w hb hdep; replace hL := hL.grow hb; have d32 := yv hdep 32; clear hdep; simp only [fillD, fLa, fLb, sTa, sTb]; simp only [d32]
    go_wp2
    exact cY
  simp only [apN, apC]
  apply draw_val
  · intro g w hb hdep; replace hL := hL.grow hb; have d32 := yv hdep 32; clear hdep; simp only [fillD, fLa, fLb, sTa, sTb]; simp only [d32]
    go_wp2
    exact cY
  simp only [apN, apC]
  apply draw_val
  · intro g w hb hdep; replace hL := hL.grow hb; have d33 := yv hdep 33; have d34 := yv hdep 34; have d32 := yv hdep 32; clear hdep; simp only [fillD, fLa, fLb, sTa, sTb]; simp only [d33, d34, d32]
    go_wp2
    exact cY
  simp only [apN, apC]
  apply draw_val
  · intro g w hb hdep; replace hL := hL.grow hb; have d32 := yv hdep 32; have d35 := yv hdep 35; clear hdep; simp only [fillD, fLa, fLb, sTa, sTb]; simp only [d32, d35]
    go_wp2
    exact cY
  simp only [apN, apC]
  apply draw_val
  · intro g w hb hdep; replace hL := hL.grow hb; have d36 := yv hdep 36; clear hdep; simp only [fillD, fLa, fLb, sTa, sTb]; simp only [d36]
    go_wp2
    exact cY
  simp only [apN, apC]
  apply draw_val
  · intro g w hb hdep; replace hL := hL.grow hb; have d37 := yv hdep 37; clear hdep; simp only [fillD, fLa, fLb, sTa, sTb]; simp only [d37]
    go_wp2
    exact cY
  simp only [apN, apC]
  apply draw_val
  · intro g w hb hdep; replace hL := hL.grow hb; have d37 := yv hdep 37; clear hdep; simp only [fillD, fLa, fLb, sTa, sTb]; simp only [d37]
    go_wp2
    exact cY
  simp only [apN, apC]
  apply draw_val
  · intro g w hb hdep; replace hL := hL.grow hb; have d38 := yv hdep 38; have d39 := yv hdep 39; have d37 := yv hdep 37; clear hdep; simp only [fillD, fLa, fLb, sTa, sTb]; simp only [d38, d39, d37]
    go_wp2
    exact cY
  simp only [apN, apC]
  apply draw_val
  · intro g w hb hdep; replace hL := hL.grow hb; have d37 := yv hdep 37; have d40 := yv hdep 40; clear hdep; simp only [fillD, fLa, fLb, sTa, sTb]; simp only [d37, d40]
    go_wp2
    exact cY
  simp only [apN, apC]
  apply draw_val
  · intro g w hb hdep; replace hL := hL.grow hb; have d41 := yv hdep 41; clear hdep; simp only [fillD, fLa, fLb, sTa, sTb]; simp only [d41]
    go_wp2
    exact cY
  simp only [apN, apC]
  apply draw_val
  · intro g w hb hdep; replace hL := hL.grow hb; have d42 := yv hdep 42; clear hdep; simp only [fillD, fLa, fLb, sTa, sTb]; simp only [d42]
    go_wp2
    exact cY
  simp only [apN, apC]
  apply draw_val
  · intro g w hb hdep; replace hL := hL.grow hb; have d42 := yv hdep 42; clear hdep; simp only [fillD, fLa, fLb, sTa, sTb]; simp only [d42]
    go_wp2
    exact cY
  simp only [apN, apC]
  apply draw_val
  · intro g w hb hdep; replace hL := hL.grow hb; have d43 := yv hdep 43; have d44 := yv hdep 44; have d42 := yv hdep 42; clear hdep; simp only [fillD, fLa, fLb, sTa, sTb]; simp only [d43, d44, d42]
    go_wp2
    exact cY
  simp only [apN, apC]
  apply draw_val
  · intro g w hb hdep; replace hL := hL.grow hb; have d42 := yv hdep 42; have d45 := yv hdep 45; clear hdep; simp only [fillD, fLa, fLb, sTa, sTb]; simp only [d42, d45]
    go_wp2
    exact cY
  simp only [apN, apC]
  apply draw_val
  · intro g w hb hdep; replace hL := hL.grow hb; have d46 := yv hdep 46; clear hdep; simp only [fillD, fLa, fLb, sTa, sTb]; simp only [d46]
    go_wp2
    exact cY
  simp only [apN, apC]
  apply draw_val
  · intro g w hb hdep; replace hL := hL.grow hb; have d47 := yv hdep 47; clear hdep; simp only [fillD, fLa, fLb, sTa, sTb]; simp only [d47]
    go_wp2
    exact cY
  simp only [apN, apC]
  apply draw_val
  · intro g w hb hdep; replace hL := hL.grow hb; have d47 := yv hdep 47; clear hdep; simp only [fillD, fLa, fLb, sTa, sTb]; simp only [d47]
    go_wp2
    exact cY
  simp only [apN, apC]
  apply draw_val
  · intro g w hb hdep; replace hL := hL.grow hb; have d48 := yv hdep 48; have d49 := yv hdep 49; have d47 := yv hdep 47; clear hdep; simp only [fillD, fLa, fLb, sTa, sTb]; simp only [d48, d49, d47]
    go_wp2
    exact cY
  simp only [apN, apC]
  apply draw_val
  · intro g w hb hdep; replace hL := hL.grow hb; have d47 := yv hdep 47; have d50 := yv hdep 50; clear hdep; simp only [fillD, fLa, fLb, sTa, sTb]; simp only [d47, d50]
    go_wp2
    exact cY
  simp only [apN, apC]
  apply draw_val
  · intro g w hb hdep; replace hL := hL.grow hb; have d51 := yv hdep 51; clear hdep; simp only [fillD, fLa, fLb, sTa, sTb]; simp only [d51]
    go_wp2
    exact cY
  simp only [apN, apC]
  apply draw_val
  · intro g w hb hdep; replace hL := hL.grow hb; have d52 := yv hdep 52; clear hdep; simp only [fillD, fLa, fLb, sTa, sTb]; simp only [d52]
    go_wp2
    exact cY
  simp only [apN, apC]
  apply draw_val
  · intro g w hb hdep; replace hL := hL.grow hb; have d52 := yv hdep 52; clear hdep; simp only [fillD, fLa, fLb, sTa, sTb]; simp only [d52]
    go_wp2
    exact cY
  simp only [apN, apC]
  apply draw_val
  · intro g w hb hdep; replace hL := hL.grow hb; have d53 := yv hdep 53; have d54 := yv hdep 54; have d52 := yv hdep 52; clear hdep; simp only [fillD, fLa, fLb, sTa, sTb]; simp only [d53, d54, d52]
    go_wp2
    exact cY
  simp only [apN, apC]
  apply draw_val
  · intro g w hb hdep; replace hL := hL.grow hb; have d52 := yv hdep 52; have d55 := yv hdep 55; clear hdep; simp only [fillD, fLa, fLb, sTa, sTb]; simp only [d52, d55]
    go_wp2
    exact cY
  simp only [apN, apC]
  apply draw_val
  · intro g w hb hdep; replace hL := hL.grow hb; have d56 := yv hdep 56; clear hdep; simp only [fillD, fLa, fLb, sTa, sTb]; simp only [d56]
    go_wp2
    exact cY
  simp only [apN, apC]
  refine seq_end hL (by kernel_rfl) ?_
  intro g w2 hb hR; simp only [List.length_cons, List.length_nil, Nat.reduceAdd] at hR
  have e0 := yv hR 0
  have e1 := yv hR 1
  have e2 := yv hR 2
  have e3 := yv hR 3
  have e4 := yv hR 4
  have e5 := yv hR 5
  have e6 := yv hR 6
  have e7 := yv hR 7
  have e8 := yv hR 8
  have e9 := yv hR 9
  have e10 := yv hR 10
  have e11 := yv hR 11
  have e12 := yv hR 12
  have e13 := yv hR 13
  have e14 := yv hR 14
  have e15 := yv hR 15
  have e16 := yv hR 16
  have e17 := yv hR 17
  have e18 := yv hR 18
  have e19 := yv hR 19
  have e20 := yv hR 20
  have e21 := yv hR 21
  have e22 := yv hR 22
  have e23 := yv hR 23
  have e24 := yv hR 24
  have e25 := yv hR 25
  have e26 := yv hR 26
  have e27 := yv hR 27
  have e28 := yv hR 28
  have e29 := yv hR 29
  have e30 := yv hR 30
  have e31 := yv hR 31
  have e32 := yv hR 32
  have e33 := yv hR 33
  have e34 := yv hR 34
  have e35 := yv hR 35
  have e36 := yv hR 36
  have e37 := yv hR 37
  have e38 := yv hR 38
  have e39 := yv hR 39
  have e40 := yv hR 40
  have e41 := yv hR 41
  have e42 := yv hR 42
  have e43 := yv hR 43
  have e44 := yv hR 44
  have e45 := yv hR 45
  have e46 := yv hR 46
  have e47 := yv hR 47
  have e48 := yv hR 48
  have e49 := yv hR 49
  have e50 := yv hR 50
  have e51 := yv hR 51
  have e52 := yv hR 52
  have e53 := yv hR 53
  have e54 := yv hR 54
  have e55 := yv hR 55
  have e56 := yv hR 56
  have e57 := yv hR 57
  clear hR; simp only [fillD, fLa, fLb, sTa, sTb]
  simp only [e0, e1, e2, e3, e4, e5, e6, e7, e8, e9, e10, e11, e12, e13, e14, e15, e16, e17, e18, e19, e20, e21, e22, e23, e24, e25, e26, e27, e28, e29, e30, e31, e32, e33, e34, e35, e36, e37, e38, e39, e40, e41, e42, e43, e44, e45, e46, e47, e48, e49, e50, e51, e52, e53, e54, e55, e56, e57]
  clear e0 e1 e2 e3 e4 e5 e6 e7 e8 e9 e10 e11 e12 e13 e14 e15 e16 e17 e18 e19 e20 e21 e22 e23 e24 e25 e26 e27 e28 e29 e30 e31 e32 e33 e34 e35 e36 e37 e38 e39 e40 e41 e42 e43 e44 e45 e46 e47 e48 e49 e50 e51 e52 e53 e54 e55 e56 e57
  replace hL := hL.grow hb
  clear hb
  go_wp2_with (first | (with_reducible refine lld hL ?_) | ((with_reducible first | refine lbx hL ?_ | refine lal hL ?_ | refine lbs hL ?_); clear hL; intro bl w1 hL) | ((with_reducible refine lst' hL ?_); clear hL; intro w1 hL))
  (try simp only [Exit.inBlock, Exit.then]); refine' ret1 rfl ?_ rfl ?_; (case refine'_2 => exact cRes)
  exact ⟨by simp, hL.below⟩

end Go.Proofs.YteimpfplgdhclaaGreat
