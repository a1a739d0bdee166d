/- The walks over the reference's StepOf, kind by kind: less, same, not; fields of what is no thing. Conditions: what a right program and a right run have. -/
import Derived.Test.YtkdbehgekeidoaaDoorRefStepA
set_option linter.unusedSimpArgs false
set_option linter.unusedVariables false
namespace Go.Proofs.YtkdbehgekeidoaaDoor
open Go.RowKit

theorem rTruthZ (w0 : World) (b10 : Nat) (x y z : Int) (b : Bool) (L : List LBlk) (D : List Datum) (w : World) (hz : z = if b then 1 else y) (hL : Loc w0 w ((b10, 56, [.int .i64 x, .int .i64 y]) :: L) D) :
    Calls Tryd.prog 27 #[.bool b, .pointer (some ⟨b10, 0, none⟩)] w fun e w' => e = .returned (.tuple #[]) ∧ Loc w0 w' ((b10, 56, [.int .i64 2, .int .i64 z]) :: L) D := by
  rw [hz]; exact rTruth_any w0 b10 x y b L D w hL

set_option maxRecDepth 100000 in
set_option maxHeartbeats 4000000 in
theorem rstep_8_yes (p : Pg) (is : Nat → Ins) (ins : Sl) (r0 : Rn) (s : Rs) (k : Nat) (t : Nat) (a : Nat) (b : Nat) (num : Int) (goto : Int) (na nb z : Int) (w : World) (hr : RunIs w r0 s) (hf : Fits s) (hend : s.ending = 0) (hk : s.at' = k) (hkn : k < p.n) (hk6 : p.n ≤ 60) (hc : CodeAt w p is) (hv : 0 < s.vars.length) (hi : is k = ⟨8, (t : Int), (a : Int), (b : Int), num, goto⟩) (ht : t < s.vars.length) (ha : a < s.vars.length) (hb : b < s.vars.length) (hva : (Vl.mk 1 na) = s.val a) (hvb : (Vl.mk 1 nb) = s.val b) (hz : z = if decide (na < nb) then 1 else 0) :
    Calls Tryd.prog 10 #[p.v, r0.v, ins.v] w fun e w' => Gives w (s.set t ⟨2, z⟩) e w' := by
  have HCOPY := Lib.hid (fun w' (hb : Below w.heap.size w w') => copyRun_any r0 s w' (hr.grow hb) hf)
  obtain ⟨bc, oc, hpc, hcr⟩ := hc
  have hpc2 := hpc (by omega)
  have hI1 := ReadsAt.agg (P := Tryd.prog) tInstr (hcr k hkn).1 (fun j v hj => (hcr k hkn).2 j v hj) rfl
  have hI2 := ReadsAt.cell (P := Tryd.prog) tInt (hcr k hkn).1 ((hcr k hkn).2 0 _ rfl)
  rw [hi] at hI1 hI2
  have HI1 := Lib.hid (show ReadsAt Tryd.prog 54 w bc (oc + k * 6) (Ins.v ⟨8, (t : Int), (a : Int), (b : Int), num, goto⟩) from hI1)
  have HI2 := Lib.hid (show ReadsAt Tryd.prog 3 w bc (oc + k * 6) (.int .i64 8) by have := hI2; rw [Nat.add_zero] at this; exact this)
  have HZ := Lib.hid hz
  clear hz
  have HAV := Lib.hid hva
  clear hva
  have HBV := Lib.hid hvb
  clear hvb
  have HK := Lib.hid hk
  have HE := Lib.hid hend
  have hkm : k ≤ 60 := by omega
  have HTL := Lib.hid ht
  have HAL := Lib.hid ha
  have HBL := Lib.hid hb
  have HFIT := Lib.hid hf
  have HVL := Lib.hid hv
  clear hr hf hend hk hpc hcr hI1 hI2 hi hv ht ha hb
  obtain ⟨pv, pf, pc, pn, pcap⟩ := p
  dsimp only at hpc2 hkn hk6
  subst hpc2
  have hne : ((k : Int) == (pn : Int)) = false := by simp; omega
  have hL := Loc.start w
  go_enter Tryd.func10, Tryd.ntmps10
  go_upto_region 2 with (first | (with_reducible refine lld hL ?_) | ((with_reducible first | refine lbx hL ?_ | refine lal hL ?_ | refine lbs hL ?_); clear hL; intro bl w1 hL) | ((with_reducible refine lst' hL ?_); clear hL; intro w1 hL) | (go_at_call 23; refine (HCOPY.out _ hL.below).mono ?_; rintro e w3 ⟨r, ts, Rv, Rt, Rl, Rf, rfl, hR, ho, hb⟩; replace hL := hL.gainTail hb ho; simp only [List.cons_append, List.nil_append] at hL; clear ho hb; dsimp only))
  clear HCOPY
  have hvn := hR.vars.flatlen lenV (by decide)
  obtain ⟨gv, cs, hpv, rfl, htk, hlen⟩ := hR.vars.block (by have := HVL.out; omega)
  simp only [List.cons_append, List.nil_append] at hL
  have HA := Lib.hid (show Reads Tryd.prog 56 cs (a * 2) ((Vl.mk 1 na)).v by rw [HAV.out]; exact Reads.agg tValue (hR.vars.elem lenV dV (k := a) (by have := HAL.out; omega)) rfl)
  have ha1 : a < r.vars.n := by have := HAL.out; omega
  have HB := Lib.hid (show Reads Tryd.prog 56 cs (b * 2) ((Vl.mk 1 nb)).v by rw [HBV.out]; exact Reads.agg tValue (hR.vars.elem lenV dV (k := b) (by have := HBL.out; omega)) rfl)
  have hb1 : b < r.vars.n := by have := HBL.out; omega
  have HPutV := Lib.hid (fun v => hR.vars.put lenV dV (k := t) (by have := HTL.out; omega) v)
  have ht1 : t < r.vars.n := by have := HTL.out; omega
  have HLenT := Lib.hid (show t * 2 + 2 ≤ cs.length by have := hR.vars.fits; rw [hlen]; omega)
  have hra : r.at' = (k : Int) := hR.a.trans HK.out
  have hre : r.ending = 0 := hR.e.trans HE.out
  have HR := Lib.hid hR
  clear hR hvn htk hlen
  obtain ⟨ra, ⟨vp, vn, vc⟩, rt, rk, rl, re⟩ := r
  dsimp only at hpv hra hre ha1 hb1 ht1
  subst hpv
  subst hra
  subst hre
  go_upto_region 7 with (first | (with_reducible refine lld hL ?_) | ((with_reducible first | refine lbx hL ?_ | refine lal hL ?_ | refine lbs hL ?_); clear hL; intro bl w1 hL) | ((with_reducible refine lst' hL ?_); clear hL; intro w1 hL) | (go_at_call 24; refine (rNamesA_any _ _).mono ?_; rintro e w1 ⟨rfl, hb⟩; replace hL := hL.grow hb; clear hb; dsimp only) | (go_at_call 25; refine (rNamesB_any _ _).mono ?_; rintro e w1 ⟨rfl, hb⟩; replace hL := hL.grow hb; clear hb; dsimp only) | (go_at_call 30; refine (rNamesTo_any _ _).mono ?_; rintro e w1 ⟨rfl, hb⟩; replace hL := hL.grow hb; clear hb; dsimp only) | (go_at_call 20; refine (between_any _ _ _ _).mono ?_; rintro e w' ⟨rfl, rfl⟩; dsimp only) | ((with_reducible refine' loc_loadB HI2.out hL ?_ ?_ ?_); (case refine'_1 => exact cWant); (case refine'_2 => rfl)))
  clear HI2
  go_upto_region 8 with (first | (with_reducible refine lld hL ?_) | ((with_reducible first | refine lbx hL ?_ | refine lal hL ?_ | refine lbs hL ?_); clear hL; intro bl w1 hL) | ((with_reducible refine lst' hL ?_); clear hL; intro w1 hL) | (go_at_call 24; refine (rNamesA_any _ _).mono ?_; rintro e w1 ⟨rfl, hb⟩; replace hL := hL.grow hb; clear hb; dsimp only) | (go_at_call 25; refine (rNamesB_any _ _).mono ?_; rintro e w1 ⟨rfl, hb⟩; replace hL := hL.grow hb; clear hb; dsimp only) | (go_at_call 30; refine (rNamesTo_any _ _).mono ?_; rintro e w1 ⟨rfl, hb⟩; replace hL := hL.grow hb; clear hb; dsimp only) | (go_at_call 20; refine (between_any _ _ _ _).mono ?_; rintro e w' ⟨rfl, rfl⟩; dsimp only) | ((with_reducible refine' loc_loadB HI1.out hL ?_ ?_ ?_); (case refine'_1 => exact cWant); (case refine'_2 => rfl)))
  clear HI1
  have hna : nA 8 = true := by decide
  have hnb : nB 8 = true := by decide
  have hnt : nTo 8 = true := by decide
  have hbt : betw 8 5 8 = true := by decide
  go_upto_region 13 with (first | (with_reducible refine lld hL ?_) | ((with_reducible first | refine lbx hL ?_ | refine lal hL ?_ | refine lbs hL ?_); clear hL; intro bl w1 hL) | ((with_reducible refine lst' hL ?_); clear hL; intro w1 hL) | (go_at_call 24; refine (rNamesA_any _ _).mono ?_; rintro e w1 ⟨rfl, hb⟩; replace hL := hL.grow hb; clear hb; dsimp only) | (go_at_call 25; refine (rNamesB_any _ _).mono ?_; rintro e w1 ⟨rfl, hb⟩; replace hL := hL.grow hb; clear hb; dsimp only) | (go_at_call 30; refine (rNamesTo_any _ _).mono ?_; rintro e w1 ⟨rfl, hb⟩; replace hL := hL.grow hb; clear hb; dsimp only) | (go_at_call 20; refine (between_any _ _ _ _).mono ?_; rintro e w' ⟨rfl, rfl⟩; dsimp only) | ((with_reducible refine' loc_load (cs := cs) (off := a * 2) hL ?_ ?_ ?_ HA.out ?_); (case refine'_4 => exact cWant); (case refine'_5 => rfl); (case refine'_6 => repeat (first | exact InL.head | apply InL.tail))) | ((with_reducible refine' loc_load (cs := cs) (off := b * 2) hL ?_ ?_ ?_ HB.out ?_); (case refine'_4 => exact cWant); (case refine'_5 => rfl); (case refine'_6 => repeat (first | exact InL.head | apply InL.tail))))
  clear HA HB
  go_upto_region 25 with (first | (with_reducible refine lld hL ?_) | ((with_reducible first | refine lbx hL ?_ | refine lal hL ?_ | refine lbs hL ?_); clear hL; intro bl w1 hL) | ((with_reducible refine lst' hL ?_); clear hL; intro w1 hL) | (go_at_call 24; refine (rNamesA_any _ _).mono ?_; rintro e w1 ⟨rfl, hb⟩; replace hL := hL.grow hb; clear hb; dsimp only) | (go_at_call 25; refine (rNamesB_any _ _).mono ?_; rintro e w1 ⟨rfl, hb⟩; replace hL := hL.grow hb; clear hb; dsimp only) | (go_at_call 30; refine (rNamesTo_any _ _).mono ?_; rintro e w1 ⟨rfl, hb⟩; replace hL := hL.grow hb; clear hb; dsimp only) | (go_at_call 20; refine (between_any _ _ _ _).mono ?_; rintro e w' ⟨rfl, rfl⟩; dsimp only))
  go_upto_region 61 with (first | (with_reducible refine lld hL ?_) | ((with_reducible first | refine lbx hL ?_ | refine lal hL ?_ | refine lbs hL ?_); clear hL; intro bl w1 hL) | ((with_reducible refine lst' hL ?_); clear hL; intro w1 hL) | (go_at_call 27; refine (rTruthZ _ bl _ 0 z _ _ _ _ HZ.out hL).mono ?_; rintro e w3 ⟨rfl, hL2⟩; replace hL := hL2; clear hL2; dsimp only))
  go_upto_region 62 with (first | (with_reducible refine lld hL ?_) | ((with_reducible first | refine lbx hL ?_ | refine lal hL ?_ | refine lbs hL ?_); clear hL; intro bl w1 hL) | ((with_reducible refine lst' hL ?_); clear hL; intro w1 hL) | (go_at_call 24; refine (rNamesA_any _ _).mono ?_; rintro e w1 ⟨rfl, hb⟩; replace hL := hL.grow hb; clear hb; dsimp only) | (go_at_call 25; refine (rNamesB_any _ _).mono ?_; rintro e w1 ⟨rfl, hb⟩; replace hL := hL.grow hb; clear hb; dsimp only) | (go_at_call 30; refine (rNamesTo_any _ _).mono ?_; rintro e w1 ⟨rfl, hb⟩; replace hL := hL.grow hb; clear hb; dsimp only) | (go_at_call 20; refine (between_any _ _ _ _).mono ?_; rintro e w' ⟨rfl, rfl⟩; dsimp only))
  go_upto_region 63 with (first | (with_reducible refine lld hL ?_) | ((with_reducible refine' loc_store (b := gv) (off := t * 2) (vs := (Vl.mk 2 z).cells) (cs := cs) (cs' := spliced cs (t * 2) (Vl.mk 2 z).cells) hL ?_ ?_ ?_ ?_ ?_ ?_ ?_ ?_ ?_); (case refine'_3 => exact cWant); (case refine'_4 => rfl); (case refine'_5 => repeat (first | exact InL.head | apply InL.tail)); (case refine'_6 => rfl); (case refine'_7 => exact tValue.sz); (case refine'_8 => rfl); (case refine'_9 => exact HLenT.out); (case refine'_10 => rfl); clear hL; intro w' hL))
  go_wp2_with (first | (with_reducible refine lld hL ?_) | ((with_reducible first | refine lbx hL ?_ | refine lal hL ?_ | refine lbs hL ?_); clear hL; intro bl w1 hL) | ((with_reducible refine lst' hL ?_); clear hL; intro w1 hL) | (go_at_call 24; refine (rNamesA_any _ _).mono ?_; rintro e w1 ⟨rfl, hb⟩; replace hL := hL.grow hb; clear hb; dsimp only) | (go_at_call 25; refine (rNamesB_any _ _).mono ?_; rintro e w1 ⟨rfl, hb⟩; replace hL := hL.grow hb; clear hb; dsimp only) | (go_at_call 30; refine (rNamesTo_any _ _).mono ?_; rintro e w1 ⟨rfl, hb⟩; replace hL := hL.grow hb; clear hb; dsimp only) | (go_at_call 20; refine (between_any _ _ _ _).mono ?_; rintro e w' ⟨rfl, rfl⟩; dsimp only))
  (try simp only [Exit.inBlock, Exit.then]); refine' ret1 rfl ?_ rfl ?_; (case refine'_2 => exact cRes)
  obtain ⟨h1, h2, h3, h4, h5, h6, h7⟩ := HR.out
  refine ⟨⟨((k : Int) + 1), ⟨some ⟨gv, 0, none⟩, vn, vc⟩, rt, rk, rl, 0⟩, ts, _, Rt, Rl, Rf, rfl, ⟨HPutV.out (Vl.mk 2 z), h2, h3, h4, by show (k : Int) + 1 = s.at' + 1; rw [HK.out], h6, HE.out.symm⟩, ?_, hL.below⟩
  exact hL.ownOf (by repeat (first | exact List.Sublist.refl _ | apply List.Sublist.cons))

set_option maxRecDepth 100000 in
set_option maxHeartbeats 4000000 in
theorem rstep_9_kin (p : Pg) (is : Nat → Ins) (ins : Sl) (r0 : Rn) (s : Rs) (k : Nat) (t : Nat) (a : Nat) (b : Nat) (num : Int) (goto : Int) (ka na nb z : Int) (w : World) (hr : RunIs w r0 s) (hf : Fits s) (hend : s.ending = 0) (hk : s.at' = k) (hkn : k < p.n) (hk6 : p.n ≤ 60) (hc : CodeAt w p is) (hv : 0 < s.vars.length) (hi : is k = ⟨9, (t : Int), (a : Int), (b : Int), num, goto⟩) (ht : t < s.vars.length) (ha : a < s.vars.length) (hb : b < s.vars.length) (hva : (Vl.mk ka na) = s.val a) (hvb : (Vl.mk ka nb) = s.val b) (hz : z = if (na == nb) then 1 else 0) :
    Calls Tryd.prog 10 #[p.v, r0.v, ins.v] w fun e w' => Gives w (s.set t ⟨2, z⟩) e w' := by
  have HCOPY := Lib.hid (fun w' (hb : Below w.heap.size w w') => copyRun_any r0 s w' (hr.grow hb) hf)
  obtain ⟨bc, oc, hpc, hcr⟩ := hc
  have hpc2 := hpc (by omega)
  have hI1 := ReadsAt.agg (P := Tryd.prog) tInstr (hcr k hkn).1 (fun j v hj => (hcr k hkn).2 j v hj) rfl
  have hI2 := ReadsAt.cell (P := Tryd.prog) tInt (hcr k hkn).1 ((hcr k hkn).2 0 _ rfl)
  rw [hi] at hI1 hI2
  have HI1 := Lib.hid (show ReadsAt Tryd.prog 54 w bc (oc + k * 6) (Ins.v ⟨9, (t : Int), (a : Int), (b : Int), num, goto⟩) from hI1)
  have HI2 := Lib.hid (show ReadsAt Tryd.prog 3 w bc (oc + k * 6) (.int .i64 9) by have := hI2; rw [Nat.add_zero] at this; exact this)
  have HZ := Lib.hid hz
  clear hz
  have HAV := Lib.hid hva
  clear hva
  have HBV := Lib.hid hvb
  clear hvb
  have HK := Lib.hid hk
  have HE := Lib.hid hend
  have hkm : k ≤ 60 := by omega
  have HTL := Lib.hid ht
  have HAL := Lib.hid ha
  have HBL := Lib.hid hb
  have HFIT := Lib.hid hf
  have HVL := Lib.hid hv
  clear hr hf hend hk hpc hcr hI1 hI2 hi hv ht ha hb
  obtain ⟨pv, pf, pc, pn, pcap⟩ := p
  dsimp only at hpc2 hkn hk6
  subst hpc2
  have hne : ((k : Int) == (pn : Int)) = false := by simp; omega
  have hL := Loc.start w
  go_enter Tryd.func10, Tryd.ntmps10
  go_upto_region 2 with (first | (with_reducible refine lld hL ?_) | ((with_reducible first | refine lbx hL ?_ | refine lal hL ?_ | refine lbs hL ?_); clear hL; intro bl w1 hL) | ((with_reducible refine lst' hL ?_); clear hL; intro w1 hL) | (go_at_call 23; refine (HCOPY.out _ hL.below).mono ?_; rintro e w3 ⟨r, ts, Rv, Rt, Rl, Rf, rfl, hR, ho, hb⟩; replace hL := hL.gainTail hb ho; simp only [List.cons_append, List.nil_append] at hL; clear ho hb; dsimp only))
  clear HCOPY
  have hvn := hR.vars.flatlen lenV (by decide)
  obtain ⟨gv, cs, hpv, rfl, htk, hlen⟩ := hR.vars.block (by have := HVL.out; omega)
  simp only [List.cons_append, List.nil_append] at hL
  have HA := Lib.hid (show Reads Tryd.prog 56 cs (a * 2) ((Vl.mk ka na)).v by rw [HAV.out]; exact Reads.agg tValue (hR.vars.elem lenV dV (k := a) (by have := HAL.out; omega)) rfl)
  have ha1 : a < r.vars.n := by have := HAL.out; omega
  have HB := Lib.hid (show Reads Tryd.prog 56 cs (b * 2) ((Vl.mk ka nb)).v by rw [HBV.out]; exact Reads.agg tValue (hR.vars.elem lenV dV (k := b) (by have := HBL.out; omega)) rfl)
  have hb1 : b < r.vars.n := by have := HBL.out; omega
  have HPutV := Lib.hid (fun v => hR.vars.put lenV dV (k := t) (by have := HTL.out; omega) v)
  have ht1 : t < r.vars.n := by have := HTL.out; omega
  have HLenT := Lib.hid (show t * 2 + 2 ≤ cs.length by have := hR.vars.fits; rw [hlen]; omega)
  have hra : r.at' = (k : Int) := hR.a.trans HK.out
  have hre : r.ending = 0 := hR.e.trans HE.out
  have HR := Lib.hid hR
  clear hR hvn htk hlen
  obtain ⟨ra, ⟨vp, vn, vc⟩, rt, rk, rl, re⟩ := r
  dsimp only at hpv hra hre ha1 hb1 ht1
  subst hpv
  subst hra
  subst hre
  go_upto_region 7 with (first | (with_reducible refine lld hL ?_) | ((with_reducible first | refine lbx hL ?_ | refine lal hL ?_ | refine lbs hL ?_); clear hL; intro bl w1 hL) | ((with_reducible refine lst' hL ?_); clear hL; intro w1 hL) | (go_at_call 24; refine (rNamesA_any _ _).mono ?_; rintro e w1 ⟨rfl, hb⟩; replace hL := hL.grow hb; clear hb; dsimp only) | (go_at_call 25; refine (rNamesB_any _ _).mono ?_; rintro e w1 ⟨rfl, hb⟩; replace hL := hL.grow hb; clear hb; dsimp only) | (go_at_call 30; refine (rNamesTo_any _ _).mono ?_; rintro e w1 ⟨rfl, hb⟩; replace hL := hL.grow hb; clear hb; dsimp only) | (go_at_call 20; refine (between_any _ _ _ _).mono ?_; rintro e w' ⟨rfl, rfl⟩; dsimp only) | ((with_reducible refine' loc_loadB HI2.out hL ?_ ?_ ?_); (case refine'_1 => exact cWant); (case refine'_2 => rfl)))
  clear HI2
  go_upto_region 8 with (first | (with_reducible refine lld hL ?_) | ((with_reducible first | refine lbx hL ?_ | refine lal hL ?_ | refine lbs hL ?_); clear hL; intro bl w1 hL) | ((with_reducible refine lst' hL ?_); clear hL; intro w1 hL) | (go_at_call 24; refine (rNamesA_any _ _).mono ?_; rintro e w1 ⟨rfl, hb⟩; replace hL := hL.grow hb; clear hb; dsimp only) | (go_at_call 25; refine (rNamesB_any _ _).mono ?_; rintro e w1 ⟨rfl, hb⟩; replace hL := hL.grow hb; clear hb; dsimp only) | (go_at_call 30; refine (rNamesTo_any _ _).mono ?_; rintro e w1 ⟨rfl, hb⟩; replace hL := hL.grow hb; clear hb; dsimp only) | (go_at_call 20; refine (between_any _ _ _ _).mono ?_; rintro e w' ⟨rfl, rfl⟩; dsimp only) | ((with_reducible refine' loc_loadB HI1.out hL ?_ ?_ ?_); (case refine'_1 => exact cWant); (case refine'_2 => rfl)))
  clear HI1
  have hna : nA 9 = true := by decide
  have hnb : nB 9 = true := by decide
  have hnt : nTo 9 = true := by decide
  have hbt : betw 9 5 8 = false := by decide
  go_upto_region 13 with (first | (with_reducible refine lld hL ?_) | ((with_reducible first | refine lbx hL ?_ | refine lal hL ?_ | refine lbs hL ?_); clear hL; intro bl w1 hL) | ((with_reducible refine lst' hL ?_); clear hL; intro w1 hL) | (go_at_call 24; refine (rNamesA_any _ _).mono ?_; rintro e w1 ⟨rfl, hb⟩; replace hL := hL.grow hb; clear hb; dsimp only) | (go_at_call 25; refine (rNamesB_any _ _).mono ?_; rintro e w1 ⟨rfl, hb⟩; replace hL := hL.grow hb; clear hb; dsimp only) | (go_at_call 30; refine (rNamesTo_any _ _).mono ?_; rintro e w1 ⟨rfl, hb⟩; replace hL := hL.grow hb; clear hb; dsimp only) | (go_at_call 20; refine (between_any _ _ _ _).mono ?_; rintro e w' ⟨rfl, rfl⟩; dsimp only) | ((with_reducible refine' loc_load (cs := cs) (off := a * 2) hL ?_ ?_ ?_ HA.out ?_); (case refine'_4 => exact cWant); (case refine'_5 => rfl); (case refine'_6 => repeat (first | exact InL.head | apply InL.tail))) | ((with_reducible refine' loc_load (cs := cs) (off := b * 2) hL ?_ ?_ ?_ HB.out ?_); (case refine'_4 => exact cWant); (case refine'_5 => rfl); (case refine'_6 => repeat (first | exact InL.head | apply InL.tail))))
  clear HA HB
  go_upto_region 25 with (first | (with_reducible refine lld hL ?_) | ((with_reducible first | refine lbx hL ?_ | refine lal hL ?_ | refine lbs hL ?_); clear hL; intro bl w1 hL) | ((with_reducible refine lst' hL ?_); clear hL; intro w1 hL) | (go_at_call 24; refine (rNamesA_any _ _).mono ?_; rintro e w1 ⟨rfl, hb⟩; replace hL := hL.grow hb; clear hb; dsimp only) | (go_at_call 25; refine (rNamesB_any _ _).mono ?_; rintro e w1 ⟨rfl, hb⟩; replace hL := hL.grow hb; clear hb; dsimp only) | (go_at_call 30; refine (rNamesTo_any _ _).mono ?_; rintro e w1 ⟨rfl, hb⟩; replace hL := hL.grow hb; clear hb; dsimp only) | (go_at_call 20; refine (between_any _ _ _ _).mono ?_; rintro e w' ⟨rfl, rfl⟩; dsimp only))
  go_upto_region 61 with (first | (with_reducible refine lld hL ?_) | ((with_reducible first | refine lbx hL ?_ | refine lal hL ?_ | refine lbs hL ?_); clear hL; intro bl w1 hL) | ((with_reducible refine lst' hL ?_); clear hL; intro w1 hL) | (go_at_call 27; refine (rTruthZ _ bl _ 0 z _ _ _ _ HZ.out hL).mono ?_; rintro e w3 ⟨rfl, hL2⟩; replace hL := hL2; clear hL2; dsimp only))
  go_upto_region 62 with (first | (with_reducible refine lld hL ?_) | ((with_reducible first | refine lbx hL ?_ | refine lal hL ?_ | refine lbs hL ?_); clear hL; intro bl w1 hL) | ((with_reducible refine lst' hL ?_); clear hL; intro w1 hL) | (go_at_call 24; refine (rNamesA_any _ _).mono ?_; rintro e w1 ⟨rfl, hb⟩; replace hL := hL.grow hb; clear hb; dsimp only) | (go_at_call 25; refine (rNamesB_any _ _).mono ?_; rintro e w1 ⟨rfl, hb⟩; replace hL := hL.grow hb; clear hb; dsimp only) | (go_at_call 30; refine (rNamesTo_any _ _).mono ?_; rintro e w1 ⟨rfl, hb⟩; replace hL := hL.grow hb; clear hb; dsimp only) | (go_at_call 20; refine (between_any _ _ _ _).mono ?_; rintro e w' ⟨rfl, rfl⟩; dsimp only))
  go_upto_region 63 with (first | (with_reducible refine lld hL ?_) | ((with_reducible refine' loc_store (b := gv) (off := t * 2) (vs := (Vl.mk 2 z).cells) (cs := cs) (cs' := spliced cs (t * 2) (Vl.mk 2 z).cells) hL ?_ ?_ ?_ ?_ ?_ ?_ ?_ ?_ ?_); (case refine'_3 => exact cWant); (case refine'_4 => rfl); (case refine'_5 => repeat (first | exact InL.head | apply InL.tail)); (case refine'_6 => rfl); (case refine'_7 => exact tValue.sz); (case refine'_8 => rfl); (case refine'_9 => exact HLenT.out); (case refine'_10 => rfl); clear hL; intro w' hL))
  go_wp2_with (first | (with_reducible refine lld hL ?_) | ((with_reducible first | refine lbx hL ?_ | refine lal hL ?_ | refine lbs hL ?_); clear hL; intro bl w1 hL) | ((with_reducible refine lst' hL ?_); clear hL; intro w1 hL) | (go_at_call 24; refine (rNamesA_any _ _).mono ?_; rintro e w1 ⟨rfl, hb⟩; replace hL := hL.grow hb; clear hb; dsimp only) | (go_at_call 25; refine (rNamesB_any _ _).mono ?_; rintro e w1 ⟨rfl, hb⟩; replace hL := hL.grow hb; clear hb; dsimp only) | (go_at_call 30; refine (rNamesTo_any _ _).mono ?_; rintro e w1 ⟨rfl, hb⟩; replace hL := hL.grow hb; clear hb; dsimp only) | (go_at_call 20; refine (between_any _ _ _ _).mono ?_; rintro e w' ⟨rfl, rfl⟩; dsimp only))
  (try simp only [Exit.inBlock, Exit.then]); refine' ret1 rfl ?_ rfl ?_; (case refine'_2 => exact cRes)
  obtain ⟨h1, h2, h3, h4, h5, h6, h7⟩ := HR.out
  refine ⟨⟨((k : Int) + 1), ⟨some ⟨gv, 0, none⟩, vn, vc⟩, rt, rk, rl, 0⟩, ts, _, Rt, Rl, Rf, rfl, ⟨HPutV.out (Vl.mk 2 z), h2, h3, h4, by show (k : Int) + 1 = s.at' + 1; rw [HK.out], h6, HE.out.symm⟩, ?_, hL.below⟩
  exact hL.ownOf (by repeat (first | exact List.Sublist.refl _ | apply List.Sublist.cons))

set_option maxRecDepth 100000 in
set_option maxHeartbeats 4000000 in
theorem rstep_9_no (p : Pg) (is : Nat → Ins) (ins : Sl) (r0 : Rn) (s : Rs) (k : Nat) (t : Nat) (a : Nat) (b : Nat) (num : Int) (goto : Int) (ka na kb nb : Int) (w : World) (hr : RunIs w r0 s) (hf : Fits s) (hend : s.ending = 0) (hk : s.at' = k) (hkn : k < p.n) (hk6 : p.n ≤ 60) (hc : CodeAt w p is) (hv : 0 < s.vars.length) (hi : is k = ⟨9, (t : Int), (a : Int), (b : Int), num, goto⟩) (ht : t < s.vars.length) (ha : a < s.vars.length) (hb : b < s.vars.length) (hva : (Vl.mk ka na) = s.val a) (hvb : (Vl.mk kb nb) = s.val b) (hq : (ka == kb) = false) :
    Calls Tryd.prog 10 #[p.v, r0.v, ins.v] w fun e w' => Gives w (s.set t ⟨2, 0⟩) e w' := by
  have HCOPY := Lib.hid (fun w' (hb : Below w.heap.size w w') => copyRun_any r0 s w' (hr.grow hb) hf)
  obtain ⟨bc, oc, hpc, hcr⟩ := hc
  have hpc2 := hpc (by omega)
  have hI1 := ReadsAt.agg (P := Tryd.prog) tInstr (hcr k hkn).1 (fun j v hj => (hcr k hkn).2 j v hj) rfl
  have hI2 := ReadsAt.cell (P := Tryd.prog) tInt (hcr k hkn).1 ((hcr k hkn).2 0 _ rfl)
  rw [hi] at hI1 hI2
  have HI1 := Lib.hid (show ReadsAt Tryd.prog 54 w bc (oc + k * 6) (Ins.v ⟨9, (t : Int), (a : Int), (b : Int), num, goto⟩) from hI1)
  have HI2 := Lib.hid (show ReadsAt Tryd.prog 3 w bc (oc + k * 6) (.int .i64 9) by have := hI2; rw [Nat.add_zero] at this; exact this)
  have HQ := Lib.hid hq
  clear hq
  have HAV := Lib.hid hva
  clear hva
  have HBV := Lib.hid hvb
  clear hvb
  have HK := Lib.hid hk
  have HE := Lib.hid hend
  have hkm : k ≤ 60 := by omega
  have HTL := Lib.hid ht
  have HAL := Lib.hid ha
  have HBL := Lib.hid hb
  have HFIT := Lib.hid hf
  have HVL := Lib.hid hv
  clear hr hf hend hk hpc hcr hI1 hI2 hi hv ht ha hb
  obtain ⟨pv, pf, pc, pn, pcap⟩ := p
  dsimp only at hpc2 hkn hk6
  subst hpc2
  have hne : ((k : Int) == (pn : Int)) = false := by simp; omega
  have hL := Loc.start w
  go_enter Tryd.func10, Tryd.ntmps10
  go_upto_region 2 with (first | (with_reducible refine lld hL ?_) | ((with_reducible first | refine lbx hL ?_ | refine lal hL ?_ | refine lbs hL ?_); clear hL; intro bl w1 hL) | ((with_reducible refine lst' hL ?_); clear hL; intro w1 hL) | (go_at_call 23; refine (HCOPY.out _ hL.below).mono ?_; rintro e w3 ⟨r, ts, Rv, Rt, Rl, Rf, rfl, hR, ho, hb⟩; replace hL := hL.gainTail hb ho; simp only [List.cons_append, List.nil_append] at hL; clear ho hb; dsimp only))
  clear HCOPY
  have hvn := hR.vars.flatlen lenV (by decide)
  obtain ⟨gv, cs, hpv, rfl, htk, hlen⟩ := hR.vars.block (by have := HVL.out; omega)
  simp only [List.cons_append, List.nil_append] at hL
  have HA := Lib.hid (show Reads Tryd.prog 56 cs (a * 2) ((Vl.mk ka na)).v by rw [HAV.out]; exact Reads.agg tValue (hR.vars.elem lenV dV (k := a) (by have := HAL.out; omega)) rfl)
  have ha1 : a < r.vars.n := by have := HAL.out; omega
  have HB := Lib.hid (show Reads Tryd.prog 56 cs (b * 2) ((Vl.mk kb nb)).v by rw [HBV.out]; exact Reads.agg tValue (hR.vars.elem lenV dV (k := b) (by have := HBL.out; omega)) rfl)
  have hb1 : b < r.vars.n := by have := HBL.out; omega
  have HPutV := Lib.hid (fun v => hR.vars.put lenV dV (k := t) (by have := HTL.out; omega) v)
  have ht1 : t < r.vars.n := by have := HTL.out; omega
  have HLenT := Lib.hid (show t * 2 + 2 ≤ cs.length by have := hR.vars.fits; rw [hlen]; omega)
  have hra : r.at' = (k : Int) := hR.a.trans HK.out
  have hre : r.ending = 0 := hR.e.trans HE.out
  have HR := Lib.hid hR
  clear hR hvn htk hlen
  obtain ⟨ra, ⟨vp, vn, vc⟩, rt, rk, rl, re⟩ := r
  dsimp only at hpv hra hre ha1 hb1 ht1
  subst hpv
  subst hra
  subst hre
  go_upto_region 7 with (first | (with_reducible refine lld hL ?_) | ((with_reducible first | refine lbx hL ?_ | refine lal hL ?_ | refine lbs hL ?_); clear hL; intro bl w1 hL) | ((with_reducible refine lst' hL ?_); clear hL; intro w1 hL) | (go_at_call 24; refine (rNamesA_any _ _).mono ?_; rintro e w1 ⟨rfl, hb⟩; replace hL := hL.grow hb; clear hb; dsimp only) | (go_at_call 25; refine (rNamesB_any _ _).mono ?_; rintro e w1 ⟨rfl, hb⟩; replace hL := hL.grow hb; clear hb; dsimp only) | (go_at_call 30; refine (rNamesTo_any _ _).mono ?_; rintro e w1 ⟨rfl, hb⟩; replace hL := hL.grow hb; clear hb; dsimp only) | (go_at_call 20; refine (between_any _ _ _ _).mono ?_; rintro e w' ⟨rfl, rfl⟩; dsimp only) | ((with_reducible refine' loc_loadB HI2.out hL ?_ ?_ ?_); (case refine'_1 => exact cWant); (case refine'_2 => rfl)))
  clear HI2
  go_upto_region 8 with (first | (with_reducible refine lld hL ?_) | ((with_reducible first | refine lbx hL ?_ | refine lal hL ?_ | refine lbs hL ?_); clear hL; intro bl w1 hL) | ((with_reducible refine lst' hL ?_); clear hL; intro w1 hL) | (go_at_call 24; refine (rNamesA_any _ _).mono ?_; rintro e w1 ⟨rfl, hb⟩; replace hL := hL.grow hb; clear hb; dsimp only) | (go_at_call 25; refine (rNamesB_any _ _).mono ?_; rintro e w1 ⟨rfl, hb⟩; replace hL := hL.grow hb; clear hb; dsimp only) | (go_at_call 30; refine (rNamesTo_any _ _).mono ?_; rintro e w1 ⟨rfl, hb⟩; replace hL := hL.grow hb; clear hb; dsimp only) | (go_at_call 20; refine (between_any _ _ _ _).mono ?_; rintro e w' ⟨rfl, rfl⟩; dsimp only) | ((with_reducible refine' loc_loadB HI1.out hL ?_ ?_ ?_); (case refine'_1 => exact cWant); (case refine'_2 => rfl)))
  clear HI1
  have hna : nA 9 = true := by decide
  have hnb : nB 9 = true := by decide
  have hnt : nTo 9 = true := by decide
  have hbt : betw 9 5 8 = false := by decide
  go_upto_region 13 with (first | (with_reducible refine lld hL ?_) | ((with_reducible first | refine lbx hL ?_ | refine lal hL ?_ | refine lbs hL ?_); clear hL; intro bl w1 hL) | ((with_reducible refine lst' hL ?_); clear hL; intro w1 hL) | (go_at_call 24; refine (rNamesA_any _ _).mono ?_; rintro e w1 ⟨rfl, hb⟩; replace hL := hL.grow hb; clear hb; dsimp only) | (go_at_call 25; refine (rNamesB_any _ _).mono ?_; rintro e w1 ⟨rfl, hb⟩; replace hL := hL.grow hb; clear hb; dsimp only) | (go_at_call 30; refine (rNamesTo_any _ _).mono ?_; rintro e w1 ⟨rfl, hb⟩; replace hL := hL.grow hb; clear hb; dsimp only) | (go_at_call 20; refine (between_any _ _ _ _).mono ?_; rintro e w' ⟨rfl, rfl⟩; dsimp only) | ((with_reducible refine' loc_load (cs := cs) (off := a * 2) hL ?_ ?_ ?_ HA.out ?_); (case refine'_4 => exact cWant); (case refine'_5 => rfl); (case refine'_6 => repeat (first | exact InL.head | apply InL.tail))) | ((with_reducible refine' loc_load (cs := cs) (off := b * 2) hL ?_ ?_ ?_ HB.out ?_); (case refine'_4 => exact cWant); (case refine'_5 => rfl); (case refine'_6 => repeat (first | exact InL.head | apply InL.tail))))
  clear HA HB
  have hq := HQ.out
  go_upto_region 25 with (first | (with_reducible refine lld hL ?_) | ((with_reducible first | refine lbx hL ?_ | refine lal hL ?_ | refine lbs hL ?_); clear hL; intro bl w1 hL) | ((with_reducible refine lst' hL ?_); clear hL; intro w1 hL) | (go_at_call 24; refine (rNamesA_any _ _).mono ?_; rintro e w1 ⟨rfl, hb⟩; replace hL := hL.grow hb; clear hb; dsimp only) | (go_at_call 25; refine (rNamesB_any _ _).mono ?_; rintro e w1 ⟨rfl, hb⟩; replace hL := hL.grow hb; clear hb; dsimp only) | (go_at_call 30; refine (rNamesTo_any _ _).mono ?_; rintro e w1 ⟨rfl, hb⟩; replace hL := hL.grow hb; clear hb; dsimp only) | (go_at_call 20; refine (between_any _ _ _ _).mono ?_; rintro e w' ⟨rfl, rfl⟩; dsimp only))
  go_upto_region 61 with (first | (with_reducible refine lld hL ?_) | ((with_reducible first | refine lbx hL ?_ | refine lal hL ?_ | refine lbs hL ?_); clear hL; intro bl w1 hL) | ((with_reducible refine lst' hL ?_); clear hL; intro w1 hL) | (go_at_call 27; refine (rTruth_any _ bl _ _ _ _ _ _ hL).mono ?_; rintro e w3 ⟨rfl, hL2⟩; replace hL := hL2; clear hL2; dsimp only))
  go_upto_region 62 with (first | (with_reducible refine lld hL ?_) | ((with_reducible first | refine lbx hL ?_ | refine lal hL ?_ | refine lbs hL ?_); clear hL; intro bl w1 hL) | ((with_reducible refine lst' hL ?_); clear hL; intro w1 hL) | (go_at_call 24; refine (rNamesA_any _ _).mono ?_; rintro e w1 ⟨rfl, hb⟩; replace hL := hL.grow hb; clear hb; dsimp only) | (go_at_call 25; refine (rNamesB_any _ _).mono ?_; rintro e w1 ⟨rfl, hb⟩; replace hL := hL.grow hb; clear hb; dsimp only) | (go_at_call 30; refine (rNamesTo_any _ _).mono ?_; rintro e w1 ⟨rfl, hb⟩; replace hL := hL.grow hb; clear hb; dsimp only) | (go_at_call 20; refine (between_any _ _ _ _).mono ?_; rintro e w' ⟨rfl, rfl⟩; dsimp only))
  go_upto_region 63 with (first | (with_reducible refine lld hL ?_) | ((with_reducible refine' loc_store (b := gv) (off := t * 2) (vs := (Vl.mk 2 0).cells) (cs := cs) (cs' := spliced cs (t * 2) (Vl.mk 2 0).cells) hL ?_ ?_ ?_ ?_ ?_ ?_ ?_ ?_ ?_); (case refine'_3 => exact cWant); (case refine'_4 => rfl); (case refine'_5 => repeat (first | exact InL.head | apply InL.tail)); (case refine'_6 => rfl); (case refine'_7 => exact tValue.sz); (case refine'_8 => rfl); (case refine'_9 => exact HLenT.out); (case refine'_10 => rfl); clear hL; intro w' hL))
  go_wp2_with (first | (with_reducible refine lld hL ?_) | ((with_reducible first | refine lbx hL ?_ | refine lal hL ?_ | refine lbs hL ?_); clear hL; intro bl w1 hL) | ((with_reducible refine lst' hL ?_); clear hL; intro w1 hL) | (go_at_call 24; refine (rNamesA_any _ _).mono ?_; rintro e w1 ⟨rfl, hb⟩; replace hL := hL.grow hb; clear hb; dsimp only) | (go_at_call 25; refine (rNamesB_any _ _).mono ?_; rintro e w1 ⟨rfl, hb⟩; replace hL := hL.grow hb; clear hb; dsimp only) | (go_at_call 30; refine (rNamesTo_any _ _).mono ?_; rintro e w1 ⟨rfl, hb⟩; replace hL := hL.grow hb; clear hb; dsimp only) | (go_at_call 20; refine (between_any _ _ _ _).mono ?_; rintro e w' ⟨rfl, rfl⟩; dsimp only))
  (try simp only [Exit.inBlock, Exit.then]); refine' ret1 rfl ?_ rfl ?_; (case refine'_2 => exact cRes)
  obtain ⟨h1, h2, h3, h4, h5, h6, h7⟩ := HR.out
  refine ⟨⟨((k : Int) + 1), ⟨some ⟨gv, 0, none⟩, vn, vc⟩, rt, rk, rl, 0⟩, ts, _, Rt, Rl, Rf, rfl, ⟨HPutV.out (Vl.mk 2 0), h2, h3, h4, by show (k : Int) + 1 = s.at' + 1; rw [HK.out], h6, HE.out.symm⟩, ?_, hL.below⟩
  exact hL.ownOf (by repeat (first | exact List.Sublist.refl _ | apply List.Sublist.cons))

set_option maxRecDepth 100000 in
set_option maxHeartbeats 4000000 in
theorem rstep_10 (p : Pg) (is : Nat → Ins) (ins : Sl) (r0 : Rn) (s : Rs) (k : Nat) (t : Nat) (a : Nat) (ib : Int) (num : Int) (va : Vl) (goto : Int) (z : Int) (w : World) (hr : RunIs w r0 s) (hf : Fits s) (hend : s.ending = 0) (hk : s.at' = k) (hkn : k < p.n) (hk6 : p.n ≤ 60) (hc : CodeAt w p is) (hv : 0 < s.vars.length) (hi : is k = ⟨10, (t : Int), (a : Int), ib, num, goto⟩) (ht : t < s.vars.length) (ha : a < s.vars.length) (hva : va = s.val a) (hz : z = if (!countsR va) then 1 else 0) :
    Calls Tryd.prog 10 #[p.v, r0.v, ins.v] w fun e w' => Gives w (s.set t ⟨2, z⟩) e w' := by
  have HCOPY := Lib.hid (fun w' (hb : Below w.heap.size w w') => copyRun_any r0 s w' (hr.grow hb) hf)
  obtain ⟨bc, oc, hpc, hcr⟩ := hc
  have hpc2 := hpc (by omega)
  have hI1 := ReadsAt.agg (P := Tryd.prog) tInstr (hcr k hkn).1 (fun j v hj => (hcr k hkn).2 j v hj) rfl
  have hI2 := ReadsAt.cell (P := Tryd.prog) tInt (hcr k hkn).1 ((hcr k hkn).2 0 _ rfl)
  rw [hi] at hI1 hI2
  have HI1 := Lib.hid (show ReadsAt Tryd.prog 54 w bc (oc + k * 6) (Ins.v ⟨10, (t : Int), (a : Int), ib, num, goto⟩) from hI1)
  have HI2 := Lib.hid (show ReadsAt Tryd.prog 3 w bc (oc + k * 6) (.int .i64 10) by have := hI2; rw [Nat.add_zero] at this; exact this)
  have HZ := Lib.hid hz
  clear hz
  have HAV := Lib.hid hva
  clear hva
  have HK := Lib.hid hk
  have HE := Lib.hid hend
  have hkm : k ≤ 60 := by omega
  have HTL := Lib.hid ht
  have HAL := Lib.hid ha
  have HFIT := Lib.hid hf
  have HVL := Lib.hid hv
  clear hr hf hend hk hpc hcr hI1 hI2 hi hv ht ha
  obtain ⟨pv, pf, pc, pn, pcap⟩ := p
  dsimp only at hpc2 hkn hk6
  subst hpc2
  have hne : ((k : Int) == (pn : Int)) = false := by simp; omega
  have hL := Loc.start w
  go_enter Tryd.func10, Tryd.ntmps10
  go_upto_region 2 with (first | (with_reducible refine lld hL ?_) | ((with_reducible first | refine lbx hL ?_ | refine lal hL ?_ | refine lbs hL ?_); clear hL; intro bl w1 hL) | ((with_reducible refine lst' hL ?_); clear hL; intro w1 hL) | (go_at_call 23; refine (HCOPY.out _ hL.below).mono ?_; rintro e w3 ⟨r, ts, Rv, Rt, Rl, Rf, rfl, hR, ho, hb⟩; replace hL := hL.gainTail hb ho; simp only [List.cons_append, List.nil_append] at hL; clear ho hb; dsimp only))
  clear HCOPY
  have hvn := hR.vars.flatlen lenV (by decide)
  obtain ⟨gv, cs, hpv, rfl, htk, hlen⟩ := hR.vars.block (by have := HVL.out; omega)
  simp only [List.cons_append, List.nil_append] at hL
  have HA := Lib.hid (show Reads Tryd.prog 56 cs (a * 2) (va).v by rw [HAV.out]; exact Reads.agg tValue (hR.vars.elem lenV dV (k := a) (by have := HAL.out; omega)) rfl)
  have ha1 : a < r.vars.n := by have := HAL.out; omega
  have HPutV := Lib.hid (fun v => hR.vars.put lenV dV (k := t) (by have := HTL.out; omega) v)
  have ht1 : t < r.vars.n := by have := HTL.out; omega
  have HLenT := Lib.hid (show t * 2 + 2 ≤ cs.length by have := hR.vars.fits; rw [hlen]; omega)
  have hra : r.at' = (k : Int) := hR.a.trans HK.out
  have hre : r.ending = 0 := hR.e.trans HE.out
  have HR := Lib.hid hR
  clear hR hvn htk hlen
  obtain ⟨ra, ⟨vp, vn, vc⟩, rt, rk, rl, re⟩ := r
  dsimp only at hpv hra hre ha1 ht1
  subst hpv
  subst hra
  subst hre
  go_upto_region 7 with (first | (with_reducible refine lld hL ?_) | ((with_reducible first | refine lbx hL ?_ | refine lal hL ?_ | refine lbs hL ?_); clear hL; intro bl w1 hL) | ((with_reducible refine lst' hL ?_); clear hL; intro w1 hL) | (go_at_call 24; refine (rNamesA_any _ _).mono ?_; rintro e w1 ⟨rfl, hb⟩; replace hL := hL.grow hb; clear hb; dsimp only) | (go_at_call 25; refine (rNamesB_any _ _).mono ?_; rintro e w1 ⟨rfl, hb⟩; replace hL := hL.grow hb; clear hb; dsimp only) | (go_at_call 30; refine (rNamesTo_any _ _).mono ?_; rintro e w1 ⟨rfl, hb⟩; replace hL := hL.grow hb; clear hb; dsimp only) | (go_at_call 20; refine (between_any _ _ _ _).mono ?_; rintro e w' ⟨rfl, rfl⟩; dsimp only) | ((with_reducible refine' loc_loadB HI2.out hL ?_ ?_ ?_); (case refine'_1 => exact cWant); (case refine'_2 => rfl)))
  clear HI2
  go_upto_region 8 with (first | (with_reducible refine lld hL ?_) | ((with_reducible first | refine lbx hL ?_ | refine lal hL ?_ | refine lbs hL ?_); clear hL; intro bl w1 hL) | ((with_reducible refine lst' hL ?_); clear hL; intro w1 hL) | (go_at_call 24; refine (rNamesA_any _ _).mono ?_; rintro e w1 ⟨rfl, hb⟩; replace hL := hL.grow hb; clear hb; dsimp only) | (go_at_call 25; refine (rNamesB_any _ _).mono ?_; rintro e w1 ⟨rfl, hb⟩; replace hL := hL.grow hb; clear hb; dsimp only) | (go_at_call 30; refine (rNamesTo_any _ _).mono ?_; rintro e w1 ⟨rfl, hb⟩; replace hL := hL.grow hb; clear hb; dsimp only) | (go_at_call 20; refine (between_any _ _ _ _).mono ?_; rintro e w' ⟨rfl, rfl⟩; dsimp only) | ((with_reducible refine' loc_loadB HI1.out hL ?_ ?_ ?_); (case refine'_1 => exact cWant); (case refine'_2 => rfl)))
  clear HI1
  have hna : nA 10 = true := by decide
  have hnb : nB 10 = false := by decide
  have hnt : nTo 10 = true := by decide
  have hbt : betw 10 5 8 = false := by decide
  go_upto_region 13 with (first | (with_reducible refine lld hL ?_) | ((with_reducible first | refine lbx hL ?_ | refine lal hL ?_ | refine lbs hL ?_); clear hL; intro bl w1 hL) | ((with_reducible refine lst' hL ?_); clear hL; intro w1 hL) | (go_at_call 24; refine (rNamesA_any _ _).mono ?_; rintro e w1 ⟨rfl, hb⟩; replace hL := hL.grow hb; clear hb; dsimp only) | (go_at_call 25; refine (rNamesB_any _ _).mono ?_; rintro e w1 ⟨rfl, hb⟩; replace hL := hL.grow hb; clear hb; dsimp only) | (go_at_call 30; refine (rNamesTo_any _ _).mono ?_; rintro e w1 ⟨rfl, hb⟩; replace hL := hL.grow hb; clear hb; dsimp only) | (go_at_call 20; refine (between_any _ _ _ _).mono ?_; rintro e w' ⟨rfl, rfl⟩; dsimp only) | ((with_reducible refine' loc_load (cs := cs) (off := a * 2) hL ?_ ?_ ?_ HA.out ?_); (case refine'_4 => exact cWant); (case refine'_5 => rfl); (case refine'_6 => repeat (first | exact InL.head | apply InL.tail))))
  clear HA
  go_upto_region 25 with (first | (with_reducible refine lld hL ?_) | ((with_reducible first | refine lbx hL ?_ | refine lal hL ?_ | refine lbs hL ?_); clear hL; intro bl w1 hL) | ((with_reducible refine lst' hL ?_); clear hL; intro w1 hL) | (go_at_call 24; refine (rNamesA_any _ _).mono ?_; rintro e w1 ⟨rfl, hb⟩; replace hL := hL.grow hb; clear hb; dsimp only) | (go_at_call 25; refine (rNamesB_any _ _).mono ?_; rintro e w1 ⟨rfl, hb⟩; replace hL := hL.grow hb; clear hb; dsimp only) | (go_at_call 30; refine (rNamesTo_any _ _).mono ?_; rintro e w1 ⟨rfl, hb⟩; replace hL := hL.grow hb; clear hb; dsimp only) | (go_at_call 20; refine (between_any _ _ _ _).mono ?_; rintro e w' ⟨rfl, rfl⟩; dsimp only))
  go_upto_region 61 with (first | (with_reducible refine lld hL ?_) | ((with_reducible first | refine lbx hL ?_ | refine lal hL ?_ | refine lbs hL ?_); clear hL; intro bl w1 hL) | ((with_reducible refine lst' hL ?_); clear hL; intro w1 hL) | (go_at_call 26; refine (rCounts_any va _).mono ?_; rintro e w1 ⟨rfl, hb⟩; replace hL := hL.grow hb; clear hb; dsimp only) | (go_at_call 27; refine (rTruthZ _ bl _ 0 z _ _ _ _ HZ.out hL).mono ?_; rintro e w3 ⟨rfl, hL2⟩; replace hL := hL2; clear hL2; dsimp only))
  go_upto_region 62 with (first | (with_reducible refine lld hL ?_) | ((with_reducible first | refine lbx hL ?_ | refine lal hL ?_ | refine lbs hL ?_); clear hL; intro bl w1 hL) | ((with_reducible refine lst' hL ?_); clear hL; intro w1 hL) | (go_at_call 24; refine (rNamesA_any _ _).mono ?_; rintro e w1 ⟨rfl, hb⟩; replace hL := hL.grow hb; clear hb; dsimp only) | (go_at_call 25; refine (rNamesB_any _ _).mono ?_; rintro e w1 ⟨rfl, hb⟩; replace hL := hL.grow hb; clear hb; dsimp only) | (go_at_call 30; refine (rNamesTo_any _ _).mono ?_; rintro e w1 ⟨rfl, hb⟩; replace hL := hL.grow hb; clear hb; dsimp only) | (go_at_call 20; refine (between_any _ _ _ _).mono ?_; rintro e w' ⟨rfl, rfl⟩; dsimp only))
  go_upto_region 63 with (first | (with_reducible refine lld hL ?_) | ((with_reducible refine' loc_store (b := gv) (off := t * 2) (vs := (Vl.mk 2 z).cells) (cs := cs) (cs' := spliced cs (t * 2) (Vl.mk 2 z).cells) hL ?_ ?_ ?_ ?_ ?_ ?_ ?_ ?_ ?_); (case refine'_3 => exact cWant); (case refine'_4 => rfl); (case refine'_5 => repeat (first | exact InL.head | apply InL.tail)); (case refine'_6 => rfl); (case refine'_7 => exact tValue.sz); (case refine'_8 => rfl); (case refine'_9 => exact HLenT.out); (case refine'_10 => rfl); clear hL; intro w' hL))
  go_wp2_with (first | (with_reducible refine lld hL ?_) | ((with_reducible first | refine lbx hL ?_ | refine lal hL ?_ | refine lbs hL ?_); clear hL; intro bl w1 hL) | ((with_reducible refine lst' hL ?_); clear hL; intro w1 hL) | (go_at_call 24; refine (rNamesA_any _ _).mono ?_; rintro e w1 ⟨rfl, hb⟩; replace hL := hL.grow hb; clear hb; dsimp only) | (go_at_call 25; refine (rNamesB_any _ _).mono ?_; rintro e w1 ⟨rfl, hb⟩; replace hL := hL.grow hb; clear hb; dsimp only) | (go_at_call 30; refine (rNamesTo_any _ _).mono ?_; rintro e w1 ⟨rfl, hb⟩; replace hL := hL.grow hb; clear hb; dsimp only) | (go_at_call 20; refine (between_any _ _ _ _).mono ?_; rintro e w' ⟨rfl, rfl⟩; dsimp only))
  (try simp only [Exit.inBlock, Exit.then]); refine' ret1 rfl ?_ rfl ?_; (case refine'_2 => exact cRes)
  obtain ⟨h1, h2, h3, h4, h5, h6, h7⟩ := HR.out
  refine ⟨⟨((k : Int) + 1), ⟨some ⟨gv, 0, none⟩, vn, vc⟩, rt, rk, rl, 0⟩, ts, _, Rt, Rl, Rf, rfl, ⟨HPutV.out (Vl.mk 2 z), h2, h3, h4, by show (k : Int) + 1 = s.at' + 1; rw [HK.out], h6, HE.out.symm⟩, ?_, hL.below⟩
  exact hL.ownOf (by repeat (first | exact List.Sublist.refl _ | apply List.Sublist.cons))

set_option maxRecDepth 100000 in
set_option maxHeartbeats 4000000 in
theorem rstep_12_no (p : Pg) (is : Nat → Ins) (ins : Sl) (r0 : Rn) (s : Rs) (k : Nat) (t : Nat) (a : Nat) (ib : Int) (num : Int) (goto : Int) (ka na : Int) (w : World) (hr : RunIs w r0 s) (hf : Fits s) (hend : s.ending = 0) (hk : s.at' = k) (hkn : k < p.n) (hk6 : p.n ≤ 60) (hc : CodeAt w p is) (hv : 0 < s.vars.length) (hi : is k = ⟨12, (t : Int), (a : Int), ib, num, goto⟩) (ht : t < s.vars.length) (ha : a < s.vars.length) (hva : (Vl.mk ka na) = s.val a) (hq : (ka != 3) = true) :
    Calls Tryd.prog 10 #[p.v, r0.v, ins.v] w fun e w' => Gives w ({ s with ending := 2 }) e w' := by
  have HCOPY := Lib.hid (fun w' (hb : Below w.heap.size w w') => copyRun_any r0 s w' (hr.grow hb) hf)
  obtain ⟨bc, oc, hpc, hcr⟩ := hc
  have hpc2 := hpc (by omega)
  have hI1 := ReadsAt.agg (P := Tryd.prog) tInstr (hcr k hkn).1 (fun j v hj => (hcr k hkn).2 j v hj) rfl
  have hI2 := ReadsAt.cell (P := Tryd.prog) tInt (hcr k hkn).1 ((hcr k hkn).2 0 _ rfl)
  rw [hi] at hI1 hI2
  have HI1 := Lib.hid (show ReadsAt Tryd.prog 54 w bc (oc + k * 6) (Ins.v ⟨12, (t : Int), (a : Int), ib, num, goto⟩) from hI1)
  have HI2 := Lib.hid (show ReadsAt Tryd.prog 3 w bc (oc + k * 6) (.int .i64 12) by have := hI2; rw [Nat.add_zero] at this; exact this)
  have HQ := Lib.hid hq
  clear hq
  have HAV := Lib.hid hva
  clear hva
  have HK := Lib.hid hk
  have HE := Lib.hid hend
  have hkm : k ≤ 60 := by omega
  have HTL := Lib.hid ht
  have HAL := Lib.hid ha
  have HFIT := Lib.hid hf
  have HVL := Lib.hid hv
  clear hr hf hend hk hpc hcr hI1 hI2 hi hv ht ha
  obtain ⟨pv, pf, pc, pn, pcap⟩ := p
  dsimp only at hpc2 hkn hk6
  subst hpc2
  have hne : ((k : Int) == (pn : Int)) = false := by simp; omega
  have hL := Loc.start w
  go_enter Tryd.func10, Tryd.ntmps10
  go_upto_region 2 with (first | (with_reducible refine lld hL ?_) | ((with_reducible first | refine lbx hL ?_ | refine lal hL ?_ | refine lbs hL ?_); clear hL; intro bl w1 hL) | ((with_reducible refine lst' hL ?_); clear hL; intro w1 hL) | (go_at_call 23; refine (HCOPY.out _ hL.below).mono ?_; rintro e w3 ⟨r, ts, Rv, Rt, Rl, Rf, rfl, hR, ho, hb⟩; replace hL := hL.gainTail hb ho; simp only [List.cons_append, List.nil_append] at hL; clear ho hb; dsimp only))
  clear HCOPY
  have hvn := hR.vars.flatlen lenV (by decide)
  obtain ⟨gv, cs, hpv, rfl, htk, hlen⟩ := hR.vars.block (by have := HVL.out; omega)
  simp only [List.cons_append, List.nil_append] at hL
  have HA := Lib.hid (show Reads Tryd.prog 56 cs (a * 2) ((Vl.mk ka na)).v by rw [HAV.out]; exact Reads.agg tValue (hR.vars.elem lenV dV (k := a) (by have := HAL.out; omega)) rfl)
  have ha1 : a < r.vars.n := by have := HAL.out; omega
  have HPutV := Lib.hid (fun v => hR.vars.put lenV dV (k := t) (by have := HTL.out; omega) v)
  have ht1 : t < r.vars.n := by have := HTL.out; omega
  have HLenT := Lib.hid (show t * 2 + 2 ≤ cs.length by have := hR.vars.fits; rw [hlen]; omega)
  have hra : r.at' = (k : Int) := hR.a.trans HK.out
  have hre : r.ending = 0 := hR.e.trans HE.out
  have HR := Lib.hid hR
  clear hR hvn htk hlen
  obtain ⟨ra, ⟨vp, vn, vc⟩, rt, rk, rl, re⟩ := r
  dsimp only at hpv hra hre ha1 ht1
  subst hpv
  subst hra
  subst hre
  go_upto_region 7 with (first | (with_reducible refine lld hL ?_) | ((with_reducible first | refine lbx hL ?_ | refine lal hL ?_ | refine lbs hL ?_); clear hL; intro bl w1 hL) | ((with_reducible refine lst' hL ?_); clear hL; intro w1 hL) | (go_at_call 24; refine (rNamesA_any _ _).mono ?_; rintro e w1 ⟨rfl, hb⟩; replace hL := hL.grow hb; clear hb; dsimp only) | (go_at_call 25; refine (rNamesB_any _ _).mono ?_; rintro e w1 ⟨rfl, hb⟩; replace hL := hL.grow hb; clear hb; dsimp only) | (go_at_call 30; refine (rNamesTo_any _ _).mono ?_; rintro e w1 ⟨rfl, hb⟩; replace hL := hL.grow hb; clear hb; dsimp only) | (go_at_call 20; refine (between_any _ _ _ _).mono ?_; rintro e w' ⟨rfl, rfl⟩; dsimp only) | ((with_reducible refine' loc_loadB HI2.out hL ?_ ?_ ?_); (case refine'_1 => exact cWant); (case refine'_2 => rfl)))
  clear HI2
  go_upto_region 8 with (first | (with_reducible refine lld hL ?_) | ((with_reducible first | refine lbx hL ?_ | refine lal hL ?_ | refine lbs hL ?_); clear hL; intro bl w1 hL) | ((with_reducible refine lst' hL ?_); clear hL; intro w1 hL) | (go_at_call 24; refine (rNamesA_any _ _).mono ?_; rintro e w1 ⟨rfl, hb⟩; replace hL := hL.grow hb; clear hb; dsimp only) | (go_at_call 25; refine (rNamesB_any _ _).mono ?_; rintro e w1 ⟨rfl, hb⟩; replace hL := hL.grow hb; clear hb; dsimp only) | (go_at_call 30; refine (rNamesTo_any _ _).mono ?_; rintro e w1 ⟨rfl, hb⟩; replace hL := hL.grow hb; clear hb; dsimp only) | (go_at_call 20; refine (between_any _ _ _ _).mono ?_; rintro e w' ⟨rfl, rfl⟩; dsimp only) | ((with_reducible refine' loc_loadB HI1.out hL ?_ ?_ ?_); (case refine'_1 => exact cWant); (case refine'_2 => rfl)))
  clear HI1
  have hna : nA 12 = true := by decide
  have hnb : nB 12 = false := by decide
  have hnt : nTo 12 = true := by decide
  have hbt : betw 12 5 8 = false := by decide
  go_upto_region 13 with (first | (with_reducible refine lld hL ?_) | ((with_reducible first | refine lbx hL ?_ | refine lal hL ?_ | refine lbs hL ?_); clear hL; intro bl w1 hL) | ((with_reducible refine lst' hL ?_); clear hL; intro w1 hL) | (go_at_call 24; refine (rNamesA_any _ _).mono ?_; rintro e w1 ⟨rfl, hb⟩; replace hL := hL.grow hb; clear hb; dsimp only) | (go_at_call 25; refine (rNamesB_any _ _).mono ?_; rintro e w1 ⟨rfl, hb⟩; replace hL := hL.grow hb; clear hb; dsimp only) | (go_at_call 30; refine (rNamesTo_any _ _).mono ?_; rintro e w1 ⟨rfl, hb⟩; replace hL := hL.grow hb; clear hb; dsimp only) | (go_at_call 20; refine (between_any _ _ _ _).mono ?_; rintro e w' ⟨rfl, rfl⟩; dsimp only) | ((with_reducible refine' loc_load (cs := cs) (off := a * 2) hL ?_ ?_ ?_ HA.out ?_); (case refine'_4 => exact cWant); (case refine'_5 => rfl); (case refine'_6 => repeat (first | exact InL.head | apply InL.tail))))
  clear HA
  have hq := HQ.out
  go_wp2_with (first | (with_reducible refine lld hL ?_) | ((with_reducible first | refine lbx hL ?_ | refine lal hL ?_ | refine lbs hL ?_); clear hL; intro bl w1 hL) | ((with_reducible refine lst' hL ?_); clear hL; intro w1 hL) | (go_at_call 24; refine (rNamesA_any _ _).mono ?_; rintro e w1 ⟨rfl, hb⟩; replace hL := hL.grow hb; clear hb; dsimp only) | (go_at_call 25; refine (rNamesB_any _ _).mono ?_; rintro e w1 ⟨rfl, hb⟩; replace hL := hL.grow hb; clear hb; dsimp only) | (go_at_call 30; refine (rNamesTo_any _ _).mono ?_; rintro e w1 ⟨rfl, hb⟩; replace hL := hL.grow hb; clear hb; dsimp only) | (go_at_call 20; refine (between_any _ _ _ _).mono ?_; rintro e w' ⟨rfl, rfl⟩; dsimp only))
  (try simp only [Exit.inBlock, Exit.then]); refine' ret1 rfl ?_ rfl ?_; (case refine'_2 => exact cRes)
  obtain ⟨h1, h2, h3, h4, h5, h6, h7⟩ := HR.out
  refine ⟨⟨(k : Int), ⟨some ⟨gv, 0, none⟩, vn, vc⟩, rt, rk, rl, 2⟩, ts, _, Rt, Rl, Rf, rfl, ⟨h1, h2, h3, h4, HK.out.symm, h6, rfl⟩, ?_, hL.below⟩
  exact hL.ownOf (by repeat (first | exact List.Sublist.refl _ | apply List.Sublist.cons))

set_option maxRecDepth 100000 in
set_option maxHeartbeats 4000000 in
theorem rstep_13_no (p : Pg) (is : Nat → Ins) (ins : Sl) (r0 : Rn) (s : Rs) (k : Nat) (a : Nat) (b : Nat) (to : Int) (num : Int) (vb : Vl) (goto : Int) (ka na : Int) (w : World) (hr : RunIs w r0 s) (hf : Fits s) (hend : s.ending = 0) (hk : s.at' = k) (hkn : k < p.n) (hk6 : p.n ≤ 60) (hc : CodeAt w p is) (hv : 0 < s.vars.length) (hi : is k = ⟨13, to, (a : Int), (b : Int), num, goto⟩) (ha : a < s.vars.length) (hb : b < s.vars.length) (hva : (Vl.mk ka na) = s.val a) (hvb : vb = s.val b) (hq : (ka != 3) = true) :
    Calls Tryd.prog 10 #[p.v, r0.v, ins.v] w fun e w' => Gives w ({ s with ending := 2 }) e w' := by
  have HCOPY := Lib.hid (fun w' (hb : Below w.heap.size w w') => copyRun_any r0 s w' (hr.grow hb) hf)
  obtain ⟨bc, oc, hpc, hcr⟩ := hc
  have hpc2 := hpc (by omega)
  have hI1 := ReadsAt.agg (P := Tryd.prog) tInstr (hcr k hkn).1 (fun j v hj => (hcr k hkn).2 j v hj) rfl
  have hI2 := ReadsAt.cell (P := Tryd.prog) tInt (hcr k hkn).1 ((hcr k hkn).2 0 _ rfl)
  rw [hi] at hI1 hI2
  have HI1 := Lib.hid (show ReadsAt Tryd.prog 54 w bc (oc + k * 6) (Ins.v ⟨13, to, (a : Int), (b : Int), num, goto⟩) from hI1)
  have HI2 := Lib.hid (show ReadsAt Tryd.prog 3 w bc (oc + k * 6) (.int .i64 13) by have := hI2; rw [Nat.add_zero] at this; exact this)
  have HQ := Lib.hid hq
  clear hq
  have HAV := Lib.hid hva
  clear hva
  have HBV := Lib.hid hvb
  clear hvb
  have HK := Lib.hid hk
  have HE := Lib.hid hend
  have hkm : k ≤ 60 := by omega
  have HAL := Lib.hid ha
  have HBL := Lib.hid hb
  have HFIT := Lib.hid hf
  have HVL := Lib.hid hv
  clear hr hf hend hk hpc hcr hI1 hI2 hi hv ha hb
  obtain ⟨pv, pf, pc, pn, pcap⟩ := p
  dsimp only at hpc2 hkn hk6
  subst hpc2
  have hne : ((k : Int) == (pn : Int)) = false := by simp; omega
  have hL := Loc.start w
  go_enter Tryd.func10, Tryd.ntmps10
  go_upto_region 2 with (first | (with_reducible refine lld hL ?_) | ((with_reducible first | refine lbx hL ?_ | refine lal hL ?_ | refine lbs hL ?_); clear hL; intro bl w1 hL) | ((with_reducible refine lst' hL ?_); clear hL; intro w1 hL) | (go_at_call 23; refine (HCOPY.out _ hL.below).mono ?_; rintro e w3 ⟨r, ts, Rv, Rt, Rl, Rf, rfl, hR, ho, hb⟩; replace hL := hL.gainTail hb ho; simp only [List.cons_append, List.nil_append] at hL; clear ho hb; dsimp only))
  clear HCOPY
  have hvn := hR.vars.flatlen lenV (by decide)
  obtain ⟨gv, cs, hpv, rfl, htk, hlen⟩ := hR.vars.block (by have := HVL.out; omega)
  simp only [List.cons_append, List.nil_append] at hL
  have HA := Lib.hid (show Reads Tryd.prog 56 cs (a * 2) ((Vl.mk ka na)).v by rw [HAV.out]; exact Reads.agg tValue (hR.vars.elem lenV dV (k := a) (by have := HAL.out; omega)) rfl)
  have ha1 : a < r.vars.n := by have := HAL.out; omega
  have HB := Lib.hid (show Reads Tryd.prog 56 cs (b * 2) (vb).v by rw [HBV.out]; exact Reads.agg tValue (hR.vars.elem lenV dV (k := b) (by have := HBL.out; omega)) rfl)
  have hb1 : b < r.vars.n := by have := HBL.out; omega
  have hra : r.at' = (k : Int) := hR.a.trans HK.out
  have hre : r.ending = 0 := hR.e.trans HE.out
  have HR := Lib.hid hR
  clear hR hvn htk hlen
  obtain ⟨ra, ⟨vp, vn, vc⟩, rt, rk, rl, re⟩ := r
  dsimp only at hpv hra hre ha1 hb1
  subst hpv
  subst hra
  subst hre
  go_upto_region 7 with (first | (with_reducible refine lld hL ?_) | ((with_reducible first | refine lbx hL ?_ | refine lal hL ?_ | refine lbs hL ?_); clear hL; intro bl w1 hL) | ((with_reducible refine lst' hL ?_); clear hL; intro w1 hL) | (go_at_call 24; refine (rNamesA_any _ _).mono ?_; rintro e w1 ⟨rfl, hb⟩; replace hL := hL.grow hb; clear hb; dsimp only) | (go_at_call 25; refine (rNamesB_any _ _).mono ?_; rintro e w1 ⟨rfl, hb⟩; replace hL := hL.grow hb; clear hb; dsimp only) | (go_at_call 30; refine (rNamesTo_any _ _).mono ?_; rintro e w1 ⟨rfl, hb⟩; replace hL := hL.grow hb; clear hb; dsimp only) | (go_at_call 20; refine (between_any _ _ _ _).mono ?_; rintro e w' ⟨rfl, rfl⟩; dsimp only) | ((with_reducible refine' loc_loadB HI2.out hL ?_ ?_ ?_); (case refine'_1 => exact cWant); (case refine'_2 => rfl)))
  clear HI2
  go_upto_region 8 with (first | (with_reducible refine lld hL ?_) | ((with_reducible first | refine lbx hL ?_ | refine lal hL ?_ | refine lbs hL ?_); clear hL; intro bl w1 hL) | ((with_reducible refine lst' hL ?_); clear hL; intro w1 hL) | (go_at_call 24; refine (rNamesA_any _ _).mono ?_; rintro e w1 ⟨rfl, hb⟩; replace hL := hL.grow hb; clear hb; dsimp only) | (go_at_call 25; refine (rNamesB_any _ _).mono ?_; rintro e w1 ⟨rfl, hb⟩; replace hL := hL.grow hb; clear hb; dsimp only) | (go_at_call 30; refine (rNamesTo_any _ _).mono ?_; rintro e w1 ⟨rfl, hb⟩; replace hL := hL.grow hb; clear hb; dsimp only) | (go_at_call 20; refine (between_any _ _ _ _).mono ?_; rintro e w' ⟨rfl, rfl⟩; dsimp only) | ((with_reducible refine' loc_loadB HI1.out hL ?_ ?_ ?_); (case refine'_1 => exact cWant); (case refine'_2 => rfl)))
  clear HI1
  have hna : nA 13 = true := by decide
  have hnb : nB 13 = true := by decide
  have hnt : nTo 13 = false := by decide
  have hbt : betw 13 5 8 = false := by decide
  go_upto_region 13 with (first | (with_reducible refine lld hL ?_) | ((with_reducible first | refine lbx hL ?_ | refine lal hL ?_ | refine lbs hL ?_); clear hL; intro bl w1 hL) | ((with_reducible refine lst' hL ?_); clear hL; intro w1 hL) | (go_at_call 24; refine (rNamesA_any _ _).mono ?_; rintro e w1 ⟨rfl, hb⟩; replace hL := hL.grow hb; clear hb; dsimp only) | (go_at_call 25; refine (rNamesB_any _ _).mono ?_; rintro e w1 ⟨rfl, hb⟩; replace hL := hL.grow hb; clear hb; dsimp only) | (go_at_call 30; refine (rNamesTo_any _ _).mono ?_; rintro e w1 ⟨rfl, hb⟩; replace hL := hL.grow hb; clear hb; dsimp only) | (go_at_call 20; refine (between_any _ _ _ _).mono ?_; rintro e w' ⟨rfl, rfl⟩; dsimp only) | ((with_reducible refine' loc_load (cs := cs) (off := a * 2) hL ?_ ?_ ?_ HA.out ?_); (case refine'_4 => exact cWant); (case refine'_5 => rfl); (case refine'_6 => repeat (first | exact InL.head | apply InL.tail))) | ((with_reducible refine' loc_load (cs := cs) (off := b * 2) hL ?_ ?_ ?_ HB.out ?_); (case refine'_4 => exact cWant); (case refine'_5 => rfl); (case refine'_6 => repeat (first | exact InL.head | apply InL.tail))))
  clear HA HB
  have hq := HQ.out
  go_wp2_with (first | (with_reducible refine lld hL ?_) | ((with_reducible first | refine lbx hL ?_ | refine lal hL ?_ | refine lbs hL ?_); clear hL; intro bl w1 hL) | ((with_reducible refine lst' hL ?_); clear hL; intro w1 hL) | (go_at_call 24; refine (rNamesA_any _ _).mono ?_; rintro e w1 ⟨rfl, hb⟩; replace hL := hL.grow hb; clear hb; dsimp only) | (go_at_call 25; refine (rNamesB_any _ _).mono ?_; rintro e w1 ⟨rfl, hb⟩; replace hL := hL.grow hb; clear hb; dsimp only) | (go_at_call 30; refine (rNamesTo_any _ _).mono ?_; rintro e w1 ⟨rfl, hb⟩; replace hL := hL.grow hb; clear hb; dsimp only) | (go_at_call 20; refine (between_any _ _ _ _).mono ?_; rintro e w' ⟨rfl, rfl⟩; dsimp only))
  (try simp only [Exit.inBlock, Exit.then]); refine' ret1 rfl ?_ rfl ?_; (case refine'_2 => exact cRes)
  obtain ⟨h1, h2, h3, h4, h5, h6, h7⟩ := HR.out
  refine ⟨⟨(k : Int), ⟨some ⟨gv, 0, none⟩, vn, vc⟩, rt, rk, rl, 2⟩, ts, _, Rt, Rl, Rf, rfl, ⟨h1, h2, h3, h4, HK.out.symm, h6, rfl⟩, ?_, hL.below⟩
  exact hL.ownOf (by repeat (first | exact List.Sublist.refl _ | apply List.Sublist.cons))
end Go.Proofs.YtkdbehgekeidoaaDoor
