/- The walks over the reference's StepOf: inputs, the program's end, a run that has ended. Conditions: what a right program and a right run have. -/
import Derived.Test.YtkdbehgekeidoaaDoorRefStepA
set_option linter.unusedSimpArgs false
set_option linter.unusedVariables false
namespace Go.Proofs.YtkdbehgekeidoaaDoor
open Go.RowKit

set_option maxRecDepth 100000 in
set_option maxHeartbeats 4000000 in
theorem rstep_14_none (p : Pg) (is : Nat → Ins) (ins : Sl) (r0 : Rn) (s : Rs) (k : Nat) (t : Nat) (ia : Int) (ib : Int) (num : Int) (goto : Int) (w : World) (hr : RunIs w r0 s) (hf : Fits s) (hend : s.ending = 0) (hk : s.at' = k) (hkn : k < p.n) (hk6 : p.n ≤ 60) (hc : CodeAt w p is) (hv : 0 < s.vars.length) (hi : is k = ⟨14, (t : Int), ia, ib, num, goto⟩) (ht : t < s.vars.length) (hq : (ins.n : Int) ≤ s.taken ∧ s.taken ≤ 9223372036854775807 ∧ 0 ≤ num ∧ num ≤ 1000000) :
    Calls Tryd.prog 10 #[p.v, r0.v, ins.v] w fun e w' => Gives w (Rs.set { s with taken := wrap64 (s.taken + 1) } t ⟨1, 0⟩) e w' := by
  have HCOPY := Lib.hid (fun w' (hb : Below w.heap.size w w') => copyRun_any r0 s w' (hr.grow hb) hf)
  obtain ⟨bc, oc, hpc, hcr⟩ := hc
  have hpc2 := hpc (by omega)
  have hI1 := ReadsAt.agg (P := Tryd.prog) tInstr (hcr k hkn).1 (fun j v hj => (hcr k hkn).2 j v hj) rfl
  have hI2 := ReadsAt.cell (P := Tryd.prog) tInt (hcr k hkn).1 ((hcr k hkn).2 0 _ rfl)
  rw [hi] at hI1 hI2
  have HI1 := Lib.hid (show ReadsAt Tryd.prog 54 w bc (oc + k * 6) (Ins.v ⟨14, (t : Int), ia, ib, num, goto⟩) from hI1)
  have HI2 := Lib.hid (show ReadsAt Tryd.prog 3 w bc (oc + k * 6) (.int .i64 14) by have := hI2; rw [Nat.add_zero] at this; exact this)
  have HQ := Lib.hid hq
  clear hq
  have HK := Lib.hid hk
  have HE := Lib.hid hend
  have hkm : k ≤ 60 := by omega
  have HTL := Lib.hid ht
  have HFIT := Lib.hid hf
  have HVL := Lib.hid hv
  clear hr hf hend hk hpc hcr hI1 hI2 hi hv ht
  obtain ⟨pv, pf, pc, pn, pcap⟩ := p
  dsimp only at hpc2 hkn hk6
  subst hpc2
  have hne : ((k : Int) == (pn : Int)) = false := by simp; omega
  have hL := Loc.start w
  go_enter Tryd.func10, Tryd.ntmps10
  go_upto_region 2 with (first | (with_reducible refine lld hL ?_) | ((with_reducible first | refine lbx hL ?_ | refine lal hL ?_ | refine lbs hL ?_); clear hL; intro bl w1 hL) | ((with_reducible refine lst' hL ?_); clear hL; intro w1 hL) | (go_at_call 23; refine (HCOPY.out _ hL.below).mono ?_; rintro e w3 ⟨r, ts, Rv, Rt, Rl, Rf, rfl, hR, ho, hb⟩; replace hL := hL.gainTail hb ho; simp only [List.cons_append, List.nil_append] at hL; clear ho hb; dsimp only))
  clear HCOPY
  have hvn := hR.vars.flatlen lenV (by decide)
  obtain ⟨gv, cs, hpv, rfl, htk, hlen⟩ := hR.vars.block (by have := HVL.out; omega)
  simp only [List.cons_append, List.nil_append] at hL
  have HPutV := Lib.hid (fun v => hR.vars.put lenV dV (k := t) (by have := HTL.out; omega) v)
  have ht1 : t < r.vars.n := by have := HTL.out; omega
  have HLenT := Lib.hid (show t * 2 + 2 ≤ cs.length by have := hR.vars.fits; rw [hlen]; omega)
  have hra : r.at' = (k : Int) := hR.a.trans HK.out
  have hre : r.ending = 0 := hR.e.trans HE.out
  have HR := Lib.hid hR
  clear hR hvn htk hlen
  obtain ⟨ra, ⟨vp, vn, vc⟩, rt, rk, rl, re⟩ := r
  dsimp only at hpv hra hre ht1
  subst hpv
  subst hra
  subst hre
  go_upto_region 7 with (first | (with_reducible refine lld hL ?_) | ((with_reducible first | refine lbx hL ?_ | refine lal hL ?_ | refine lbs hL ?_); clear hL; intro bl w1 hL) | ((with_reducible refine lst' hL ?_); clear hL; intro w1 hL) | (go_at_call 24; refine (rNamesA_any _ _).mono ?_; rintro e w1 ⟨rfl, hb⟩; replace hL := hL.grow hb; clear hb; dsimp only) | (go_at_call 25; refine (rNamesB_any _ _).mono ?_; rintro e w1 ⟨rfl, hb⟩; replace hL := hL.grow hb; clear hb; dsimp only) | (go_at_call 30; refine (rNamesTo_any _ _).mono ?_; rintro e w1 ⟨rfl, hb⟩; replace hL := hL.grow hb; clear hb; dsimp only) | (go_at_call 20; refine (between_any _ _ _ _).mono ?_; rintro e w' ⟨rfl, rfl⟩; dsimp only) | ((with_reducible refine' loc_loadB HI2.out hL ?_ ?_ ?_); (case refine'_1 => exact cWant); (case refine'_2 => rfl)))
  clear HI2
  go_upto_region 8 with (first | (with_reducible refine lld hL ?_) | ((with_reducible first | refine lbx hL ?_ | refine lal hL ?_ | refine lbs hL ?_); clear hL; intro bl w1 hL) | ((with_reducible refine lst' hL ?_); clear hL; intro w1 hL) | (go_at_call 24; refine (rNamesA_any _ _).mono ?_; rintro e w1 ⟨rfl, hb⟩; replace hL := hL.grow hb; clear hb; dsimp only) | (go_at_call 25; refine (rNamesB_any _ _).mono ?_; rintro e w1 ⟨rfl, hb⟩; replace hL := hL.grow hb; clear hb; dsimp only) | (go_at_call 30; refine (rNamesTo_any _ _).mono ?_; rintro e w1 ⟨rfl, hb⟩; replace hL := hL.grow hb; clear hb; dsimp only) | (go_at_call 20; refine (between_any _ _ _ _).mono ?_; rintro e w' ⟨rfl, rfl⟩; dsimp only) | ((with_reducible refine' loc_loadB HI1.out hL ?_ ?_ ?_); (case refine'_1 => exact cWant); (case refine'_2 => rfl)))
  clear HI1
  have hna : nA 14 = false := by decide
  have hnb : nB 14 = false := by decide
  have hnt : nTo 14 = true := by decide
  have hbt : betw 14 5 8 = false := by decide
  have hq1 := HQ.out.1
  have hq2 := HQ.out.2.1
  have hq3 := HQ.out.2.2.1
  have hq4 := HQ.out.2.2.2
  have htk := HR.out.t
  dsimp only at htk
  rw [← htk] at hq1 hq2
  clear htk
  go_upto_region 61 with (first | (with_reducible refine lld hL ?_) | ((with_reducible first | refine lbx hL ?_ | refine lal hL ?_ | refine lbs hL ?_); clear hL; intro bl w1 hL) | ((with_reducible refine lst' hL ?_); clear hL; intro w1 hL) | (go_at_call 24; refine (rNamesA_any _ _).mono ?_; rintro e w1 ⟨rfl, hb⟩; replace hL := hL.grow hb; clear hb; dsimp only) | (go_at_call 25; refine (rNamesB_any _ _).mono ?_; rintro e w1 ⟨rfl, hb⟩; replace hL := hL.grow hb; clear hb; dsimp only) | (go_at_call 30; refine (rNamesTo_any _ _).mono ?_; rintro e w1 ⟨rfl, hb⟩; replace hL := hL.grow hb; clear hb; dsimp only) | (go_at_call 20; refine (between_any _ _ _ _).mono ?_; rintro e w' ⟨rfl, rfl⟩; dsimp only))
  go_upto_region 62 with (first | (with_reducible refine lld hL ?_) | ((with_reducible first | refine lbx hL ?_ | refine lal hL ?_ | refine lbs hL ?_); clear hL; intro bl w1 hL) | ((with_reducible refine lst' hL ?_); clear hL; intro w1 hL) | (go_at_call 24; refine (rNamesA_any _ _).mono ?_; rintro e w1 ⟨rfl, hb⟩; replace hL := hL.grow hb; clear hb; dsimp only) | (go_at_call 25; refine (rNamesB_any _ _).mono ?_; rintro e w1 ⟨rfl, hb⟩; replace hL := hL.grow hb; clear hb; dsimp only) | (go_at_call 30; refine (rNamesTo_any _ _).mono ?_; rintro e w1 ⟨rfl, hb⟩; replace hL := hL.grow hb; clear hb; dsimp only) | (go_at_call 20; refine (between_any _ _ _ _).mono ?_; rintro e w' ⟨rfl, rfl⟩; dsimp only))
  go_upto_region 63 with (first | (with_reducible refine lld hL ?_) | ((with_reducible refine' loc_store (b := gv) (off := t * 2) (vs := (Vl.mk 1 0).cells) (cs := cs) (cs' := spliced cs (t * 2) (Vl.mk 1 0).cells) hL ?_ ?_ ?_ ?_ ?_ ?_ ?_ ?_ ?_); (case refine'_3 => exact cWant); (case refine'_4 => rfl); (case refine'_5 => repeat (first | exact InL.head | apply InL.tail)); (case refine'_6 => rfl); (case refine'_7 => exact tValue.sz); (case refine'_8 => rfl); (case refine'_9 => exact HLenT.out); (case refine'_10 => rfl); clear hL; intro w' hL))
  go_wp2_with (first | (with_reducible refine lld hL ?_) | ((with_reducible first | refine lbx hL ?_ | refine lal hL ?_ | refine lbs hL ?_); clear hL; intro bl w1 hL) | ((with_reducible refine lst' hL ?_); clear hL; intro w1 hL) | (go_at_call 24; refine (rNamesA_any _ _).mono ?_; rintro e w1 ⟨rfl, hb⟩; replace hL := hL.grow hb; clear hb; dsimp only) | (go_at_call 25; refine (rNamesB_any _ _).mono ?_; rintro e w1 ⟨rfl, hb⟩; replace hL := hL.grow hb; clear hb; dsimp only) | (go_at_call 30; refine (rNamesTo_any _ _).mono ?_; rintro e w1 ⟨rfl, hb⟩; replace hL := hL.grow hb; clear hb; dsimp only) | (go_at_call 20; refine (between_any _ _ _ _).mono ?_; rintro e w' ⟨rfl, rfl⟩; dsimp only))
  (try simp only [Exit.inBlock, Exit.then]); refine' ret1 rfl ?_ rfl ?_; (case refine'_2 => exact cRes)
  obtain ⟨h1, h2, h3, h4, h5, h6, h7⟩ := HR.out
  refine ⟨⟨((k : Int) + 1), ⟨some ⟨gv, 0, none⟩, vn, vc⟩, rt, (wrap64 (rk + 1)), rl, 0⟩, ts, _, Rt, Rl, Rf, rfl, ⟨HPutV.out (Vl.mk 1 0), h2, h3, h4, by show (k : Int) + 1 = s.at' + 1; rw [HK.out], by have h := h6; dsimp only at h ⊢; rw [h]; rfl, HE.out.symm⟩, ?_, hL.below⟩
  exact hL.ownOf (by repeat (first | exact List.Sublist.refl _ | apply List.Sublist.cons))

set_option maxRecDepth 100000 in
set_option maxHeartbeats 4000000 in
theorem rstep_14_most (p : Pg) (is : Nat → Ins) (ins : Sl) (r0 : Rn) (s : Rs) (k : Nat) (t : Nat) (ia : Int) (ib : Int) (num : Int) (goto : Int) (j bi oi : Nat) (x : Int) (w : World) (hr : RunIs w r0 s) (hf : Fits s) (hend : s.ending = 0) (hk : s.at' = k) (hkn : k < p.n) (hk6 : p.n ≤ 60) (hc : CodeAt w p is) (hv : 0 < s.vars.length) (hi : is k = ⟨14, (t : Int), ia, ib, num, goto⟩) (ht : t < s.vars.length) (hq : s.taken = (j : Int) ∧ ins.p = some ⟨bi, oi, none⟩ ∧ j < ins.n ∧ ins.n ≤ 9223372036854775807 ∧ ReadsAt Tryd.prog 3 w bi (oi + j) (.int .i64 x) ∧ 0 ≤ num ∧ num ≤ 1000000 ∧ (decide (num < x) = true) ∧ (True)) :
    Calls Tryd.prog 10 #[p.v, r0.v, ins.v] w fun e w' => Gives w (Rs.set { s with taken := wrap64 (s.taken + 1) } t ⟨1, num⟩) e w' := by
  have HCOPY := Lib.hid (fun w' (hb : Below w.heap.size w w') => copyRun_any r0 s w' (hr.grow hb) hf)
  obtain ⟨bc, oc, hpc, hcr⟩ := hc
  have hpc2 := hpc (by omega)
  have hI1 := ReadsAt.agg (P := Tryd.prog) tInstr (hcr k hkn).1 (fun j v hj => (hcr k hkn).2 j v hj) rfl
  have hI2 := ReadsAt.cell (P := Tryd.prog) tInt (hcr k hkn).1 ((hcr k hkn).2 0 _ rfl)
  rw [hi] at hI1 hI2
  have HI1 := Lib.hid (show ReadsAt Tryd.prog 54 w bc (oc + k * 6) (Ins.v ⟨14, (t : Int), ia, ib, num, goto⟩) from hI1)
  have HI2 := Lib.hid (show ReadsAt Tryd.prog 3 w bc (oc + k * 6) (.int .i64 14) by have := hI2; rw [Nat.add_zero] at this; exact this)
  have HQ := Lib.hid hq
  clear hq
  have HK := Lib.hid hk
  have HE := Lib.hid hend
  have hkm : k ≤ 60 := by omega
  have HTL := Lib.hid ht
  have HFIT := Lib.hid hf
  have HVL := Lib.hid hv
  clear hr hf hend hk hpc hcr hI1 hI2 hi hv ht
  obtain ⟨pv, pf, pc, pn, pcap⟩ := p
  dsimp only at hpc2 hkn hk6
  subst hpc2
  have hne : ((k : Int) == (pn : Int)) = false := by simp; omega
  have hL := Loc.start w
  go_enter Tryd.func10, Tryd.ntmps10
  go_upto_region 2 with (first | (with_reducible refine lld hL ?_) | ((with_reducible first | refine lbx hL ?_ | refine lal hL ?_ | refine lbs hL ?_); clear hL; intro bl w1 hL) | ((with_reducible refine lst' hL ?_); clear hL; intro w1 hL) | (go_at_call 23; refine (HCOPY.out _ hL.below).mono ?_; rintro e w3 ⟨r, ts, Rv, Rt, Rl, Rf, rfl, hR, ho, hb⟩; replace hL := hL.gainTail hb ho; simp only [List.cons_append, List.nil_append] at hL; clear ho hb; dsimp only))
  clear HCOPY
  have hvn := hR.vars.flatlen lenV (by decide)
  obtain ⟨gv, cs, hpv, rfl, htk, hlen⟩ := hR.vars.block (by have := HVL.out; omega)
  simp only [List.cons_append, List.nil_append] at hL
  have HPutV := Lib.hid (fun v => hR.vars.put lenV dV (k := t) (by have := HTL.out; omega) v)
  have ht1 : t < r.vars.n := by have := HTL.out; omega
  have HLenT := Lib.hid (show t * 2 + 2 ≤ cs.length by have := hR.vars.fits; rw [hlen]; omega)
  have hra : r.at' = (k : Int) := hR.a.trans HK.out
  have hre : r.ending = 0 := hR.e.trans HE.out
  have HR := Lib.hid hR
  clear hR hvn htk hlen
  obtain ⟨ra, ⟨vp, vn, vc⟩, rt, rk, rl, re⟩ := r
  dsimp only at hpv hra hre ht1
  subst hpv
  subst hra
  subst hre
  go_upto_region 7 with (first | (with_reducible refine lld hL ?_) | ((with_reducible first | refine lbx hL ?_ | refine lal hL ?_ | refine lbs hL ?_); clear hL; intro bl w1 hL) | ((with_reducible refine lst' hL ?_); clear hL; intro w1 hL) | (go_at_call 24; refine (rNamesA_any _ _).mono ?_; rintro e w1 ⟨rfl, hb⟩; replace hL := hL.grow hb; clear hb; dsimp only) | (go_at_call 25; refine (rNamesB_any _ _).mono ?_; rintro e w1 ⟨rfl, hb⟩; replace hL := hL.grow hb; clear hb; dsimp only) | (go_at_call 30; refine (rNamesTo_any _ _).mono ?_; rintro e w1 ⟨rfl, hb⟩; replace hL := hL.grow hb; clear hb; dsimp only) | (go_at_call 20; refine (between_any _ _ _ _).mono ?_; rintro e w' ⟨rfl, rfl⟩; dsimp only) | ((with_reducible refine' loc_loadB HI2.out hL ?_ ?_ ?_); (case refine'_1 => exact cWant); (case refine'_2 => rfl)))
  clear HI2
  go_upto_region 8 with (first | (with_reducible refine lld hL ?_) | ((with_reducible first | refine lbx hL ?_ | refine lal hL ?_ | refine lbs hL ?_); clear hL; intro bl w1 hL) | ((with_reducible refine lst' hL ?_); clear hL; intro w1 hL) | (go_at_call 24; refine (rNamesA_any _ _).mono ?_; rintro e w1 ⟨rfl, hb⟩; replace hL := hL.grow hb; clear hb; dsimp only) | (go_at_call 25; refine (rNamesB_any _ _).mono ?_; rintro e w1 ⟨rfl, hb⟩; replace hL := hL.grow hb; clear hb; dsimp only) | (go_at_call 30; refine (rNamesTo_any _ _).mono ?_; rintro e w1 ⟨rfl, hb⟩; replace hL := hL.grow hb; clear hb; dsimp only) | (go_at_call 20; refine (between_any _ _ _ _).mono ?_; rintro e w' ⟨rfl, rfl⟩; dsimp only) | ((with_reducible refine' loc_loadB HI1.out hL ?_ ?_ ?_); (case refine'_1 => exact cWant); (case refine'_2 => rfl)))
  clear HI1
  have HRD := Lib.hid (show ReadsAt Tryd.prog 3 w bi (oi + j) (.int .i64 x) from HQ.out.2.2.2.2.1)
  have hj := HQ.out.2.2.1
  have hq3 := HQ.out.2.2.2.2.2.1
  have hq4 := HQ.out.2.2.2.2.2.2.1
  have hjm := HQ.out.2.2.2.1
  have htk := HR.out.t.trans HQ.out.1
  have HTK := Lib.hid HQ.out.1
  have hc1 := HQ.out.2.2.2.2.2.2.2.1
  have hc2 := HQ.out.2.2.2.2.2.2.2.2
  have hip := HQ.out.2.1
  obtain ⟨ip, inn, icap⟩ := ins
  dsimp only at htk hip hj hjm
  subst htk
  subst hip
  clear HQ
  dsimp only [Sl.v]
  have hna : nA 14 = false := by decide
  have hnb : nB 14 = false := by decide
  have hnt : nTo 14 = true := by decide
  have hbt : betw 14 5 8 = false := by decide
  have hnn : decide (num < -num) = false := by simp; omega
  go_upto_region 61 with (first | (with_reducible refine lld hL ?_) | ((with_reducible first | refine lbx hL ?_ | refine lal hL ?_ | refine lbs hL ?_); clear hL; intro bl w1 hL) | ((with_reducible refine lst' hL ?_); clear hL; intro w1 hL) | (go_at_call 24; refine (rNamesA_any _ _).mono ?_; rintro e w1 ⟨rfl, hb⟩; replace hL := hL.grow hb; clear hb; dsimp only) | (go_at_call 25; refine (rNamesB_any _ _).mono ?_; rintro e w1 ⟨rfl, hb⟩; replace hL := hL.grow hb; clear hb; dsimp only) | (go_at_call 30; refine (rNamesTo_any _ _).mono ?_; rintro e w1 ⟨rfl, hb⟩; replace hL := hL.grow hb; clear hb; dsimp only) | (go_at_call 20; refine (between_any _ _ _ _).mono ?_; rintro e w' ⟨rfl, rfl⟩; dsimp only) | ((with_reducible refine' loc_loadB HRD.out hL ?_ ?_ ?_); (case refine'_1 => exact cWant); (case refine'_2 => rfl)))
  go_upto_region 62 with (first | (with_reducible refine lld hL ?_) | ((with_reducible first | refine lbx hL ?_ | refine lal hL ?_ | refine lbs hL ?_); clear hL; intro bl w1 hL) | ((with_reducible refine lst' hL ?_); clear hL; intro w1 hL) | (go_at_call 24; refine (rNamesA_any _ _).mono ?_; rintro e w1 ⟨rfl, hb⟩; replace hL := hL.grow hb; clear hb; dsimp only) | (go_at_call 25; refine (rNamesB_any _ _).mono ?_; rintro e w1 ⟨rfl, hb⟩; replace hL := hL.grow hb; clear hb; dsimp only) | (go_at_call 30; refine (rNamesTo_any _ _).mono ?_; rintro e w1 ⟨rfl, hb⟩; replace hL := hL.grow hb; clear hb; dsimp only) | (go_at_call 20; refine (between_any _ _ _ _).mono ?_; rintro e w' ⟨rfl, rfl⟩; dsimp only))
  go_upto_region 63 with (first | (with_reducible refine lld hL ?_) | ((with_reducible refine' loc_store (b := gv) (off := t * 2) (vs := (Vl.mk 1 num).cells) (cs := cs) (cs' := spliced cs (t * 2) (Vl.mk 1 num).cells) hL ?_ ?_ ?_ ?_ ?_ ?_ ?_ ?_ ?_); (case refine'_3 => exact cWant); (case refine'_4 => rfl); (case refine'_5 => repeat (first | exact InL.head | apply InL.tail)); (case refine'_6 => rfl); (case refine'_7 => exact tValue.sz); (case refine'_8 => rfl); (case refine'_9 => exact HLenT.out); (case refine'_10 => rfl); clear hL; intro w' hL))
  go_wp2_with (first | (with_reducible refine lld hL ?_) | ((with_reducible first | refine lbx hL ?_ | refine lal hL ?_ | refine lbs hL ?_); clear hL; intro bl w1 hL) | ((with_reducible refine lst' hL ?_); clear hL; intro w1 hL) | (go_at_call 24; refine (rNamesA_any _ _).mono ?_; rintro e w1 ⟨rfl, hb⟩; replace hL := hL.grow hb; clear hb; dsimp only) | (go_at_call 25; refine (rNamesB_any _ _).mono ?_; rintro e w1 ⟨rfl, hb⟩; replace hL := hL.grow hb; clear hb; dsimp only) | (go_at_call 30; refine (rNamesTo_any _ _).mono ?_; rintro e w1 ⟨rfl, hb⟩; replace hL := hL.grow hb; clear hb; dsimp only) | (go_at_call 20; refine (between_any _ _ _ _).mono ?_; rintro e w' ⟨rfl, rfl⟩; dsimp only))
  (try simp only [Exit.inBlock, Exit.then]); refine' ret1 rfl ?_ rfl ?_; (case refine'_2 => exact cRes)
  obtain ⟨h1, h2, h3, h4, h5, h6, h7⟩ := HR.out
  refine ⟨⟨((k : Int) + 1), ⟨some ⟨gv, 0, none⟩, vn, vc⟩, rt, ((j : Int) + 1), rl, 0⟩, ts, _, Rt, Rl, Rf, rfl, ⟨HPutV.out (Vl.mk 1 num), h2, h3, h4, by show (k : Int) + 1 = s.at' + 1; rw [HK.out], by show (j : Int) + 1 = wrap64 (s.taken + 1); rw [HTK.out, Go.IntWalk.wrap64_in _ (by omega)], HE.out.symm⟩, ?_, hL.below⟩
  exact hL.ownOf (by repeat (first | exact List.Sublist.refl _ | apply List.Sublist.cons))

set_option maxRecDepth 100000 in
set_option maxHeartbeats 4000000 in
theorem rstep_14_least (p : Pg) (is : Nat → Ins) (ins : Sl) (r0 : Rn) (s : Rs) (k : Nat) (t : Nat) (ia : Int) (ib : Int) (num : Int) (goto : Int) (j bi oi : Nat) (x : Int) (w : World) (hr : RunIs w r0 s) (hf : Fits s) (hend : s.ending = 0) (hk : s.at' = k) (hkn : k < p.n) (hk6 : p.n ≤ 60) (hc : CodeAt w p is) (hv : 0 < s.vars.length) (hi : is k = ⟨14, (t : Int), ia, ib, num, goto⟩) (ht : t < s.vars.length) (hq : s.taken = (j : Int) ∧ ins.p = some ⟨bi, oi, none⟩ ∧ j < ins.n ∧ ins.n ≤ 9223372036854775807 ∧ ReadsAt Tryd.prog 3 w bi (oi + j) (.int .i64 x) ∧ 0 ≤ num ∧ num ≤ 1000000 ∧ (decide (num < x) = false) ∧ (decide (x < -num) = true)) :
    Calls Tryd.prog 10 #[p.v, r0.v, ins.v] w fun e w' => Gives w (Rs.set { s with taken := wrap64 (s.taken + 1) } t ⟨1, (-num)⟩) e w' := by
  have HCOPY := Lib.hid (fun w' (hb : Below w.heap.size w w') => copyRun_any r0 s w' (hr.grow hb) hf)
  obtain ⟨bc, oc, hpc, hcr⟩ := hc
  have hpc2 := hpc (by omega)
  have hI1 := ReadsAt.agg (P := Tryd.prog) tInstr (hcr k hkn).1 (fun j v hj => (hcr k hkn).2 j v hj) rfl
  have hI2 := ReadsAt.cell (P := Tryd.prog) tInt (hcr k hkn).1 ((hcr k hkn).2 0 _ rfl)
  rw [hi] at hI1 hI2
  have HI1 := Lib.hid (show ReadsAt Tryd.prog 54 w bc (oc + k * 6) (Ins.v ⟨14, (t : Int), ia, ib, num, goto⟩) from hI1)
  have HI2 := Lib.hid (show ReadsAt Tryd.prog 3 w bc (oc + k * 6) (.int .i64 14) by have := hI2; rw [Nat.add_zero] at this; exact this)
  have HQ := Lib.hid hq
  clear hq
  have HK := Lib.hid hk
  have HE := Lib.hid hend
  have hkm : k ≤ 60 := by omega
  have HTL := Lib.hid ht
  have HFIT := Lib.hid hf
  have HVL := Lib.hid hv
  clear hr hf hend hk hpc hcr hI1 hI2 hi hv ht
  obtain ⟨pv, pf, pc, pn, pcap⟩ := p
  dsimp only at hpc2 hkn hk6
  subst hpc2
  have hne : ((k : Int) == (pn : Int)) = false := by simp; omega
  have hL := Loc.start w
  go_enter Tryd.func10, Tryd.ntmps10
  go_upto_region 2 with (first | (with_reducible refine lld hL ?_) | ((with_reducible first | refine lbx hL ?_ | refine lal hL ?_ | refine lbs hL ?_); clear hL; intro bl w1 hL) | ((with_reducible refine lst' hL ?_); clear hL; intro w1 hL) | (go_at_call 23; refine (HCOPY.out _ hL.below).mono ?_; rintro e w3 ⟨r, ts, Rv, Rt, Rl, Rf, rfl, hR, ho, hb⟩; replace hL := hL.gainTail hb ho; simp only [List.cons_append, List.nil_append] at hL; clear ho hb; dsimp only))
  clear HCOPY
  have hvn := hR.vars.flatlen lenV (by decide)
  obtain ⟨gv, cs, hpv, rfl, htk, hlen⟩ := hR.vars.block (by have := HVL.out; omega)
  simp only [List.cons_append, List.nil_append] at hL
  have HPutV := Lib.hid (fun v => hR.vars.put lenV dV (k := t) (by have := HTL.out; omega) v)
  have ht1 : t < r.vars.n := by have := HTL.out; omega
  have HLenT := Lib.hid (show t * 2 + 2 ≤ cs.length by have := hR.vars.fits; rw [hlen]; omega)
  have hra : r.at' = (k : Int) := hR.a.trans HK.out
  have hre : r.ending = 0 := hR.e.trans HE.out
  have HR := Lib.hid hR
  clear hR hvn htk hlen
  obtain ⟨ra, ⟨vp, vn, vc⟩, rt, rk, rl, re⟩ := r
  dsimp only at hpv hra hre ht1
  subst hpv
  subst hra
  subst hre
  go_upto_region 7 with (first | (with_reducible refine lld hL ?_) | ((with_reducible first | refine lbx hL ?_ | refine lal hL ?_ | refine lbs hL ?_); clear hL; intro bl w1 hL) | ((with_reducible refine lst' hL ?_); clear hL; intro w1 hL) | (go_at_call 24; refine (rNamesA_any _ _).mono ?_; rintro e w1 ⟨rfl, hb⟩; replace hL := hL.grow hb; clear hb; dsimp only) | (go_at_call 25; refine (rNamesB_any _ _).mono ?_; rintro e w1 ⟨rfl, hb⟩; replace hL := hL.grow hb; clear hb; dsimp only) | (go_at_call 30; refine (rNamesTo_any _ _).mono ?_; rintro e w1 ⟨rfl, hb⟩; replace hL := hL.grow hb; clear hb; dsimp only) | (go_at_call 20; refine (between_any _ _ _ _).mono ?_; rintro e w' ⟨rfl, rfl⟩; dsimp only) | ((with_reducible refine' loc_loadB HI2.out hL ?_ ?_ ?_); (case refine'_1 => exact cWant); (case refine'_2 => rfl)))
  clear HI2
  go_upto_region 8 with (first | (with_reducible refine lld hL ?_) | ((with_reducible first | refine lbx hL ?_ | refine lal hL ?_ | refine lbs hL ?_); clear hL; intro bl w1 hL) | ((with_reducible refine lst' hL ?_); clear hL; intro w1 hL) | (go_at_call 24; refine (rNamesA_any _ _).mono ?_; rintro e w1 ⟨rfl, hb⟩; replace hL := hL.grow hb; clear hb; dsimp only) | (go_at_call 25; refine (rNamesB_any _ _).mono ?_; rintro e w1 ⟨rfl, hb⟩; replace hL := hL.grow hb; clear hb; dsimp only) | (go_at_call 30; refine (rNamesTo_any _ _).mono ?_; rintro e w1 ⟨rfl, hb⟩; replace hL := hL.grow hb; clear hb; dsimp only) | (go_at_call 20; refine (between_any _ _ _ _).mono ?_; rintro e w' ⟨rfl, rfl⟩; dsimp only) | ((with_reducible refine' loc_loadB HI1.out hL ?_ ?_ ?_); (case refine'_1 => exact cWant); (case refine'_2 => rfl)))
  clear HI1
  have HRD := Lib.hid (show ReadsAt Tryd.prog 3 w bi (oi + j) (.int .i64 x) from HQ.out.2.2.2.2.1)
  have hj := HQ.out.2.2.1
  have hq3 := HQ.out.2.2.2.2.2.1
  have hq4 := HQ.out.2.2.2.2.2.2.1
  have hjm := HQ.out.2.2.2.1
  have htk := HR.out.t.trans HQ.out.1
  have HTK := Lib.hid HQ.out.1
  have hc1 := HQ.out.2.2.2.2.2.2.2.1
  have hc2 := HQ.out.2.2.2.2.2.2.2.2
  have hip := HQ.out.2.1
  obtain ⟨ip, inn, icap⟩ := ins
  dsimp only at htk hip hj hjm
  subst htk
  subst hip
  clear HQ
  dsimp only [Sl.v]
  have hna : nA 14 = false := by decide
  have hnb : nB 14 = false := by decide
  have hnt : nTo 14 = true := by decide
  have hbt : betw 14 5 8 = false := by decide
  go_upto_region 61 with (first | (with_reducible refine lld hL ?_) | ((with_reducible first | refine lbx hL ?_ | refine lal hL ?_ | refine lbs hL ?_); clear hL; intro bl w1 hL) | ((with_reducible refine lst' hL ?_); clear hL; intro w1 hL) | (go_at_call 24; refine (rNamesA_any _ _).mono ?_; rintro e w1 ⟨rfl, hb⟩; replace hL := hL.grow hb; clear hb; dsimp only) | (go_at_call 25; refine (rNamesB_any _ _).mono ?_; rintro e w1 ⟨rfl, hb⟩; replace hL := hL.grow hb; clear hb; dsimp only) | (go_at_call 30; refine (rNamesTo_any _ _).mono ?_; rintro e w1 ⟨rfl, hb⟩; replace hL := hL.grow hb; clear hb; dsimp only) | (go_at_call 20; refine (between_any _ _ _ _).mono ?_; rintro e w' ⟨rfl, rfl⟩; dsimp only) | ((with_reducible refine' loc_loadB HRD.out hL ?_ ?_ ?_); (case refine'_1 => exact cWant); (case refine'_2 => rfl)))
  go_upto_region 62 with (first | (with_reducible refine lld hL ?_) | ((with_reducible first | refine lbx hL ?_ | refine lal hL ?_ | refine lbs hL ?_); clear hL; intro bl w1 hL) | ((with_reducible refine lst' hL ?_); clear hL; intro w1 hL) | (go_at_call 24; refine (rNamesA_any _ _).mono ?_; rintro e w1 ⟨rfl, hb⟩; replace hL := hL.grow hb; clear hb; dsimp only) | (go_at_call 25; refine (rNamesB_any _ _).mono ?_; rintro e w1 ⟨rfl, hb⟩; replace hL := hL.grow hb; clear hb; dsimp only) | (go_at_call 30; refine (rNamesTo_any _ _).mono ?_; rintro e w1 ⟨rfl, hb⟩; replace hL := hL.grow hb; clear hb; dsimp only) | (go_at_call 20; refine (between_any _ _ _ _).mono ?_; rintro e w' ⟨rfl, rfl⟩; dsimp only))
  go_upto_region 63 with (first | (with_reducible refine lld hL ?_) | ((with_reducible refine' loc_store (b := gv) (off := t * 2) (vs := (Vl.mk 1 (-num)).cells) (cs := cs) (cs' := spliced cs (t * 2) (Vl.mk 1 (-num)).cells) hL ?_ ?_ ?_ ?_ ?_ ?_ ?_ ?_ ?_); (case refine'_3 => exact cWant); (case refine'_4 => rfl); (case refine'_5 => repeat (first | exact InL.head | apply InL.tail)); (case refine'_6 => rfl); (case refine'_7 => exact tValue.sz); (case refine'_8 => rfl); (case refine'_9 => exact HLenT.out); (case refine'_10 => rfl); clear hL; intro w' hL))
  go_wp2_with (first | (with_reducible refine lld hL ?_) | ((with_reducible first | refine lbx hL ?_ | refine lal hL ?_ | refine lbs hL ?_); clear hL; intro bl w1 hL) | ((with_reducible refine lst' hL ?_); clear hL; intro w1 hL) | (go_at_call 24; refine (rNamesA_any _ _).mono ?_; rintro e w1 ⟨rfl, hb⟩; replace hL := hL.grow hb; clear hb; dsimp only) | (go_at_call 25; refine (rNamesB_any _ _).mono ?_; rintro e w1 ⟨rfl, hb⟩; replace hL := hL.grow hb; clear hb; dsimp only) | (go_at_call 30; refine (rNamesTo_any _ _).mono ?_; rintro e w1 ⟨rfl, hb⟩; replace hL := hL.grow hb; clear hb; dsimp only) | (go_at_call 20; refine (between_any _ _ _ _).mono ?_; rintro e w' ⟨rfl, rfl⟩; dsimp only))
  (try simp only [Exit.inBlock, Exit.then]); refine' ret1 rfl ?_ rfl ?_; (case refine'_2 => exact cRes)
  obtain ⟨h1, h2, h3, h4, h5, h6, h7⟩ := HR.out
  refine ⟨⟨((k : Int) + 1), ⟨some ⟨gv, 0, none⟩, vn, vc⟩, rt, ((j : Int) + 1), rl, 0⟩, ts, _, Rt, Rl, Rf, rfl, ⟨HPutV.out (Vl.mk 1 (-num)), h2, h3, h4, by show (k : Int) + 1 = s.at' + 1; rw [HK.out], by show (j : Int) + 1 = wrap64 (s.taken + 1); rw [HTK.out, Go.IntWalk.wrap64_in _ (by omega)], HE.out.symm⟩, ?_, hL.below⟩
  exact hL.ownOf (by repeat (first | exact List.Sublist.refl _ | apply List.Sublist.cons))

set_option maxRecDepth 100000 in
set_option maxHeartbeats 4000000 in
theorem rstep_14_mid (p : Pg) (is : Nat → Ins) (ins : Sl) (r0 : Rn) (s : Rs) (k : Nat) (t : Nat) (ia : Int) (ib : Int) (num : Int) (goto : Int) (j bi oi : Nat) (x : Int) (w : World) (hr : RunIs w r0 s) (hf : Fits s) (hend : s.ending = 0) (hk : s.at' = k) (hkn : k < p.n) (hk6 : p.n ≤ 60) (hc : CodeAt w p is) (hv : 0 < s.vars.length) (hi : is k = ⟨14, (t : Int), ia, ib, num, goto⟩) (ht : t < s.vars.length) (hq : s.taken = (j : Int) ∧ ins.p = some ⟨bi, oi, none⟩ ∧ j < ins.n ∧ ins.n ≤ 9223372036854775807 ∧ ReadsAt Tryd.prog 3 w bi (oi + j) (.int .i64 x) ∧ 0 ≤ num ∧ num ≤ 1000000 ∧ (decide (num < x) = false) ∧ (decide (x < -num) = false)) :
    Calls Tryd.prog 10 #[p.v, r0.v, ins.v] w fun e w' => Gives w (Rs.set { s with taken := wrap64 (s.taken + 1) } t ⟨1, x⟩) e w' := by
  have HCOPY := Lib.hid (fun w' (hb : Below w.heap.size w w') => copyRun_any r0 s w' (hr.grow hb) hf)
  obtain ⟨bc, oc, hpc, hcr⟩ := hc
  have hpc2 := hpc (by omega)
  have hI1 := ReadsAt.agg (P := Tryd.prog) tInstr (hcr k hkn).1 (fun j v hj => (hcr k hkn).2 j v hj) rfl
  have hI2 := ReadsAt.cell (P := Tryd.prog) tInt (hcr k hkn).1 ((hcr k hkn).2 0 _ rfl)
  rw [hi] at hI1 hI2
  have HI1 := Lib.hid (show ReadsAt Tryd.prog 54 w bc (oc + k * 6) (Ins.v ⟨14, (t : Int), ia, ib, num, goto⟩) from hI1)
  have HI2 := Lib.hid (show ReadsAt Tryd.prog 3 w bc (oc + k * 6) (.int .i64 14) by have := hI2; rw [Nat.add_zero] at this; exact this)
  have HQ := Lib.hid hq
  clear hq
  have HK := Lib.hid hk
  have HE := Lib.hid hend
  have hkm : k ≤ 60 := by omega
  have HTL := Lib.hid ht
  have HFIT := Lib.hid hf
  have HVL := Lib.hid hv
  clear hr hf hend hk hpc hcr hI1 hI2 hi hv ht
  obtain ⟨pv, pf, pc, pn, pcap⟩ := p
  dsimp only at hpc2 hkn hk6
  subst hpc2
  have hne : ((k : Int) == (pn : Int)) = false := by simp; omega
  have hL := Loc.start w
  go_enter Tryd.func10, Tryd.ntmps10
  go_upto_region 2 with (first | (with_reducible refine lld hL ?_) | ((with_reducible first | refine lbx hL ?_ | refine lal hL ?_ | refine lbs hL ?_); clear hL; intro bl w1 hL) | ((with_reducible refine lst' hL ?_); clear hL; intro w1 hL) | (go_at_call 23; refine (HCOPY.out _ hL.below).mono ?_; rintro e w3 ⟨r, ts, Rv, Rt, Rl, Rf, rfl, hR, ho, hb⟩; replace hL := hL.gainTail hb ho; simp only [List.cons_append, List.nil_append] at hL; clear ho hb; dsimp only))
  clear HCOPY
  have hvn := hR.vars.flatlen lenV (by decide)
  obtain ⟨gv, cs, hpv, rfl, htk, hlen⟩ := hR.vars.block (by have := HVL.out; omega)
  simp only [List.cons_append, List.nil_append] at hL
  have HPutV := Lib.hid (fun v => hR.vars.put lenV dV (k := t) (by have := HTL.out; omega) v)
  have ht1 : t < r.vars.n := by have := HTL.out; omega
  have HLenT := Lib.hid (show t * 2 + 2 ≤ cs.length by have := hR.vars.fits; rw [hlen]; omega)
  have hra : r.at' = (k : Int) := hR.a.trans HK.out
  have hre : r.ending = 0 := hR.e.trans HE.out
  have HR := Lib.hid hR
  clear hR hvn htk hlen
  obtain ⟨ra, ⟨vp, vn, vc⟩, rt, rk, rl, re⟩ := r
  dsimp only at hpv hra hre ht1
  subst hpv
  subst hra
  subst hre
  go_upto_region 7 with (first | (with_reducible refine lld hL ?_) | ((with_reducible first | refine lbx hL ?_ | refine lal hL ?_ | refine lbs hL ?_); clear hL; intro bl w1 hL) | ((with_reducible refine lst' hL ?_); clear hL; intro w1 hL) | (go_at_call 24; refine (rNamesA_any _ _).mono ?_; rintro e w1 ⟨rfl, hb⟩; replace hL := hL.grow hb; clear hb; dsimp only) | (go_at_call 25; refine (rNamesB_any _ _).mono ?_; rintro e w1 ⟨rfl, hb⟩; replace hL := hL.grow hb; clear hb; dsimp only) | (go_at_call 30; refine (rNamesTo_any _ _).mono ?_; rintro e w1 ⟨rfl, hb⟩; replace hL := hL.grow hb; clear hb; dsimp only) | (go_at_call 20; refine (between_any _ _ _ _).mono ?_; rintro e w' ⟨rfl, rfl⟩; dsimp only) | ((with_reducible refine' loc_loadB HI2.out hL ?_ ?_ ?_); (case refine'_1 => exact cWant); (case refine'_2 => rfl)))
  clear HI2
  go_upto_region 8 with (first | (with_reducible refine lld hL ?_) | ((with_reducible first | refine lbx hL ?_ | refine lal hL ?_ | refine lbs hL ?_); clear hL; intro bl w1 hL) | ((with_reducible refine lst' hL ?_); clear hL; intro w1 hL) | (go_at_call 24; refine (rNamesA_any _ _).mono ?_; rintro e w1 ⟨rfl, hb⟩; replace hL := hL.grow hb; clear hb; dsimp only) | (go_at_call 25; refine (rNamesB_any _ _).mono ?_; rintro e w1 ⟨rfl, hb⟩; replace hL := hL.grow hb; clear hb; dsimp only) | (go_at_call 30; refine (rNamesTo_any _ _).mono ?_; rintro e w1 ⟨rfl, hb⟩; replace hL := hL.grow hb; clear hb; dsimp only) | (go_at_call 20; refine (between_any _ _ _ _).mono ?_; rintro e w' ⟨rfl, rfl⟩; dsimp only) | ((with_reducible refine' loc_loadB HI1.out hL ?_ ?_ ?_); (case refine'_1 => exact cWant); (case refine'_2 => rfl)))
  clear HI1
  have HRD := Lib.hid (show ReadsAt Tryd.prog 3 w bi (oi + j) (.int .i64 x) from HQ.out.2.2.2.2.1)
  have hj := HQ.out.2.2.1
  have hq3 := HQ.out.2.2.2.2.2.1
  have hq4 := HQ.out.2.2.2.2.2.2.1
  have hjm := HQ.out.2.2.2.1
  have htk := HR.out.t.trans HQ.out.1
  have HTK := Lib.hid HQ.out.1
  have hc1 := HQ.out.2.2.2.2.2.2.2.1
  have hc2 := HQ.out.2.2.2.2.2.2.2.2
  have hip := HQ.out.2.1
  obtain ⟨ip, inn, icap⟩ := ins
  dsimp only at htk hip hj hjm
  subst htk
  subst hip
  clear HQ
  dsimp only [Sl.v]
  have hna : nA 14 = false := by decide
  have hnb : nB 14 = false := by decide
  have hnt : nTo 14 = true := by decide
  have hbt : betw 14 5 8 = false := by decide
  go_upto_region 61 with (first | (with_reducible refine lld hL ?_) | ((with_reducible first | refine lbx hL ?_ | refine lal hL ?_ | refine lbs hL ?_); clear hL; intro bl w1 hL) | ((with_reducible refine lst' hL ?_); clear hL; intro w1 hL) | (go_at_call 24; refine (rNamesA_any _ _).mono ?_; rintro e w1 ⟨rfl, hb⟩; replace hL := hL.grow hb; clear hb; dsimp only) | (go_at_call 25; refine (rNamesB_any _ _).mono ?_; rintro e w1 ⟨rfl, hb⟩; replace hL := hL.grow hb; clear hb; dsimp only) | (go_at_call 30; refine (rNamesTo_any _ _).mono ?_; rintro e w1 ⟨rfl, hb⟩; replace hL := hL.grow hb; clear hb; dsimp only) | (go_at_call 20; refine (between_any _ _ _ _).mono ?_; rintro e w' ⟨rfl, rfl⟩; dsimp only) | ((with_reducible refine' loc_loadB HRD.out hL ?_ ?_ ?_); (case refine'_1 => exact cWant); (case refine'_2 => rfl)))
  go_upto_region 62 with (first | (with_reducible refine lld hL ?_) | ((with_reducible first | refine lbx hL ?_ | refine lal hL ?_ | refine lbs hL ?_); clear hL; intro bl w1 hL) | ((with_reducible refine lst' hL ?_); clear hL; intro w1 hL) | (go_at_call 24; refine (rNamesA_any _ _).mono ?_; rintro e w1 ⟨rfl, hb⟩; replace hL := hL.grow hb; clear hb; dsimp only) | (go_at_call 25; refine (rNamesB_any _ _).mono ?_; rintro e w1 ⟨rfl, hb⟩; replace hL := hL.grow hb; clear hb; dsimp only) | (go_at_call 30; refine (rNamesTo_any _ _).mono ?_; rintro e w1 ⟨rfl, hb⟩; replace hL := hL.grow hb; clear hb; dsimp only) | (go_at_call 20; refine (between_any _ _ _ _).mono ?_; rintro e w' ⟨rfl, rfl⟩; dsimp only))
  go_upto_region 63 with (first | (with_reducible refine lld hL ?_) | ((with_reducible refine' loc_store (b := gv) (off := t * 2) (vs := (Vl.mk 1 x).cells) (cs := cs) (cs' := spliced cs (t * 2) (Vl.mk 1 x).cells) hL ?_ ?_ ?_ ?_ ?_ ?_ ?_ ?_ ?_); (case refine'_3 => exact cWant); (case refine'_4 => rfl); (case refine'_5 => repeat (first | exact InL.head | apply InL.tail)); (case refine'_6 => rfl); (case refine'_7 => exact tValue.sz); (case refine'_8 => rfl); (case refine'_9 => exact HLenT.out); (case refine'_10 => rfl); clear hL; intro w' hL))
  go_wp2_with (first | (with_reducible refine lld hL ?_) | ((with_reducible first | refine lbx hL ?_ | refine lal hL ?_ | refine lbs hL ?_); clear hL; intro bl w1 hL) | ((with_reducible refine lst' hL ?_); clear hL; intro w1 hL) | (go_at_call 24; refine (rNamesA_any _ _).mono ?_; rintro e w1 ⟨rfl, hb⟩; replace hL := hL.grow hb; clear hb; dsimp only) | (go_at_call 25; refine (rNamesB_any _ _).mono ?_; rintro e w1 ⟨rfl, hb⟩; replace hL := hL.grow hb; clear hb; dsimp only) | (go_at_call 30; refine (rNamesTo_any _ _).mono ?_; rintro e w1 ⟨rfl, hb⟩; replace hL := hL.grow hb; clear hb; dsimp only) | (go_at_call 20; refine (between_any _ _ _ _).mono ?_; rintro e w' ⟨rfl, rfl⟩; dsimp only))
  (try simp only [Exit.inBlock, Exit.then]); refine' ret1 rfl ?_ rfl ?_; (case refine'_2 => exact cRes)
  obtain ⟨h1, h2, h3, h4, h5, h6, h7⟩ := HR.out
  refine ⟨⟨((k : Int) + 1), ⟨some ⟨gv, 0, none⟩, vn, vc⟩, rt, ((j : Int) + 1), rl, 0⟩, ts, _, Rt, Rl, Rf, rfl, ⟨HPutV.out (Vl.mk 1 x), h2, h3, h4, by show (k : Int) + 1 = s.at' + 1; rw [HK.out], by show (j : Int) + 1 = wrap64 (s.taken + 1); rw [HTK.out, Go.IntWalk.wrap64_in _ (by omega)], HE.out.symm⟩, ?_, hL.below⟩
  exact hL.ownOf (by repeat (first | exact List.Sublist.refl _ | apply List.Sublist.cons))
end Go.Proofs.YtkdbehgekeidoaaDoor
