/- The walks over the reference's StepOf, kind by kind: new things, fields of things. Conditions: what a right program and a right run have. -/
import Derived.Test.YtkdbehgekeidoaaDoorRefStepA
set_option linter.unusedSimpArgs false
set_option linter.unusedVariables false
namespace Go.Proofs.YtkdbehgekeidoaaDoor
open Go.RowKit

set_option maxRecDepth 100000 in
set_option maxHeartbeats 4000000 in
theorem rstep_11_full (p : Pg) (is : Nat → Ins) (ins : Sl) (r0 : Rn) (s : Rs) (k : Nat) (t : Nat) (ia : Int) (ib : Int) (num : Int) (goto : Int) (w : World) (hr : RunIs w r0 s) (hf : Fits s) (hend : s.ending = 0) (hk : s.at' = k) (hkn : k < p.n) (hk6 : p.n ≤ 60) (hc : CodeAt w p is) (hv : 0 < s.vars.length) (hi : is k = ⟨11, (t : Int), ia, ib, num, goto⟩) (ht : t < s.vars.length) (hq : s.things.length = 100) :
    Calls Tryd.prog 10 #[p.v, r0.v, ins.v] w fun e w' => Gives w ({ s with ending := 5 }) e w' := by
  have HCOPY := Lib.hid (fun w' (hb : Below w.heap.size w w') => copyRun_any r0 s w' (hr.grow hb) hf)
  obtain ⟨bc, oc, hpc, hcr⟩ := hc
  have hpc2 := hpc (by omega)
  have hI1 := ReadsAt.agg (P := Tryd.prog) tInstr (hcr k hkn).1 (fun j v hj => (hcr k hkn).2 j v hj) rfl
  have hI2 := ReadsAt.cell (P := Tryd.prog) tInt (hcr k hkn).1 ((hcr k hkn).2 0 _ rfl)
  rw [hi] at hI1 hI2
  have HI1 := Lib.hid (show ReadsAt Tryd.prog 54 w bc (oc + k * 6) (Ins.v ⟨11, (t : Int), ia, ib, num, goto⟩) from hI1)
  have HI2 := Lib.hid (show ReadsAt Tryd.prog 3 w bc (oc + k * 6) (.int .i64 11) by have := hI2; rw [Nat.add_zero] at this; exact this)
  have HQ := Lib.hid hq
  clear hq
  have HK := Lib.hid hk
  have HE := Lib.hid hend
  have hkm : k ≤ 60 := by omega
  have HTL := Lib.hid ht
  have HFIT := Lib.hid hf
  have HVL := Lib.hid hv
  clear hr hf hend hk hpc hcr hI1 hI2 hi hv ht
  obtain ⟨pv, pf, pc, pn, pcap⟩ := p
  dsimp only at hpc2 hkn hk6
  subst hpc2
  have hne : ((k : Int) == (pn : Int)) = false := by simp; omega
  have hL := Loc.start w
  go_enter Tryd.func10, Tryd.ntmps10
  go_upto_region 2 with (first | (with_reducible refine lld hL ?_) | ((with_reducible first | refine lbx hL ?_ | refine lal hL ?_ | refine lbs hL ?_); clear hL; intro bl w1 hL) | ((with_reducible refine lst' hL ?_); clear hL; intro w1 hL) | (go_at_call 23; refine (HCOPY.out _ hL.below).mono ?_; rintro e w3 ⟨r, ts, Rv, Rt, Rl, Rf, rfl, hR, ho, hb⟩; replace hL := hL.gainTail hb ho; simp only [List.cons_append, List.nil_append] at hL; clear ho hb; dsimp only))
  clear HCOPY
  have hvn := hR.vars.flatlen lenV (by decide)
  obtain ⟨gv, cs, hpv, rfl, htk, hlen⟩ := hR.vars.block (by have := HVL.out; omega)
  simp only [List.cons_append, List.nil_append] at hL
  have HPutV := Lib.hid (fun v => hR.vars.put lenV dV (k := t) (by have := HTL.out; omega) v)
  have ht1 : t < r.vars.n := by have := HTL.out; omega
  have HLenT := Lib.hid (show t * 2 + 2 ≤ cs.length by have := hR.vars.fits; rw [hlen]; omega)
  have hra : r.at' = (k : Int) := hR.a.trans HK.out
  have hre : r.ending = 0 := hR.e.trans HE.out
  have HR := Lib.hid hR
  clear hR hvn htk hlen
  obtain ⟨ra, ⟨vp, vn, vc⟩, rt, rk, rl, re⟩ := r
  dsimp only at hpv hra hre ht1
  subst hpv
  subst hra
  subst hre
  go_upto_region 7 with (first | (with_reducible refine lld hL ?_) | ((with_reducible first | refine lbx hL ?_ | refine lal hL ?_ | refine lbs hL ?_); clear hL; intro bl w1 hL) | ((with_reducible refine lst' hL ?_); clear hL; intro w1 hL) | (go_at_call 24; refine (rNamesA_any _ _).mono ?_; rintro e w1 ⟨rfl, hb⟩; replace hL := hL.grow hb; clear hb; dsimp only) | (go_at_call 25; refine (rNamesB_any _ _).mono ?_; rintro e w1 ⟨rfl, hb⟩; replace hL := hL.grow hb; clear hb; dsimp only) | (go_at_call 30; refine (rNamesTo_any _ _).mono ?_; rintro e w1 ⟨rfl, hb⟩; replace hL := hL.grow hb; clear hb; dsimp only) | (go_at_call 20; refine (between_any _ _ _ _).mono ?_; rintro e w' ⟨rfl, rfl⟩; dsimp only) | ((with_reducible refine' loc_loadB HI2.out hL ?_ ?_ ?_); (case refine'_1 => exact cWant); (case refine'_2 => rfl)))
  clear HI2
  go_upto_region 8 with (first | (with_reducible refine lld hL ?_) | ((with_reducible first | refine lbx hL ?_ | refine lal hL ?_ | refine lbs hL ?_); clear hL; intro bl w1 hL) | ((with_reducible refine lst' hL ?_); clear hL; intro w1 hL) | (go_at_call 24; refine (rNamesA_any _ _).mono ?_; rintro e w1 ⟨rfl, hb⟩; replace hL := hL.grow hb; clear hb; dsimp only) | (go_at_call 25; refine (rNamesB_any _ _).mono ?_; rintro e w1 ⟨rfl, hb⟩; replace hL := hL.grow hb; clear hb; dsimp only) | (go_at_call 30; refine (rNamesTo_any _ _).mono ?_; rintro e w1 ⟨rfl, hb⟩; replace hL := hL.grow hb; clear hb; dsimp only) | (go_at_call 20; refine (between_any _ _ _ _).mono ?_; rintro e w' ⟨rfl, rfl⟩; dsimp only) | ((with_reducible refine' loc_loadB HI1.out hL ?_ ?_ ?_); (case refine'_1 => exact cWant); (case refine'_2 => rfl)))
  clear HI1
  have hna : nA 11 = false := by decide
  have hnb : nB 11 = false := by decide
  have hnt : nTo 11 = true := by decide
  have hbt : betw 11 5 8 = false := by decide
  have hq := HQ.out
  have htn := HR.out.things.flatlen lenT (by decide)
  have htn2 := HR.out.fields.len
  obtain ⟨tp, tn, tc⟩ := rt
  obtain rfl : tn = 100 := by dsimp only at htn; omega
  clear htn htn2 hq
  go_wp2_with (first | (with_reducible refine lld hL ?_) | ((with_reducible first | refine lbx hL ?_ | refine lal hL ?_ | refine lbs hL ?_); clear hL; intro bl w1 hL) | ((with_reducible refine lst' hL ?_); clear hL; intro w1 hL) | (go_at_call 24; refine (rNamesA_any _ _).mono ?_; rintro e w1 ⟨rfl, hb⟩; replace hL := hL.grow hb; clear hb; dsimp only) | (go_at_call 25; refine (rNamesB_any _ _).mono ?_; rintro e w1 ⟨rfl, hb⟩; replace hL := hL.grow hb; clear hb; dsimp only) | (go_at_call 30; refine (rNamesTo_any _ _).mono ?_; rintro e w1 ⟨rfl, hb⟩; replace hL := hL.grow hb; clear hb; dsimp only) | (go_at_call 20; refine (between_any _ _ _ _).mono ?_; rintro e w' ⟨rfl, rfl⟩; dsimp only))
  (try simp only [Exit.inBlock, Exit.then]); refine' ret1 rfl ?_ rfl ?_; (case refine'_2 => exact cRes)
  obtain ⟨h1, h2, h3, h4, h5, h6, h7⟩ := HR.out
  refine ⟨⟨(k : Int), ⟨some ⟨gv, 0, none⟩, vn, vc⟩, ⟨tp, 100, tc⟩, rk, rl, 5⟩, ts, _, Rt, Rl, Rf, rfl, ⟨h1, h2, h3, h4, HK.out.symm, h6, rfl⟩, ?_, hL.below⟩
  exact hL.ownOf (by repeat (first | exact List.Sublist.refl _ | apply List.Sublist.cons))

set_option maxRecDepth 100000 in
set_option maxHeartbeats 4000000 in
theorem rstep_11_new (p : Pg) (is : Nat → Ins) (ins : Sl) (r0 : Rn) (s : Rs) (k : Nat) (t : Nat) (ia : Int) (ib : Int) (num : Int) (goto : Int) (m : Nat) (w : World) (hr : RunIs w r0 s) (hf : Fits s) (hend : s.ending = 0) (hk : s.at' = k) (hkn : k < p.n) (hk6 : p.n ≤ 60) (hc : CodeAt w p is) (hv : 0 < s.vars.length) (hi : is k = ⟨11, (t : Int), ia, ib, num, goto⟩) (ht : t < s.vars.length) (hq : (p.fields = m ∧ m ≤ 3) ∧ s.things.length ≤ 100 ∧ s.things.length ≠ 100) :
    Calls Tryd.prog 10 #[p.v, r0.v, ins.v] w fun e w' => Gives w (Rs.set { s with things := s.things ++ [(s.at', List.replicate m dV)] } t ⟨3, (s.things.length : Int)⟩) e w' := by
  have HCOPY := Lib.hid (fun w' (hb : Below w.heap.size w w') => copyRun_any r0 s w' (hr.grow hb) hf)
  obtain ⟨bc, oc, hpc, hcr⟩ := hc
  have hpc2 := hpc (by omega)
  have hI1 := ReadsAt.agg (P := Tryd.prog) tInstr (hcr k hkn).1 (fun j v hj => (hcr k hkn).2 j v hj) rfl
  have hI2 := ReadsAt.cell (P := Tryd.prog) tInt (hcr k hkn).1 ((hcr k hkn).2 0 _ rfl)
  rw [hi] at hI1 hI2
  have HI1 := Lib.hid (show ReadsAt Tryd.prog 54 w bc (oc + k * 6) (Ins.v ⟨11, (t : Int), ia, ib, num, goto⟩) from hI1)
  have HI2 := Lib.hid (show ReadsAt Tryd.prog 3 w bc (oc + k * 6) (.int .i64 11) by have := hI2; rw [Nat.add_zero] at this; exact this)
  have HQ := Lib.hid hq
  clear hq
  have HK := Lib.hid hk
  have HE := Lib.hid hend
  have hkm : k ≤ 60 := by omega
  have HTL := Lib.hid ht
  have HFIT := Lib.hid hf
  have HVL := Lib.hid hv
  clear hr hf hend hk hpc hcr hI1 hI2 hi hv ht
  obtain ⟨pv, pf, pc, pn, pcap⟩ := p
  dsimp only at hpc2 hkn hk6
  subst hpc2
  have hne : ((k : Int) == (pn : Int)) = false := by simp; omega
  have hL := Loc.start w
  go_enter Tryd.func10, Tryd.ntmps10
  go_upto_region 2 with (first | (with_reducible refine lld hL ?_) | ((with_reducible first | refine lbx hL ?_ | refine lal hL ?_ | refine lbs hL ?_); clear hL; intro bl w1 hL) | ((with_reducible refine lst' hL ?_); clear hL; intro w1 hL) | (go_at_call 23; refine (HCOPY.out _ hL.below).mono ?_; rintro e w3 ⟨r, ts, Rv, Rt, Rl, Rf, rfl, hR, ho, hb⟩; replace hL := hL.gainTail hb ho; simp only [List.cons_append, List.nil_append] at hL; clear ho hb; dsimp only))
  clear HCOPY
  have hvn := hR.vars.flatlen lenV (by decide)
  obtain ⟨gv, cs, hpv, rfl, htk, hlen⟩ := hR.vars.block (by have := HVL.out; omega)
  simp only [List.cons_append, List.nil_append] at hL
  have HPutV := Lib.hid (fun v => hR.vars.put lenV dV (k := t) (by have := HTL.out; omega) v)
  have ht1 : t < r.vars.n := by have := HTL.out; omega
  have HLenT := Lib.hid (show t * 2 + 2 ≤ cs.length by have := hR.vars.fits; rw [hlen]; omega)
  have hra : r.at' = (k : Int) := hR.a.trans HK.out
  have hre : r.ending = 0 := hR.e.trans HE.out
  have HR := Lib.hid hR
  clear hR hvn htk hlen
  obtain ⟨ra, ⟨vp, vn, vc⟩, rt, rk, rl, re⟩ := r
  dsimp only at hpv hra hre ht1
  subst hpv
  subst hra
  subst hre
  replace hL := hL.perm ((((((by rw [← List.append_assoc Rl Rf Rt]; exact List.perm_append_comm : (Rl ++ (Rf ++ Rt)).Perm (Rt ++ (Rl ++ Rf))).cons (gv, 56, cs)).cons _).cons _).cons _))
  dsimp only at hL
  go_upto_region 7 with (first | (with_reducible refine lld hL ?_) | ((with_reducible first | refine lbx hL ?_ | refine lal hL ?_ | refine lbs hL ?_); clear hL; intro bl w1 hL) | ((with_reducible refine lst' hL ?_); clear hL; intro w1 hL) | (go_at_call 24; refine (rNamesA_any _ _).mono ?_; rintro e w1 ⟨rfl, hb⟩; replace hL := hL.grow hb; clear hb; dsimp only) | (go_at_call 25; refine (rNamesB_any _ _).mono ?_; rintro e w1 ⟨rfl, hb⟩; replace hL := hL.grow hb; clear hb; dsimp only) | (go_at_call 30; refine (rNamesTo_any _ _).mono ?_; rintro e w1 ⟨rfl, hb⟩; replace hL := hL.grow hb; clear hb; dsimp only) | (go_at_call 20; refine (between_any _ _ _ _).mono ?_; rintro e w' ⟨rfl, rfl⟩; dsimp only) | ((with_reducible refine' loc_loadB HI2.out hL ?_ ?_ ?_); (case refine'_1 => exact cWant); (case refine'_2 => rfl)))
  clear HI2
  go_upto_region 8 with (first | (with_reducible refine lld hL ?_) | ((with_reducible first | refine lbx hL ?_ | refine lal hL ?_ | refine lbs hL ?_); clear hL; intro bl w1 hL) | ((with_reducible refine lst' hL ?_); clear hL; intro w1 hL) | (go_at_call 24; refine (rNamesA_any _ _).mono ?_; rintro e w1 ⟨rfl, hb⟩; replace hL := hL.grow hb; clear hb; dsimp only) | (go_at_call 25; refine (rNamesB_any _ _).mono ?_; rintro e w1 ⟨rfl, hb⟩; replace hL := hL.grow hb; clear hb; dsimp only) | (go_at_call 30; refine (rNamesTo_any _ _).mono ?_; rintro e w1 ⟨rfl, hb⟩; replace hL := hL.grow hb; clear hb; dsimp only) | (go_at_call 20; refine (between_any _ _ _ _).mono ?_; rintro e w' ⟨rfl, rfl⟩; dsimp only) | ((with_reducible refine' loc_loadB HI1.out hL ?_ ?_ ?_); (case refine'_1 => exact cWant); (case refine'_2 => rfl)))
  clear HI1
  have hna : nA 11 = false := by decide
  have hnb : nB 11 = false := by decide
  have hnt : nTo 11 = true := by decide
  have hbt : betw 11 5 8 = false := by decide
  have htn := HR.out.things.flatlen lenT (by decide)
  have htn2 := HR.out.fields.len
  obtain ⟨tp, tn, tc⟩ := rt
  dsimp only at htn
  have hmx : maxLen = 9223372036854775807 := rfl
  have HQ2 := Lib.hid (And.intro (show tn ≤ 99 by have := HQ.out.2.2; have := HQ.out.2.1; omega) hmx)
  have HQ3 := Lib.hid (show s.things.length = tn by omega)
  have hne2 : ((tn : Int) == 100) = false := by have := HQ2.out.1; simp; omega
  have hpm := HQ.out.1.1
  dsimp only at hpm
  subst hpm
  have HM3 := Lib.hid HQ.out.1.2
  clear htn htn2 hmx HQ
  go_upto_region 45 with (first | (with_reducible refine lld hL ?_) | ((with_reducible first | refine lbx hL ?_ | refine lal hL ?_ | refine lbs hL ?_); clear hL; intro bl w1 hL) | ((with_reducible refine lst' hL ?_); clear hL; intro w1 hL) | (go_at_call 24; refine (rNamesA_any _ _).mono ?_; rintro e w1 ⟨rfl, hb⟩; replace hL := hL.grow hb; clear hb; dsimp only) | (go_at_call 25; refine (rNamesB_any _ _).mono ?_; rintro e w1 ⟨rfl, hb⟩; replace hL := hL.grow hb; clear hb; dsimp only) | (go_at_call 30; refine (rNamesTo_any _ _).mono ?_; rintro e w1 ⟨rfl, hb⟩; replace hL := hL.grow hb; clear hb; dsimp only) | (go_at_call 20; refine (between_any _ _ _ _).mono ?_; rintro e w' ⟨rfl, rfl⟩; dsimp only))
  obtain ⟨wq, hwq⟩ : ∃ x, x = w1 := ⟨_, rfl⟩
  subst hwq
  refine draw_begin [195, 196, 197, 198, 199, 200, 201, 202, 203] ?_
  apply draw_val
  · intro g w hb hdep; replace hL := hL.grow hb; clear hdep; simp only [fillD, fLa, fLb, sTa, sTb]
    go_wp2
    exact cY
  simp only [apN, apC]
  apply draw_val
  · intro g w hb hdep; replace hL := hL.grow hb; have d0 := yv hdep 0; clear hdep; simp only [fillD, fLa, fLb, sTa, sTb]; simp only [d0]
    go_wp2_with (first | (with_reducible refine lld hL ?_) | (with_reducible refine ldD hL ?_))
    exact cY
  simp only [apN, apC]
  apply draw_val
  · intro g w hb hdep; replace hL := hL.grow hb; clear hdep; simp only [fillD, fLa, fLb, sTa, sTb]
    go_wp2
    exact cY
  simp only [apN, apC]
  apply draw_val
  · intro g w hb hdep; replace hL := hL.grow hb; have d2 := yv hdep 2; clear hdep; simp only [fillD, fLa, fLb, sTa, sTb]; simp only [d2]
    go_wp2_with (first | (with_reducible refine lld hL ?_) | (with_reducible refine ldD hL ?_))
    exact cY
  simp only [apN, apC]
  apply draw_val
  · intro g w hb hdep; replace hL := hL.grow hb; clear hdep; simp only [fillD, fLa, fLb, sTa, sTb]
    go_wp2
    exact cY
  simp only [apN, apC]
  apply draw_val
  · intro g w hb hdep; replace hL := hL.grow hb; have d4 := yv hdep 4; clear hdep; simp only [fillD, fLa, fLb, sTa, sTb]; simp only [d4]
    go_wp2_with (first | (with_reducible refine lld hL ?_) | (with_reducible refine ldD hL ?_))
    exact cY
  simp only [apN, apC]
  refine draw_next (FieldR wq.heap.size m (List.replicate m dV)) FieldR.stable ?_ ?_
  · intro g w hb hdep; replace hL := hL.grow hb; have d5 := yv hdep 5; clear hdep; simp only [fillD, fLa, fLb, sTa, sTb]; simp only [d5]
    go_wp2_with (refine wp_make_new (n := m) rfl sValues bValue rfl rfl (by have := HM3.out; omega) (by have := HM3.out; omega) ?_; intro p' cap' R' w' hS' hO' hB')
    exact ⟨rfl, _, rfl, hB', _, _, _, rfl, by rw [flat_rep] at hS'; exact hS', hO'.mono hb.size⟩
  simp only [apN, apC]
  refine draw_next (ThingR wq.heap.size m (k : Int) (List.replicate m dV)) ThingR.stable ?_ ?_
  · intro g w hb hdep; replace hL := hL.grow hb; have d3 := yv hdep 3; have d6 : (FieldR wq.heap.size m (List.replicate m dV)) (g 201) w := yr hdep 6; obtain ⟨q6, c6, R6, d6, hS6, hO6⟩ := d6; clear hdep; simp only [fillD, fLa, fLb, sTa, sTb]; simp only [d3, d6]
    go_wp2_with (fail)
    exact ⟨rfl, _, rfl, Below.refl _ _, _, _, _, rfl, hS6, hO6⟩
  simp only [apN, apC]
  refine draw_next (RowTR wq.heap.size m (k : Int) (List.replicate m dV)) RowTR.stable ?_ ?_
  · intro g w hb hdep; replace hL := hL.grow hb; have d7 : (ThingR wq.heap.size m (k : Int) (List.replicate m dV)) (g 202) w := yr hdep 7; obtain ⟨q7, c7, R7, d7, hS7, hO7⟩ := d7; clear hdep; simp only [fillD, fLa, fLb, sTa, sTb]; simp only [d7]
    go_wp2_with (fail)
    exact ⟨rfl, _, rfl, (Below.refl _ _).alloc (Nat.le_refl _) _, _, _, _, _, rfl, hS7, hO7.grow ((Below.refl _ _).alloc (Nat.le_refl _) _), heap_new _ _⟩
  simp only [apN, apC]
  refine draw_end hL (by kernel_rfl) (by kernel_rfl) ?_
  intro g w2 hb hR; simp only [List.length_cons, List.length_nil, Nat.reduceAdd] at hR
  have e0 := yv hR 0
  have e1 := yv hR 1
  have e2 := yv hR 2
  have e3 := yv hR 3
  have e4 := yv hR 4
  have e5 := yv hR 5
  have e6 : (FieldR wq.heap.size m (List.replicate m dV)) (g 201) w2 := yr hR 6
  obtain ⟨q6, c6, R6, e6, -, -⟩ := e6
  have e7 : (ThingR wq.heap.size m (k : Int) (List.replicate m dV)) (g 202) w2 := yr hR 7
  obtain ⟨q7, c7, R7, e7, -, -⟩ := e7
  have e8 : (RowTR wq.heap.size m (k : Int) (List.replicate m dV)) (g 203) w2 := yr hR 8
  obtain ⟨qf, cf, Rn, bf, e8, hSf, hOf, hHf⟩ := e8; have hL2 := hL.gainMid (K := _ :: _ :: _ :: _ :: _ :: _ :: _ :: (gv, _, _) :: (Rl ++ Rf)) (R := Rt) (by simp only [List.cons_append, List.append_assoc]; rfl) hb hOf; clear hOf
  clear hR; simp only [fillD, fLa, fLb, sTa, sTb]
  simp only [e0, e1, e2, e3, e4, e5, e6, e7, e8]
  clear e0 e1 e2 e3 e4 e5 e6 e7 e8
  replace hL := hL.grow hb
  clear hb
  replace hL := hL2
  clear hL2
  simp only [List.cons_append, List.append_assoc] at hL
  go_upto_region 61 with (first | (refine loc_appendS (K := _ :: _ :: _ :: _ :: _ :: _ :: _ :: (gv, _, _) :: (Rl ++ (Rf ++ Rn))) (R := Rt) (news := [.int .i64 (k : Int), .slice qf m cf]) HR.out.things hL (by simp only [List.cons_append, List.append_assoc]; rfl) rfl rfl sThings bThing (by decide) rfl (fun _ => ⟨⟨bf, 0, none⟩, rfl, fun j u hj => by rw [add_addr, Nat.zero_add]; exact heap_cell hHf j hj⟩) rfl (by simp [Value.oneCell']) (by have := HQ2.out.1; have := HQ2.out.2; omega) (by have := HQ2.out.1; omega) ?_; clear hL; intro p4 cap4 Rt4 w4 hS4 hL; simp only [List.cons_append, List.append_assoc] at hL) | (with_reducible refine lld hL ?_) | ((with_reducible first | refine lbx hL ?_ | refine lal hL ?_ | refine lbs hL ?_); clear hL; intro bl w1 hL) | ((with_reducible refine lst' hL ?_); clear hL; intro w1 hL))
  go_upto_region 62 with (first | (with_reducible refine lld hL ?_) | ((with_reducible first | refine lbx hL ?_ | refine lal hL ?_ | refine lbs hL ?_); clear hL; intro bl w1 hL) | ((with_reducible refine lst' hL ?_); clear hL; intro w1 hL) | (go_at_call 24; refine (rNamesA_any _ _).mono ?_; rintro e w1 ⟨rfl, hb⟩; replace hL := hL.grow hb; clear hb; dsimp only) | (go_at_call 25; refine (rNamesB_any _ _).mono ?_; rintro e w1 ⟨rfl, hb⟩; replace hL := hL.grow hb; clear hb; dsimp only) | (go_at_call 30; refine (rNamesTo_any _ _).mono ?_; rintro e w1 ⟨rfl, hb⟩; replace hL := hL.grow hb; clear hb; dsimp only) | (go_at_call 20; refine (between_any _ _ _ _).mono ?_; rintro e w' ⟨rfl, rfl⟩; dsimp only))
  go_upto_region 63 with (first | (with_reducible refine lld hL ?_) | ((with_reducible refine' loc_store (b := gv) (off := t * 2) (vs := (Vl.mk 3 (tn : Int)).cells) (cs := cs) (cs' := spliced cs (t * 2) (Vl.mk 3 (tn : Int)).cells) hL ?_ ?_ ?_ ?_ ?_ ?_ ?_ ?_ ?_); (case refine'_3 => exact cWant); (case refine'_4 => rfl); (case refine'_5 => repeat (first | exact InL.head | apply InL.tail)); (case refine'_6 => rfl); (case refine'_7 => exact tValue.sz); (case refine'_8 => rfl); (case refine'_9 => exact HLenT.out); (case refine'_10 => rfl); clear hL; intro w' hL))
  go_wp2_with (first | (with_reducible refine lld hL ?_) | ((with_reducible first | refine lbx hL ?_ | refine lal hL ?_ | refine lbs hL ?_); clear hL; intro bl w1 hL) | ((with_reducible refine lst' hL ?_); clear hL; intro w1 hL) | (go_at_call 24; refine (rNamesA_any _ _).mono ?_; rintro e w1 ⟨rfl, hb⟩; replace hL := hL.grow hb; clear hb; dsimp only) | (go_at_call 25; refine (rNamesB_any _ _).mono ?_; rintro e w1 ⟨rfl, hb⟩; replace hL := hL.grow hb; clear hb; dsimp only) | (go_at_call 30; refine (rNamesTo_any _ _).mono ?_; rintro e w1 ⟨rfl, hb⟩; replace hL := hL.grow hb; clear hb; dsimp only) | (go_at_call 20; refine (between_any _ _ _ _).mono ?_; rintro e w' ⟨rfl, rfl⟩; dsimp only))
  (try simp only [Exit.inBlock, Exit.then]); refine' ret1 rfl ?_ rfl ?_; (case refine'_2 => exact cRes)
  obtain ⟨h1, h2, h3, h4, h5, h6, h7⟩ := HR.out
  rw [HQ3.out]
  refine ⟨⟨(k : Int) + 1, ⟨some ⟨gv, 0, none⟩, vn, vc⟩, ⟨p4, tn + 1, cap4⟩, rk, rl, 0⟩, ts ++ [⟨(k : Int), ⟨qf, m, cf⟩⟩], _, Rt4, Rl, Rf ++ Rn, rfl, ⟨HPutV.out (Vl.mk 3 (tn : Int)), by simpa [flatT] using hS4, h3, ?_, by show (k : Int) + 1 = s.at' + 1; rw [HK.out], h6, HE.out.symm⟩, ?_, hL.below⟩
  · have := FRows.snoc (t := ⟨(k : Int), ⟨qf, m, cf⟩⟩) h4 hSf
    show FRows _ (s.things ++ [(s.at', List.replicate m dV)]) _
    rw [HK.out]; exact this
  · refine (hL.ownOf (R := (gv, _, _) :: (Rl ++ (Rf ++ (Rn ++ Rt4)))) (by repeat (first | exact List.Sublist.refl _ | apply List.Sublist.cons))).perm ?_
    refine List.Perm.cons _ ?_
    rw [← List.append_assoc Rf Rn Rt4, ← List.append_assoc Rl (Rf ++ Rn) Rt4]
    show (Rt4 ++ (Rl ++ (Rf ++ Rn))).Perm _
    exact List.perm_append_comm

set_option maxRecDepth 100000 in
set_option maxHeartbeats 4000000 in
theorem rstep_12_yes (p : Pg) (is : Nat → Ins) (ins : Sl) (r0 : Rn) (s : Rs) (k : Nat) (t : Nat) (a : Nat) (kk : Nat) (f : Nat) (ib : Int) (goto : Int) (w : World) (hr : RunIs w r0 s) (hfit : Fits s) (hend : s.ending = 0) (hk : s.at' = k) (hkn : k < p.n) (hk6 : p.n ≤ 60) (hc : CodeAt w p is) (hv : 0 < s.vars.length) (hi : is k = ⟨12, (t : Int), (a : Int), ib, (f : Int), goto⟩) (ht : t < s.vars.length) (ha : a < s.vars.length) (hva : (Vl.mk 3 (kk : Int)) = s.val a) (hkk : kk < s.things.length) (hf : f < (s.thing kk).2.length)  :
    Calls Tryd.prog 10 #[p.v, r0.v, ins.v] w fun e w' => Gives w (s.set t (s.field kk f)) e w' := by
  have HCOPY := Lib.hid (fun w' (hb : Below w.heap.size w w') => copyRun_any r0 s w' (hr.grow hb) hfit)
  obtain ⟨bc, oc, hpc, hcr⟩ := hc
  have hpc2 := hpc (by omega)
  have hI1 := ReadsAt.agg (P := Tryd.prog) tInstr (hcr k hkn).1 (fun j v hj => (hcr k hkn).2 j v hj) rfl
  have hI2 := ReadsAt.cell (P := Tryd.prog) tInt (hcr k hkn).1 ((hcr k hkn).2 0 _ rfl)
  rw [hi] at hI1 hI2
  have HI1 := Lib.hid (show ReadsAt Tryd.prog 54 w bc (oc + k * 6) (Ins.v ⟨12, (t : Int), (a : Int), ib, (f : Int), goto⟩) from hI1)
  have HI2 := Lib.hid (show ReadsAt Tryd.prog 3 w bc (oc + k * 6) (.int .i64 12) by have := hI2; rw [Nat.add_zero] at this; exact this)
  have HAV := Lib.hid hva
  clear hva
  have HK := Lib.hid hk
  have HE := Lib.hid hend
  have hkm : k ≤ 60 := by omega
  have HTL := Lib.hid ht
  have HAL := Lib.hid ha
  have HF3 := Lib.hid (And.intro hkk (show f < (s.things.getD kk dT).2.length from hf))
  have HVL := Lib.hid hv
  clear hr hfit hend hk hpc hcr hI1 hI2 hi hv ht ha hkk hf
  obtain ⟨pv, pf, pc, pn, pcap⟩ := p
  dsimp only at hpc2 hkn hk6
  subst hpc2
  have hne : ((k : Int) == (pn : Int)) = false := by simp; omega
  have hL := Loc.start w
  go_enter Tryd.func10, Tryd.ntmps10
  go_upto_region 2 with (first | (with_reducible refine lld hL ?_) | ((with_reducible first | refine lbx hL ?_ | refine lal hL ?_ | refine lbs hL ?_); clear hL; intro bl w1 hL) | ((with_reducible refine lst' hL ?_); clear hL; intro w1 hL) | (go_at_call 23; refine (HCOPY.out _ hL.below).mono ?_; rintro e w3 ⟨r, ts, Rv, Rt, Rl, Rf, rfl, hR, ho, hb⟩; replace hL := hL.gainTail hb ho; simp only [List.cons_append, List.nil_append] at hL; clear ho hb; dsimp only))
  clear HCOPY
  have hvn := hR.vars.flatlen lenV (by decide)
  obtain ⟨gv, cs, hpv, rfl, htk, hlen⟩ := hR.vars.block (by have := HVL.out; omega)
  simp only [List.cons_append, List.nil_append] at hL
  have HA := Lib.hid (show Reads Tryd.prog 56 cs (a * 2) ((Vl.mk 3 (kk : Int))).v by rw [HAV.out]; exact Reads.agg tValue (hR.vars.elem lenV dV (k := a) (by have := HAL.out; omega)) rfl)
  have ha1 : a < r.vars.n := by have := HAL.out; omega
  have HPutV := Lib.hid (fun v => hR.vars.put lenV dV (k := t) (by have := HTL.out; omega) v)
  have ht1 : t < r.vars.n := by have := HTL.out; omega
  have HLenT := Lib.hid (show t * 2 + 2 ≤ cs.length by have := hR.vars.fits; rw [hlen]; omega)
  have htn := hR.things.flatlen lenT (by decide)
  have hfl := hR.fields.len
  have hkk := HF3.out.1
  have hf := HF3.out.2
  obtain ⟨gt, cst, hpt, rfl, htk2, hlen2⟩ := hR.things.block (by omega)
  have hcell := hR.cell (kk := kk) (by omega)
  obtain ⟨Ra, R, Rb, rfl, hsite, hrow, hback⟩ := hR.fields.get dTh kk (by omega)
  have hfn := hrow.flatlen lenV (by decide)
  obtain ⟨gf, csf, hpf, rfl, htk3, hlen3⟩ := hrow.block (by omega)
  simp only [List.cons_append, List.nil_append] at hL
  replace hL := hL.perm (((((((perm_mid (gf, 56, csf) Rl Ra Rb).cons (gt, 62, cst)).cons (gv, 56, cs)).cons _).cons _).cons _))
  obtain ⟨vf, hvf⟩ : ∃ x, x = s.field kk f := ⟨_, rfl⟩
  have HFE := Lib.hid (show Reads Tryd.prog 56 csf (f * 2) vf.v by rw [hvf]; exact Reads.agg tValue (hrow.elem lenV dV (k := f) (by omega)) rfl)
  have HVF := Lib.hid hvf
  rw [hpf] at hcell
  have hf1 : f < (ts.getD kk dTh).fs.n := by omega
  have HPut := Lib.hid (fun v => hrow.put lenV dV (k := f) hf1 v)
  have HBack := Lib.hid hback
  have HSite := Lib.hid hsite
  have hk1 : kk < r.things.n := by omega
  have HLen3 := Lib.hid (show f * 2 + 2 ≤ csf.length by have := hrow.fits; rw [hlen3]; omega)
  obtain ⟨fn, hfn2⟩ : ∃ x, x = (ts.getD kk dTh).fs.n := ⟨_, rfl⟩
  obtain ⟨fc, hfc2⟩ : ∃ x, x = (ts.getD kk dTh).fs.cap := ⟨_, rfl⟩
  rw [← hfn2, ← hfc2] at hcell
  rw [← hfn2] at hf1
  have HTH := Lib.hid hcell
  clear hcell hback hsite hrow hfn htk2 htk3 hlen2 hlen3 hfl htn hpf hfn2 hfc2 hvf hkk hf
  have hra : r.at' = (k : Int) := hR.a.trans HK.out
  have hre : r.ending = 0 := hR.e.trans HE.out
  have HR := Lib.hid hR
  clear hR hvn htk hlen
  obtain ⟨ra, ⟨vp, vn, vc⟩, ⟨tp, tn, tc⟩, rk, rl, re⟩ := r
  dsimp only at hpv hra hre ha1 ht1 hpt hk1
  subst hpv
  subst hra
  subst hre
  subst hpt
  go_upto_region 7 with (first | (with_reducible refine lld hL ?_) | ((with_reducible first | refine lbx hL ?_ | refine lal hL ?_ | refine lbs hL ?_); clear hL; intro bl w1 hL) | ((with_reducible refine lst' hL ?_); clear hL; intro w1 hL) | (go_at_call 24; refine (rNamesA_any _ _).mono ?_; rintro e w1 ⟨rfl, hb⟩; replace hL := hL.grow hb; clear hb; dsimp only) | (go_at_call 25; refine (rNamesB_any _ _).mono ?_; rintro e w1 ⟨rfl, hb⟩; replace hL := hL.grow hb; clear hb; dsimp only) | (go_at_call 30; refine (rNamesTo_any _ _).mono ?_; rintro e w1 ⟨rfl, hb⟩; replace hL := hL.grow hb; clear hb; dsimp only) | (go_at_call 20; refine (between_any _ _ _ _).mono ?_; rintro e w' ⟨rfl, rfl⟩; dsimp only) | ((with_reducible refine' loc_loadB HI2.out hL ?_ ?_ ?_); (case refine'_1 => exact cWant); (case refine'_2 => rfl)))
  clear HI2
  go_upto_region 8 with (first | (with_reducible refine lld hL ?_) | ((with_reducible first | refine lbx hL ?_ | refine lal hL ?_ | refine lbs hL ?_); clear hL; intro bl w1 hL) | ((with_reducible refine lst' hL ?_); clear hL; intro w1 hL) | (go_at_call 24; refine (rNamesA_any _ _).mono ?_; rintro e w1 ⟨rfl, hb⟩; replace hL := hL.grow hb; clear hb; dsimp only) | (go_at_call 25; refine (rNamesB_any _ _).mono ?_; rintro e w1 ⟨rfl, hb⟩; replace hL := hL.grow hb; clear hb; dsimp only) | (go_at_call 30; refine (rNamesTo_any _ _).mono ?_; rintro e w1 ⟨rfl, hb⟩; replace hL := hL.grow hb; clear hb; dsimp only) | (go_at_call 20; refine (between_any _ _ _ _).mono ?_; rintro e w' ⟨rfl, rfl⟩; dsimp only) | ((with_reducible refine' loc_loadB HI1.out hL ?_ ?_ ?_); (case refine'_1 => exact cWant); (case refine'_2 => rfl)))
  clear HI1
  have hna : nA 12 = true := by decide
  have hnb : nB 12 = false := by decide
  have hnt : nTo 12 = true := by decide
  have hbt : betw 12 5 8 = false := by decide
  go_upto_region 13 with (first | (with_reducible refine lld hL ?_) | ((with_reducible first | refine lbx hL ?_ | refine lal hL ?_ | refine lbs hL ?_); clear hL; intro bl w1 hL) | ((with_reducible refine lst' hL ?_); clear hL; intro w1 hL) | (go_at_call 24; refine (rNamesA_any _ _).mono ?_; rintro e w1 ⟨rfl, hb⟩; replace hL := hL.grow hb; clear hb; dsimp only) | (go_at_call 25; refine (rNamesB_any _ _).mono ?_; rintro e w1 ⟨rfl, hb⟩; replace hL := hL.grow hb; clear hb; dsimp only) | (go_at_call 30; refine (rNamesTo_any _ _).mono ?_; rintro e w1 ⟨rfl, hb⟩; replace hL := hL.grow hb; clear hb; dsimp only) | (go_at_call 20; refine (between_any _ _ _ _).mono ?_; rintro e w' ⟨rfl, rfl⟩; dsimp only) | ((with_reducible refine' loc_load (cs := cs) (off := a * 2) hL ?_ ?_ ?_ HA.out ?_); (case refine'_4 => exact cWant); (case refine'_5 => rfl); (case refine'_6 => repeat (first | exact InL.head | apply InL.tail))))
  clear HA
  go_upto_region 47 with (first | (with_reducible refine lld hL ?_) | ((with_reducible first | refine lbx hL ?_ | refine lal hL ?_ | refine lbs hL ?_); clear hL; intro bl w1 hL) | ((with_reducible refine lst' hL ?_); clear hL; intro w1 hL) | (go_at_call 24; refine (rNamesA_any _ _).mono ?_; rintro e w1 ⟨rfl, hb⟩; replace hL := hL.grow hb; clear hb; dsimp only) | (go_at_call 25; refine (rNamesB_any _ _).mono ?_; rintro e w1 ⟨rfl, hb⟩; replace hL := hL.grow hb; clear hb; dsimp only) | (go_at_call 30; refine (rNamesTo_any _ _).mono ?_; rintro e w1 ⟨rfl, hb⟩; replace hL := hL.grow hb; clear hb; dsimp only) | (go_at_call 20; refine (between_any _ _ _ _).mono ?_; rintro e w' ⟨rfl, rfl⟩; dsimp only))
  clear HF3 HPut HBack HSite HLen3
  refine draw_begin [208, 209, 210, 211, 212, 213, 214, 215, 216, 217, 218] ?_
  apply draw_val
  · intro g w hb hdep; replace hL := hL.grow hb; clear hdep; simp only [fillD, fLa, fLb, sTa, sTb]
    go_wp2
    exact cY
  simp only [apN, apC]
  apply draw_val
  · intro g w hb hdep; replace hL := hL.grow hb; have d0 := yv hdep 0; clear hdep; simp only [fillD, fLa, fLb, sTa, sTb]; simp only [d0]
    go_wp2_with (first | (with_reducible refine lld hL ?_) | (with_reducible refine ldD hL ?_))
    exact cY
  simp only [apN, apC]
  apply draw_val
  · intro g w hb hdep; replace hL := hL.grow hb; clear hdep; simp only [fillD, fLa, fLb, sTa, sTb]
    go_wp2
    exact cY
  simp only [apN, apC]
  apply draw_val
  · intro g w hb hdep; replace hL := hL.grow hb; have d2 := yv hdep 2; clear hdep; simp only [fillD, fLa, fLb, sTa, sTb]; simp only [d2]
    go_wp2_with (first | (with_reducible refine lld hL ?_) | (with_reducible refine ldD hL ?_))
    exact cY
  simp only [apN, apC]
  apply draw_val
  · intro g w hb hdep; replace hL := hL.grow hb; have d1 := yv hdep 1; have d3 := yv hdep 3; clear hdep; simp only [fillD, fLa, fLb, sTa, sTb]; simp only [d1, d3]
    go_wp2
    exact cY
  simp only [apN, apC]
  apply draw_val
  · intro g w hb hdep; replace hL := hL.grow hb; have d4 := yv hdep 4; clear hdep; simp only [fillD, fLa, fLb, sTa, sTb]; simp only [d4]
    go_wp2
    exact cY
  simp only [apN, apC]
  apply draw_val
  · intro g w hb hdep; replace hL := hL.grow hb; have d5 := yv hdep 5; clear hdep; simp only [fillD, fLa, fLb, sTa, sTb]; simp only [d5]
    refine loc_load (cs := cst) (off := kk * 2 + 1) hL rfl rfl (by repeat (first | exact InL.head | apply InL.tail)) HTH.out ?_
    exact cY
  simp only [apN, apC]
  apply draw_val
  · intro g w hb hdep; replace hL := hL.grow hb; clear hdep; simp only [fillD, fLa, fLb, sTa, sTb]
    go_wp2
    exact cY
  simp only [apN, apC]
  apply draw_val
  · intro g w hb hdep; replace hL := hL.grow hb; have d7 := yv hdep 7; clear hdep; simp only [fillD, fLa, fLb, sTa, sTb]; simp only [d7]
    go_wp2_with (first | (with_reducible refine lld hL ?_) | (with_reducible refine ldD hL ?_))
    exact cY
  simp only [apN, apC]
  apply draw_val
  · intro g w hb hdep; replace hL := hL.grow hb; have d6 := yv hdep 6; have d8 := yv hdep 8; clear hdep; simp only [fillD, fLa, fLb, sTa, sTb]; simp only [d6, d8]
    go_wp2
    exact cY
  simp only [apN, apC]
  apply draw_val
  · intro g w hb hdep; replace hL := hL.grow hb; have d9 := yv hdep 9; clear hdep; simp only [fillD, fLa, fLb, sTa, sTb]; simp only [d9]
    refine loc_load (cs := csf) (off := f * 2) hL rfl rfl (by repeat (first | exact InL.head | apply InL.tail)) HFE.out ?_
    exact cY
  simp only [apN, apC]
  refine draw_end hL (by kernel_rfl) (by kernel_rfl) ?_
  intro g w2 hb hR; simp only [List.length_cons, List.length_nil, Nat.reduceAdd] at hR
  have e0 := yv hR 0
  have e1 := yv hR 1
  have e2 := yv hR 2
  have e3 := yv hR 3
  have e4 := yv hR 4
  have e5 := yv hR 5
  have e6 := yv hR 6
  have e7 := yv hR 7
  have e8 := yv hR 8
  have e9 := yv hR 9
  have e10 := yv hR 10
  clear hR; simp only [fillD, fLa, fLb, sTa, sTb]
  simp only [e0, e1, e2, e3, e4, e5, e6, e7, e8, e9, e10]
  clear e0 e1 e2 e3 e4 e5 e6 e7 e8 e9 e10
  replace hL := hL.grow hb
  clear hb
  clear HTH HFE
  go_upto_region 62 with (first | (with_reducible refine lld hL ?_) | ((with_reducible first | refine lbx hL ?_ | refine lal hL ?_ | refine lbs hL ?_); clear hL; intro bl w1 hL) | ((with_reducible refine lst' hL ?_); clear hL; intro w1 hL) | (go_at_call 24; refine (rNamesA_any _ _).mono ?_; rintro e w1 ⟨rfl, hb⟩; replace hL := hL.grow hb; clear hb; dsimp only) | (go_at_call 25; refine (rNamesB_any _ _).mono ?_; rintro e w1 ⟨rfl, hb⟩; replace hL := hL.grow hb; clear hb; dsimp only) | (go_at_call 30; refine (rNamesTo_any _ _).mono ?_; rintro e w1 ⟨rfl, hb⟩; replace hL := hL.grow hb; clear hb; dsimp only) | (go_at_call 20; refine (between_any _ _ _ _).mono ?_; rintro e w' ⟨rfl, rfl⟩; dsimp only))
  go_upto_region 63 with (first | (with_reducible refine lld hL ?_) | ((with_reducible refine' loc_store (b := gv) (off := t * 2) (vs := vf.cells) (cs := cs) (cs' := spliced cs (t * 2) vf.cells) hL ?_ ?_ ?_ ?_ ?_ ?_ ?_ ?_ ?_); (case refine'_3 => exact cWant); (case refine'_4 => rfl); (case refine'_5 => repeat (first | exact InL.head | apply InL.tail)); (case refine'_6 => rfl); (case refine'_7 => exact tValue.sz); (case refine'_8 => rfl); (case refine'_9 => exact HLenT.out); (case refine'_10 => rfl); clear hL; intro w' hL))
  go_wp2_with (first | (with_reducible refine lld hL ?_) | ((with_reducible first | refine lbx hL ?_ | refine lal hL ?_ | refine lbs hL ?_); clear hL; intro bl w1 hL) | ((with_reducible refine lst' hL ?_); clear hL; intro w1 hL) | (go_at_call 24; refine (rNamesA_any _ _).mono ?_; rintro e w1 ⟨rfl, hb⟩; replace hL := hL.grow hb; clear hb; dsimp only) | (go_at_call 25; refine (rNamesB_any _ _).mono ?_; rintro e w1 ⟨rfl, hb⟩; replace hL := hL.grow hb; clear hb; dsimp only) | (go_at_call 30; refine (rNamesTo_any _ _).mono ?_; rintro e w1 ⟨rfl, hb⟩; replace hL := hL.grow hb; clear hb; dsimp only) | (go_at_call 20; refine (between_any _ _ _ _).mono ?_; rintro e w' ⟨rfl, rfl⟩; dsimp only))
  (try simp only [Exit.inBlock, Exit.then]); refine' ret1 rfl ?_ rfl ?_; (case refine'_2 => exact cRes)
  obtain ⟨h1, h2, h3, h4, h5, h6, h7⟩ := HR.out
  have hv := HPutV.out vf
  rw [HVF.out] at hv
  refine ⟨⟨(k : Int) + 1, ⟨some ⟨gv, 0, none⟩, vn, vc⟩, ⟨some ⟨gt, 0, none⟩, tn, tc⟩, rk, rl, 0⟩, ts, _, _, Rl, _, rfl, ⟨hv, h2, h3, h4, by show (k : Int) + 1 = s.at' + 1; rw [HK.out], h6, HE.out.symm⟩, ?_, hL.below⟩
  rw [← HVF.out]
  refine (hL.ownOf (R := (gv, _, _) :: (gt, _, _) :: (gf, _, _) :: (Rl ++ (Ra ++ Rb))) (by repeat (first | exact List.Sublist.refl _ | apply List.Sublist.cons))).perm ?_
  exact (((perm_mid _ Rl Ra Rb).symm.cons _).cons _)
end Go.Proofs.YtkdbehgekeidoaaDoor
