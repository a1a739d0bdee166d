/- The walks over the reference's StepOf, kind by kind: fields that are put, inputs. Conditions: what a right program and a right run have. -/
import Derived.Test.YtkdbehgekeidoaaDoorRefStepA
set_option linter.unusedSimpArgs false
set_option linter.unusedVariables false
namespace Go.Proofs.YtkdbehgekeidoaaDoor
open Go.RowKit

set_option maxRecDepth 100000 in
set_option maxHeartbeats 4000000 in
theorem rstep_13_yes (p : Pg) (is : Nat → Ins) (ins : Sl) (r0 : Rn) (s : Rs) (k : Nat) (a : Nat) (b : Nat) (kk : Nat) (f : Nat) (to : Int) (vb : Vl) (goto : Int) (w : World) (hr : RunIs w r0 s) (hfit : Fits s) (hend : s.ending = 0) (hk : s.at' = k) (hkn : k < p.n) (hk6 : p.n ≤ 60) (hc : CodeAt w p is) (hv : 0 < s.vars.length) (hi : is k = ⟨13, to, (a : Int), (b : Int), (f : Int), goto⟩) (ha : a < s.vars.length) (hb : b < s.vars.length) (hva : (Vl.mk 3 (kk : Int)) = s.val a) (hvb : vb = s.val b) (hkk : kk < s.things.length) (hf : f < (s.thing kk).2.length)  :
    Calls Tryd.prog 10 #[p.v, r0.v, ins.v] w fun e w' => Gives w (putS kk f vb s) e w' := by
  have HCOPY := Lib.hid (fun w' (hb : Below w.heap.size w w') => copyRun_any r0 s w' (hr.grow hb) hfit)
  obtain ⟨bc, oc, hpc, hcr⟩ := hc
  have hpc2 := hpc (by omega)
  have hI1 := ReadsAt.agg (P := Tryd.prog) tInstr (hcr k hkn).1 (fun j v hj => (hcr k hkn).2 j v hj) rfl
  have hI2 := ReadsAt.cell (P := Tryd.prog) tInt (hcr k hkn).1 ((hcr k hkn).2 0 _ rfl)
  rw [hi] at hI1 hI2
  have HI1 := Lib.hid (show ReadsAt Tryd.prog 54 w bc (oc + k * 6) (Ins.v ⟨13, to, (a : Int), (b : Int), (f : Int), goto⟩) from hI1)
  have HI2 := Lib.hid (show ReadsAt Tryd.prog 3 w bc (oc + k * 6) (.int .i64 13) by have := hI2; rw [Nat.add_zero] at this; exact this)
  have HAV := Lib.hid hva
  clear hva
  have HBV := Lib.hid hvb
  clear hvb
  have HK := Lib.hid hk
  have HE := Lib.hid hend
  have hkm : k ≤ 60 := by omega
  have HAL := Lib.hid ha
  have HBL := Lib.hid hb
  have HF3 := Lib.hid (And.intro hkk (show f < (s.things.getD kk dT).2.length from hf))
  have HVL := Lib.hid hv
  clear hr hfit hend hk hpc hcr hI1 hI2 hi hv ha hb hkk hf
  obtain ⟨pv, pf, pc, pn, pcap⟩ := p
  dsimp only at hpc2 hkn hk6
  subst hpc2
  have hne : ((k : Int) == (pn : Int)) = false := by simp; omega
  have hL := Loc.start w
  go_enter Tryd.func10, Tryd.ntmps10
  go_upto_region 2 with (first | (with_reducible refine lld hL ?_) | ((with_reducible first | refine lbx hL ?_ | refine lal hL ?_ | refine lbs hL ?_); clear hL; intro bl w1 hL) | ((with_reducible refine lst' hL ?_); clear hL; intro w1 hL) | (go_at_call 23; refine (HCOPY.out _ hL.below).mono ?_; rintro e w3 ⟨r, ts, Rv, Rt, Rl, Rf, rfl, hR, ho, hb⟩; replace hL := hL.gainTail hb ho; simp only [List.cons_append, List.nil_append] at hL; clear ho hb; dsimp only))
  clear HCOPY
  have hvn := hR.vars.flatlen lenV (by decide)
  obtain ⟨gv, cs, hpv, rfl, htk, hlen⟩ := hR.vars.block (by have := HVL.out; omega)
  simp only [List.cons_append, List.nil_append] at hL
  have HA := Lib.hid (show Reads Tryd.prog 56 cs (a * 2) ((Vl.mk 3 (kk : Int))).v by rw [HAV.out]; exact Reads.agg tValue (hR.vars.elem lenV dV (k := a) (by have := HAL.out; omega)) rfl)
  have ha1 : a < r.vars.n := by have := HAL.out; omega
  have HB := Lib.hid (show Reads Tryd.prog 56 cs (b * 2) (vb).v by rw [HBV.out]; exact Reads.agg tValue (hR.vars.elem lenV dV (k := b) (by have := HBL.out; omega)) rfl)
  have hb1 : b < r.vars.n := by have := HBL.out; omega
  have htn := hR.things.flatlen lenT (by decide)
  have hfl := hR.fields.len
  have hkk := HF3.out.1
  have hf := HF3.out.2
  obtain ⟨gt, cst, hpt, rfl, htk2, hlen2⟩ := hR.things.block (by omega)
  have hcell := hR.cell (kk := kk) (by omega)
  obtain ⟨Ra, R, Rb, rfl, hsite, hrow, hback⟩ := hR.fields.get dTh kk (by omega)
  have hfn := hrow.flatlen lenV (by decide)
  obtain ⟨gf, csf, hpf, rfl, htk3, hlen3⟩ := hrow.block (by omega)
  simp only [List.cons_append, List.nil_append] at hL
  replace hL := hL.perm (((((((perm_mid (gf, 56, csf) Rl Ra Rb).cons (gt, 62, cst)).cons (gv, 56, cs)).cons _).cons _).cons _))
  obtain ⟨vf, hvf⟩ : ∃ x, x = s.field kk f := ⟨_, rfl⟩
  have HFE := Lib.hid (show Reads Tryd.prog 56 csf (f * 2) vf.v by rw [hvf]; exact Reads.agg tValue (hrow.elem lenV dV (k := f) (by omega)) rfl)
  have HVF := Lib.hid hvf
  rw [hpf] at hcell
  have hf1 : f < (ts.getD kk dTh).fs.n := by omega
  have HPut := Lib.hid (fun v => hrow.put lenV dV (k := f) hf1 v)
  have HBack := Lib.hid hback
  have HSite := Lib.hid hsite
  have hk1 : kk < r.things.n := by omega
  have HLen3 := Lib.hid (show f * 2 + 2 ≤ csf.length by have := hrow.fits; rw [hlen3]; omega)
  obtain ⟨fn, hfn2⟩ : ∃ x, x = (ts.getD kk dTh).fs.n := ⟨_, rfl⟩
  obtain ⟨fc, hfc2⟩ : ∃ x, x = (ts.getD kk dTh).fs.cap := ⟨_, rfl⟩
  rw [← hfn2, ← hfc2] at hcell
  rw [← hfn2] at hf1
  have HTH := Lib.hid hcell
  clear hcell hback hsite hrow hfn htk2 htk3 hlen2 hlen3 hfl htn hpf hfn2 hfc2 hvf hkk hf
  have hra : r.at' = (k : Int) := hR.a.trans HK.out
  have hre : r.ending = 0 := hR.e.trans HE.out
  have HR := Lib.hid hR
  clear hR hvn htk hlen
  obtain ⟨ra, ⟨vp, vn, vc⟩, ⟨tp, tn, tc⟩, rk, rl, re⟩ := r
  dsimp only at hpv hra hre ha1 hb1 hpt hk1
  subst hpv
  subst hra
  subst hre
  subst hpt
  go_upto_region 7 with (first | (with_reducible refine lld hL ?_) | ((with_reducible first | refine lbx hL ?_ | refine lal hL ?_ | refine lbs hL ?_); clear hL; intro bl w1 hL) | ((with_reducible refine lst' hL ?_); clear hL; intro w1 hL) | (go_at_call 24; refine (rNamesA_any _ _).mono ?_; rintro e w1 ⟨rfl, hb⟩; replace hL := hL.grow hb; clear hb; dsimp only) | (go_at_call 25; refine (rNamesB_any _ _).mono ?_; rintro e w1 ⟨rfl, hb⟩; replace hL := hL.grow hb; clear hb; dsimp only) | (go_at_call 30; refine (rNamesTo_any _ _).mono ?_; rintro e w1 ⟨rfl, hb⟩; replace hL := hL.grow hb; clear hb; dsimp only) | (go_at_call 20; refine (between_any _ _ _ _).mono ?_; rintro e w' ⟨rfl, rfl⟩; dsimp only) | ((with_reducible refine' loc_loadB HI2.out hL ?_ ?_ ?_); (case refine'_1 => exact cWant); (case refine'_2 => rfl)))
  clear HI2
  go_upto_region 8 with (first | (with_reducible refine lld hL ?_) | ((with_reducible first | refine lbx hL ?_ | refine lal hL ?_ | refine lbs hL ?_); clear hL; intro bl w1 hL) | ((with_reducible refine lst' hL ?_); clear hL; intro w1 hL) | (go_at_call 24; refine (rNamesA_any _ _).mono ?_; rintro e w1 ⟨rfl, hb⟩; replace hL := hL.grow hb; clear hb; dsimp only) | (go_at_call 25; refine (rNamesB_any _ _).mono ?_; rintro e w1 ⟨rfl, hb⟩; replace hL := hL.grow hb; clear hb; dsimp only) | (go_at_call 30; refine (rNamesTo_any _ _).mono ?_; rintro e w1 ⟨rfl, hb⟩; replace hL := hL.grow hb; clear hb; dsimp only) | (go_at_call 20; refine (between_any _ _ _ _).mono ?_; rintro e w' ⟨rfl, rfl⟩; dsimp only) | ((with_reducible refine' loc_loadB HI1.out hL ?_ ?_ ?_); (case refine'_1 => exact cWant); (case refine'_2 => rfl)))
  clear HI1
  have hna : nA 13 = true := by decide
  have hnb : nB 13 = true := by decide
  have hnt : nTo 13 = false := by decide
  have hbt : betw 13 5 8 = false := by decide
  go_upto_region 13 with (first | (with_reducible refine lld hL ?_) | ((with_reducible first | refine lbx hL ?_ | refine lal hL ?_ | refine lbs hL ?_); clear hL; intro bl w1 hL) | ((with_reducible refine lst' hL ?_); clear hL; intro w1 hL) | (go_at_call 24; refine (rNamesA_any _ _).mono ?_; rintro e w1 ⟨rfl, hb⟩; replace hL := hL.grow hb; clear hb; dsimp only) | (go_at_call 25; refine (rNamesB_any _ _).mono ?_; rintro e w1 ⟨rfl, hb⟩; replace hL := hL.grow hb; clear hb; dsimp only) | (go_at_call 30; refine (rNamesTo_any _ _).mono ?_; rintro e w1 ⟨rfl, hb⟩; replace hL := hL.grow hb; clear hb; dsimp only) | (go_at_call 20; refine (between_any _ _ _ _).mono ?_; rintro e w' ⟨rfl, rfl⟩; dsimp only) | ((with_reducible refine' loc_load (cs := cs) (off := a * 2) hL ?_ ?_ ?_ HA.out ?_); (case refine'_4 => exact cWant); (case refine'_5 => rfl); (case refine'_6 => repeat (first | exact InL.head | apply InL.tail))) | ((with_reducible refine' loc_load (cs := cs) (off := b * 2) hL ?_ ?_ ?_ HB.out ?_); (case refine'_4 => exact cWant); (case refine'_5 => rfl); (case refine'_6 => repeat (first | exact InL.head | apply InL.tail))))
  clear HA HB
  go_upto_region 49 with (first | (with_reducible refine lld hL ?_) | ((with_reducible first | refine lbx hL ?_ | refine lal hL ?_ | refine lbs hL ?_); clear hL; intro bl w1 hL) | ((with_reducible refine lst' hL ?_); clear hL; intro w1 hL) | (go_at_call 24; refine (rNamesA_any _ _).mono ?_; rintro e w1 ⟨rfl, hb⟩; replace hL := hL.grow hb; clear hb; dsimp only) | (go_at_call 25; refine (rNamesB_any _ _).mono ?_; rintro e w1 ⟨rfl, hb⟩; replace hL := hL.grow hb; clear hb; dsimp only) | (go_at_call 30; refine (rNamesTo_any _ _).mono ?_; rintro e w1 ⟨rfl, hb⟩; replace hL := hL.grow hb; clear hb; dsimp only) | (go_at_call 20; refine (between_any _ _ _ _).mono ?_; rintro e w' ⟨rfl, rfl⟩; dsimp only))
  refine draw_begin [221, 222, 223, 224, 225, 226, 227, 228, 229, 230, 231] ?_
  apply draw_val
  · intro g w hb hdep; replace hL := hL.grow hb; clear hdep; simp only [fillD, fLa, fLb, sTa, sTb]
    go_wp2
    exact cY
  simp only [apN, apC]
  apply draw_val
  · intro g w hb hdep; replace hL := hL.grow hb; have d0 := yv hdep 0; clear hdep; simp only [fillD, fLa, fLb, sTa, sTb]; simp only [d0]
    go_wp2_with (first | (with_reducible refine lld hL ?_) | (with_reducible refine ldD hL ?_))
    exact cY
  simp only [apN, apC]
  apply draw_val
  · intro g w hb hdep; replace hL := hL.grow hb; clear hdep; simp only [fillD, fLa, fLb, sTa, sTb]
    go_wp2
    exact cY
  simp only [apN, apC]
  apply draw_val
  · intro g w hb hdep; replace hL := hL.grow hb; have d2 := yv hdep 2; clear hdep; simp only [fillD, fLa, fLb, sTa, sTb]; simp only [d2]
    go_wp2_with (first | (with_reducible refine lld hL ?_) | (with_reducible refine ldD hL ?_))
    exact cY
  simp only [apN, apC]
  apply draw_val
  · intro g w hb hdep; replace hL := hL.grow hb; have d1 := yv hdep 1; have d3 := yv hdep 3; clear hdep; simp only [fillD, fLa, fLb, sTa, sTb]; simp only [d1, d3]
    go_wp2
    exact cY
  simp only [apN, apC]
  apply draw_val
  · intro g w hb hdep; replace hL := hL.grow hb; have d4 := yv hdep 4; clear hdep; simp only [fillD, fLa, fLb, sTa, sTb]; simp only [d4]
    go_wp2
    exact cY
  simp only [apN, apC]
  apply draw_val
  · intro g w hb hdep; replace hL := hL.grow hb; have d5 := yv hdep 5; clear hdep; simp only [fillD, fLa, fLb, sTa, sTb]; simp only [d5]
    refine loc_load (cs := cst) (off := kk * 2 + 1) hL rfl rfl (by repeat (first | exact InL.head | apply InL.tail)) HTH.out ?_
    exact cY
  simp only [apN, apC]
  apply draw_val
  · intro g w hb hdep; replace hL := hL.grow hb; clear hdep; simp only [fillD, fLa, fLb, sTa, sTb]
    go_wp2
    exact cY
  simp only [apN, apC]
  apply draw_val
  · intro g w hb hdep; replace hL := hL.grow hb; have d7 := yv hdep 7; clear hdep; simp only [fillD, fLa, fLb, sTa, sTb]; simp only [d7]
    go_wp2_with (first | (with_reducible refine lld hL ?_) | (with_reducible refine ldD hL ?_))
    exact cY
  simp only [apN, apC]
  apply draw_val
  · intro g w hb hdep; replace hL := hL.grow hb; clear hdep; simp only [fillD, fLa, fLb, sTa, sTb]
    go_wp2_with (first | (with_reducible refine lld hL ?_) | (with_reducible refine ldD hL ?_))
    exact cY
  simp only [apN, apC]
  apply draw_val
  · intro g w hb hdep; replace hL := hL.grow hb; have d6 := yv hdep 6; have d8 := yv hdep 8; clear hdep; simp only [fillD, fLa, fLb, sTa, sTb]; simp only [d6, d8]
    go_wp2
    exact cY
  simp only [apN, apC]
  refine draw_end hL (by kernel_rfl) (by kernel_rfl) ?_
  intro g w2 hb hR; simp only [List.length_cons, List.length_nil, Nat.reduceAdd] at hR
  have e0 := yv hR 0
  have e1 := yv hR 1
  have e2 := yv hR 2
  have e3 := yv hR 3
  have e4 := yv hR 4
  have e5 := yv hR 5
  have e6 := yv hR 6
  have e7 := yv hR 7
  have e8 := yv hR 8
  have e9 := yv hR 9
  have e10 := yv hR 10
  clear hR; simp only [fillD, fLa, fLb, sTa, sTb]
  simp only [e0, e1, e2, e3, e4, e5, e6, e7, e8, e9, e10]
  clear e0 e1 e2 e3 e4 e5 e6 e7 e8 e9 e10
  replace hL := hL.grow hb
  clear hb
  clear HTH HFE
  go_upto_region 61 with (first | ((with_reducible refine' loc_store (b := gf) (off := f * 2) (vs := vb.cells) (cs := csf) (cs' := spliced csf (f * 2) vb.cells) hL ?_ ?_ ?_ ?_ ?_ ?_ ?_ ?_ ?_); (case refine'_3 => exact cWant); (case refine'_4 => rfl); (case refine'_5 => repeat (first | exact InL.head | apply InL.tail)); (case refine'_6 => rfl); (case refine'_7 => exact tValue.sz); (case refine'_8 => rfl); (case refine'_9 => exact HLen3.out); (case refine'_10 => rfl); clear hL; intro w' hL))
  go_wp2_with (first | (with_reducible refine lld hL ?_) | ((with_reducible first | refine lbx hL ?_ | refine lal hL ?_ | refine lbs hL ?_); clear hL; intro bl w1 hL) | ((with_reducible refine lst' hL ?_); clear hL; intro w1 hL) | (go_at_call 24; refine (rNamesA_any _ _).mono ?_; rintro e w1 ⟨rfl, hb⟩; replace hL := hL.grow hb; clear hb; dsimp only) | (go_at_call 25; refine (rNamesB_any _ _).mono ?_; rintro e w1 ⟨rfl, hb⟩; replace hL := hL.grow hb; clear hb; dsimp only) | (go_at_call 30; refine (rNamesTo_any _ _).mono ?_; rintro e w1 ⟨rfl, hb⟩; replace hL := hL.grow hb; clear hb; dsimp only) | (go_at_call 20; refine (between_any _ _ _ _).mono ?_; rintro e w' ⟨rfl, rfl⟩; dsimp only))
  (try simp only [Exit.inBlock, Exit.then]); refine' ret1 rfl ?_ rfl ?_; (case refine'_2 => exact cRes)
  obtain ⟨h1, h2, h3, h4, h5, h6, h7⟩ := HR.out
  refine ⟨⟨(k : Int) + 1, ⟨some ⟨gv, 0, none⟩, vn, vc⟩, ⟨some ⟨gt, 0, none⟩, tn, tc⟩, rk, rl, 0⟩, ts, [(gv, 56, cs)], [(gt, 62, cst)], Rl, Ra ++ ([(gf, 56, spliced csf (f * 2) vb.cells)] ++ Rb), rfl, ⟨h1, h2, h3, ?_, by show (k : Int) + 1 = s.at' + 1; rw [HK.out], h6, HE.out.symm⟩, ?_, hL.below⟩
  · show FRows ts (s.things.set kk ((s.thing kk).1, (s.thing kk).2.set f vb)) _
    have := HBack.out _ _ (HPut.out vb)
    rw [← HSite.out] at this
    exact this
  · refine (hL.ownOf (R := (gv, _, _) :: (gt, _, _) :: (gf, _, _) :: (Rl ++ (Ra ++ Rb))) (by repeat (first | exact List.Sublist.refl _ | apply List.Sublist.cons))).perm ?_
    exact (((perm_mid _ Rl Ra Rb).symm.cons _).cons _)
end Go.Proofs.YtkdbehgekeidoaaDoor
