/- The walks over the reference's StepOf: print, the program's end, a run that has ended. Conditions: what a right program and a right run have. -/
import Derived.Test.YtkdbehgekeidoaaDoorRefStepA
import Derived.Test.YtkdbehgekeidoaaDoorRefDigits
set_option linter.unusedSimpArgs false
set_option linter.unusedVariables false
namespace Go.Proofs.YtkdbehgekeidoaaDoor
open Go.RowKit

set_option maxRecDepth 100000 in
set_option maxHeartbeats 4000000 in
theorem rstep_18 (p : Pg) (is : Nat → Ins) (ins : Sl) (r0 : Rn) (s : Rs) (k : Nat) (a : Nat) (to : Int) (ib : Int) (num : Int) (va : Vl) (goto : Int) (w : World) (hr : RunIs w r0 s) (hf : Fits s) (hend : s.ending = 0) (hk : s.at' = k) (hkn : k < p.n) (hk6 : p.n ≤ 60) (hc : CodeAt w p is) (hv : 0 < s.vars.length) (hi : is k = ⟨18, to, (a : Int), ib, num, goto⟩) (ha : a < s.vars.length) (hva : va = s.val a) (hq : s.lines.length * 16 + 16 ≤ 140737488355328 ∧ (va.kind = 1 → -2147483648 ≤ va.n ∧ va.n ≤ 2147483647) ∧ (0 ≤ va.kind ∧ va.kind ≤ 3)) :
    Calls Tryd.prog 10 #[p.v, r0.v, ins.v] w fun e w' => Gives w ({ s with lines := s.lines ++ [lineV va], at' := s.at' + 1 }) e w' := by
  have HCOPY := Lib.hid (fun w' (hb : Below w.heap.size w w') => copyRun_any r0 s w' (hr.grow hb) hf)
  obtain ⟨bc, oc, hpc, hcr⟩ := hc
  have hpc2 := hpc (by omega)
  have hI1 := ReadsAt.agg (P := Tryd.prog) tInstr (hcr k hkn).1 (fun j v hj => (hcr k hkn).2 j v hj) rfl
  have hI2 := ReadsAt.cell (P := Tryd.prog) tInt (hcr k hkn).1 ((hcr k hkn).2 0 _ rfl)
  rw [hi] at hI1 hI2
  have HI1 := Lib.hid (show ReadsAt Tryd.prog 54 w bc (oc + k * 6) (Ins.v ⟨18, to, (a : Int), ib, num, goto⟩) from hI1)
  have HI2 := Lib.hid (show ReadsAt Tryd.prog 3 w bc (oc + k * 6) (.int .i64 18) by have := hI2; rw [Nat.add_zero] at this; exact this)
  have HQ := Lib.hid hq
  clear hq
  have HAV := Lib.hid hva
  clear hva
  have HK := Lib.hid hk
  have HE := Lib.hid hend
  have hkm : k ≤ 60 := by omega
  have HAL := Lib.hid ha
  have HFIT := Lib.hid hf
  have HVL := Lib.hid hv
  clear hr hf hend hk hpc hcr hI1 hI2 hi hv ha
  obtain ⟨pv, pf, pc, pn, pcap⟩ := p
  dsimp only at hpc2 hkn hk6
  subst hpc2
  have hne : ((k : Int) == (pn : Int)) = false := by simp; omega
  have hL := Loc.start w
  go_enter Tryd.func10, Tryd.ntmps10
  go_upto_region 2 with (first | (with_reducible refine lld hL ?_) | ((with_reducible first | refine lbx hL ?_ | refine lal hL ?_ | refine lbs hL ?_); clear hL; intro bl w1 hL) | ((with_reducible refine lst' hL ?_); clear hL; intro w1 hL) | (go_at_call 23; refine (HCOPY.out _ hL.below).mono ?_; rintro e w3 ⟨r, ts, Rv, Rt, Rl, Rf, rfl, hR, ho, hb⟩; replace hL := hL.gainTail hb ho; simp only [List.cons_append, List.nil_append] at hL; clear ho hb; dsimp only))
  clear HCOPY
  have hvn := hR.vars.flatlen lenV (by decide)
  obtain ⟨gv, cs, hpv, rfl, htk, hlen⟩ := hR.vars.block (by have := HVL.out; omega)
  simp only [List.cons_append, List.nil_append] at hL
  have HA := Lib.hid (show Reads Tryd.prog 56 cs (a * 2) (va).v by rw [HAV.out]; exact Reads.agg tValue (hR.vars.elem lenV dV (k := a) (by have := HAL.out; omega)) rfl)
  have ha1 : a < r.vars.n := by have := HAL.out; omega
  have hra : r.at' = (k : Int) := hR.a.trans HK.out
  have hre : r.ending = 0 := hR.e.trans HE.out
  have HR := Lib.hid hR
  clear hR hvn htk hlen
  obtain ⟨ra, ⟨vp, vn, vc⟩, rt, rk, rl, re⟩ := r
  dsimp only at hpv hra hre ha1
  subst hpv
  subst hra
  subst hre
  replace hL := hL.perm ((((((List.Perm.append_left Rt List.perm_append_comm : (Rt ++ (Rf ++ Rl)).Perm (Rt ++ (Rl ++ Rf))).cons (gv, 56, cs)).cons _).cons _).cons _))
  dsimp only at hL
  go_upto_region 7 with (first | (with_reducible refine lld hL ?_) | ((with_reducible first | refine lbx hL ?_ | refine lal hL ?_ | refine lbs hL ?_); clear hL; intro bl w1 hL) | ((with_reducible refine lst' hL ?_); clear hL; intro w1 hL) | (go_at_call 24; refine (rNamesA_any _ _).mono ?_; rintro e w1 ⟨rfl, hb⟩; replace hL := hL.grow hb; clear hb; dsimp only) | (go_at_call 25; refine (rNamesB_any _ _).mono ?_; rintro e w1 ⟨rfl, hb⟩; replace hL := hL.grow hb; clear hb; dsimp only) | (go_at_call 30; refine (rNamesTo_any _ _).mono ?_; rintro e w1 ⟨rfl, hb⟩; replace hL := hL.grow hb; clear hb; dsimp only) | (go_at_call 20; refine (between_any _ _ _ _).mono ?_; rintro e w' ⟨rfl, rfl⟩; dsimp only) | ((with_reducible refine' loc_loadB HI2.out hL ?_ ?_ ?_); (case refine'_1 => exact cWant); (case refine'_2 => rfl)))
  clear HI2
  go_upto_region 8 with (first | (with_reducible refine lld hL ?_) | ((with_reducible first | refine lbx hL ?_ | refine lal hL ?_ | refine lbs hL ?_); clear hL; intro bl w1 hL) | ((with_reducible refine lst' hL ?_); clear hL; intro w1 hL) | (go_at_call 24; refine (rNamesA_any _ _).mono ?_; rintro e w1 ⟨rfl, hb⟩; replace hL := hL.grow hb; clear hb; dsimp only) | (go_at_call 25; refine (rNamesB_any _ _).mono ?_; rintro e w1 ⟨rfl, hb⟩; replace hL := hL.grow hb; clear hb; dsimp only) | (go_at_call 30; refine (rNamesTo_any _ _).mono ?_; rintro e w1 ⟨rfl, hb⟩; replace hL := hL.grow hb; clear hb; dsimp only) | (go_at_call 20; refine (between_any _ _ _ _).mono ?_; rintro e w' ⟨rfl, rfl⟩; dsimp only) | ((with_reducible refine' loc_loadB HI1.out hL ?_ ?_ ?_); (case refine'_1 => exact cWant); (case refine'_2 => rfl)))
  clear HI1
  have hna : nA 18 = true := by decide
  have hnb : nB 18 = false := by decide
  have hnt : nTo 18 = false := by decide
  have hbt : betw 18 5 8 = false := by decide
  go_upto_region 13 with (first | (with_reducible refine lld hL ?_) | ((with_reducible first | refine lbx hL ?_ | refine lal hL ?_ | refine lbs hL ?_); clear hL; intro bl w1 hL) | ((with_reducible refine lst' hL ?_); clear hL; intro w1 hL) | (go_at_call 24; refine (rNamesA_any _ _).mono ?_; rintro e w1 ⟨rfl, hb⟩; replace hL := hL.grow hb; clear hb; dsimp only) | (go_at_call 25; refine (rNamesB_any _ _).mono ?_; rintro e w1 ⟨rfl, hb⟩; replace hL := hL.grow hb; clear hb; dsimp only) | (go_at_call 30; refine (rNamesTo_any _ _).mono ?_; rintro e w1 ⟨rfl, hb⟩; replace hL := hL.grow hb; clear hb; dsimp only) | (go_at_call 20; refine (between_any _ _ _ _).mono ?_; rintro e w' ⟨rfl, rfl⟩; dsimp only) | ((with_reducible refine' loc_load (cs := cs) (off := a * 2) hL ?_ ?_ ?_ HA.out ?_); (case refine'_4 => exact cWant); (case refine'_5 => rfl); (case refine'_6 => repeat (first | exact InL.head | apply InL.tail))))
  clear HA
  obtain ⟨⟨lp, ln, lc⟩, hrl⟩ : ∃ x, x = rl := ⟨_, rfl⟩
  subst hrl
  have hln := HR.out.lines.flatlen lenL (by decide)
  dsimp only at hln
  have hmx : maxLen = 9223372036854775807 := rfl
  have HLN := Lib.hid (And.intro (show ln * 16 + 16 ≤ 140737488355328 by have := HQ.out.1; omega) hmx)
  have HS := Lib.hid HQ.out.2
  clear hln hmx HQ
  dsimp only at hL
  go_upto_region 60 with (first | (with_reducible refine lld hL ?_) | ((with_reducible first | refine lbx hL ?_ | refine lal hL ?_ | refine lbs hL ?_); clear hL; intro bl w1 hL) | ((with_reducible refine lst' hL ?_); clear hL; intro w1 hL) | (go_at_call 24; refine (rNamesA_any _ _).mono ?_; rintro e w1 ⟨rfl, hb⟩; replace hL := hL.grow hb; clear hb; dsimp only) | (go_at_call 25; refine (rNamesB_any _ _).mono ?_; rintro e w1 ⟨rfl, hb⟩; replace hL := hL.grow hb; clear hb; dsimp only) | (go_at_call 30; refine (rNamesTo_any _ _).mono ?_; rintro e w1 ⟨rfl, hb⟩; replace hL := hL.grow hb; clear hb; dsimp only) | (go_at_call 20; refine (between_any _ _ _ _).mono ?_; rintro e w' ⟨rfl, rfl⟩; dsimp only))
  refine draw_begin [270, 271, 272, 273, 274] ?_
  apply draw_val
  · intro g w hb hdep; replace hL := hL.grow hb; clear hdep; simp only [fillD, fLa, fLb, sTa, sTb]
    go_wp2
    exact cY
  simp only [apN, apC]
  apply draw_val
  · intro g w hb hdep; replace hL := hL.grow hb; have d0 := yv hdep 0; clear hdep; simp only [fillD, fLa, fLb, sTa, sTb]; simp only [d0]
    go_wp2_with (first | (with_reducible refine lld hL ?_) | (with_reducible refine ldD hL ?_))
    exact cY
  simp only [apN, apC]
  apply draw_val
  · intro g w hb hdep; replace hL := hL.grow hb; clear hdep; simp only [fillD, fLa, fLb, sTa, sTb]
    go_wp2_with (first | (with_reducible refine lld hL ?_) | (with_reducible refine ldD hL ?_))
    exact cY
  simp only [apN, apC]
  apply draw_val
  · intro g w hb hdep; replace hL := hL.grow hb; have d2 := yv hdep 2; clear hdep; simp only [fillD, fLa, fLb, sTa, sTb]; simp only [d2]
    go_wp2_with (go_at_call 29; refine (rShow_any va _ HS.out.1 HS.out.2).mono ?_; rintro e w3 ⟨rfl, hb3⟩; dsimp only)
    exact ⟨rfl, _, rfl, hb3, rfl⟩
  simp only [apN, apC]
  apply draw_row
  · intro g w hb hdep; replace hL := hL.grow hb; have d3 := yv hdep 3; clear hdep; simp only [fillD, fLa, fLb, sTa, sTb]; simp only [d3]
    go_wp2
    exact ⟨rfl, _, rfl, (Below.refl _ _).alloc (Nat.le_refl _) _, _, hb.size, rfl, heap_new _ _⟩
  simp only [apN, apC]
  refine draw_end hL (by kernel_rfl) (by kernel_rfl) ?_
  intro g w2 hb hR; simp only [List.length_cons, List.length_nil, Nat.reduceAdd] at hR
  have e0 := yv hR 0
  have e1 := yv hR 1
  have e2 := yv hR 2
  have e3 := yv hR 3
  obtain ⟨b4, p4, e4, c4⟩ := rat_row (allR_get hR (j := 4) (by decide)) rfl rfl
  clear hR; simp only [fillD, fLa, fLb, sTa, sTb]
  simp only [e0, e1, e2, e3, e4]
  clear e0 e1 e2 e3 e4
  replace hL := hL.moreAll hb (Ds := [HeapAt b4 _ _]) (by
    intro S hS
    simp only [List.mem_cons, List.not_mem_nil, or_false] at hS
    rcases hS with rfl
    · exact HeapAt.fresh p4 c4)
  simp only [List.cons_append, List.nil_append] at hL
  clear p4 c4
  clear hb
  clear HS
  go_upto_region 61 with (first | (refine loc_appendS (K := _ :: _ :: _ :: _ :: _ :: _ :: _ :: (gv, _, _) :: (Rt ++ Rf)) (R := Rl) (news := [.string (lineV va)]) HR.out.lines hL (by simp only [List.cons_append, List.append_assoc]; rfl) rfl rfl sStrs bStr (by decide) rfl (fun _ => ⟨⟨b4, 0, none⟩, rfl, fun j u hj => by rw [add_addr, Nat.zero_add]; exact heap_cell (hL.get (S := HeapAt b4 _ _) List.mem_cons_self) j hj⟩) rfl (by simp [Value.oneCell']) (by have h1 := HLN.out.1; have h2 := HLN.out.2; omega) (by have h1 := HLN.out.1; omega) ?_; clear hL; intro p4 cap4 Rl4 w4 hS4 hL; simp only [List.cons_append, List.append_assoc] at hL) | (with_reducible refine lld hL ?_) | ((with_reducible first | refine lbx hL ?_ | refine lal hL ?_ | refine lbs hL ?_); clear hL; intro bl w1 hL) | ((with_reducible refine lst' hL ?_); clear hL; intro w1 hL))
  go_wp2_with (first | (with_reducible refine lld hL ?_) | ((with_reducible first | refine lbx hL ?_ | refine lal hL ?_ | refine lbs hL ?_); clear hL; intro bl w1 hL) | ((with_reducible refine lst' hL ?_); clear hL; intro w1 hL) | (go_at_call 24; refine (rNamesA_any _ _).mono ?_; rintro e w1 ⟨rfl, hb⟩; replace hL := hL.grow hb; clear hb; dsimp only) | (go_at_call 25; refine (rNamesB_any _ _).mono ?_; rintro e w1 ⟨rfl, hb⟩; replace hL := hL.grow hb; clear hb; dsimp only) | (go_at_call 30; refine (rNamesTo_any _ _).mono ?_; rintro e w1 ⟨rfl, hb⟩; replace hL := hL.grow hb; clear hb; dsimp only) | (go_at_call 20; refine (between_any _ _ _ _).mono ?_; rintro e w' ⟨rfl, rfl⟩; dsimp only))
  (try simp only [Exit.inBlock, Exit.then]); refine' ret1 rfl ?_ rfl ?_; (case refine'_2 => exact cRes)
  obtain ⟨h1, h2, h3, h4, h5, h6, h7⟩ := HR.out
  refine ⟨⟨(k : Int) + 1, ⟨some ⟨gv, 0, none⟩, vn, vc⟩, rt, rk, ⟨p4, ln + 1, cap4⟩, 0⟩, ts, _, Rt, Rl4, Rf, rfl, ⟨h1, h2, by simpa [flatL] using hS4, h4, by show (k : Int) + 1 = s.at' + 1; rw [HK.out], h6, HE.out.symm⟩, ?_, hL.below⟩
  refine (hL.ownOf (R := (gv, _, _) :: (Rt ++ (Rf ++ Rl4))) (by repeat (first | exact List.Sublist.refl _ | apply List.Sublist.cons))).perm ?_
  exact List.Perm.cons _ (List.Perm.append_left Rt List.perm_append_comm)

set_option maxRecDepth 100000 in
set_option maxHeartbeats 4000000 in
theorem rstep_end (p : Pg) (ins : Sl) (r0 : Rn) (s : Rs) (w : World) (hr : RunIs w r0 s) (hf : Fits s) (hend : s.ending = 0) (hk : s.at' = p.n) :
    Calls Tryd.prog 10 #[p.v, r0.v, ins.v] w fun e w' => Gives w { s with ending := 1 } e w' := by
  have HCOPY := Lib.hid (fun w' (hb : Below w.heap.size w w') => copyRun_any r0 s w' (hr.grow hb) hf)
  have HK := Lib.hid hk
  have HE := Lib.hid hend
  clear hr hf hend hk
  have hL := Loc.start w
  go_enter Tryd.func10, Tryd.ntmps10
  go_upto_region 2 with (first | (with_reducible refine lld hL ?_) | ((with_reducible first | refine lbx hL ?_ | refine lal hL ?_ | refine lbs hL ?_); clear hL; intro bl w1 hL) | ((with_reducible refine lst' hL ?_); clear hL; intro w1 hL) | (go_at_call 23; refine (HCOPY.out _ hL.below).mono ?_; rintro e w3 ⟨r, ts, Rv, Rt, Rl, Rf, rfl, hR, ho, hb⟩; replace hL := hL.gainTail hb ho; simp only [List.cons_append, List.nil_append] at hL; clear ho hb; dsimp only))
  clear HCOPY
  have hra : r.at' = (p.n : Int) := hR.a.trans HK.out
  have hre : r.ending = 0 := hR.e.trans HE.out
  have HR := Lib.hid hR
  clear hR
  obtain ⟨pv, pf, pc, pn, pcap⟩ := p
  obtain ⟨ra, rv, rt, rk, rl, re⟩ := r
  dsimp only at hra hre hL
  subst hra
  subst hre
  go_wp2_with (first | (with_reducible refine lld hL ?_) | ((with_reducible first | refine lbx hL ?_ | refine lal hL ?_ | refine lbs hL ?_); clear hL; intro bl w1 hL) | ((with_reducible refine lst' hL ?_); clear hL; intro w1 hL))
  (try simp only [Exit.inBlock, Exit.then]); refine' ret1 rfl ?_ rfl ?_; (case refine'_2 => exact cRes)
  obtain ⟨h1, h2, h3, h4, h5, h6, h7⟩ := HR.out
  refine ⟨⟨(pn : Int), rv, rt, rk, rl, 1⟩, ts, Rv, Rt, Rl, Rf, rfl, ⟨h1, h2, h3, h4, HK.out.symm, h6, rfl⟩, ?_, hL.below⟩
  exact hL.ownOf (by repeat (first | exact List.Sublist.refl _ | apply List.Sublist.cons))

set_option maxRecDepth 100000 in
set_option maxHeartbeats 4000000 in
theorem rstep_over (p : Pg) (ins : Sl) (r0 : Rn) (s : Rs) (w : World) (hr : RunIs w r0 s) (hf : Fits s) (hend : (s.ending != 0) = true) :
    Calls Tryd.prog 10 #[p.v, r0.v, ins.v] w fun e w' => Gives w s e w' := by
  have HCOPY := Lib.hid (fun w' (hb : Below w.heap.size w w') => copyRun_any r0 s w' (hr.grow hb) hf)
  have HE := Lib.hid hend
  clear hr hf hend
  have hL := Loc.start w
  go_enter Tryd.func10, Tryd.ntmps10
  go_upto_region 2 with (first | (with_reducible refine lld hL ?_) | ((with_reducible first | refine lbx hL ?_ | refine lal hL ?_ | refine lbs hL ?_); clear hL; intro bl w1 hL) | ((with_reducible refine lst' hL ?_); clear hL; intro w1 hL) | (go_at_call 23; refine (HCOPY.out _ hL.below).mono ?_; rintro e w3 ⟨r, ts, Rv, Rt, Rl, Rf, rfl, hR, ho, hb⟩; replace hL := hL.gainTail hb ho; simp only [List.cons_append, List.nil_append] at hL; clear ho hb; dsimp only))
  clear HCOPY
  have hre : (r.ending != 0) = true := by rw [hR.e]; exact HE.out
  have HR := Lib.hid hR
  clear hR HE
  obtain ⟨ra, rv, rt, rk, rl, re⟩ := r
  dsimp only at hre hL
  go_wp2_with (first | (with_reducible refine lld hL ?_) | ((with_reducible first | refine lbx hL ?_ | refine lal hL ?_ | refine lbs hL ?_); clear hL; intro bl w1 hL) | ((with_reducible refine lst' hL ?_); clear hL; intro w1 hL))
  (try simp only [Exit.inBlock, Exit.then]); refine' ret1 rfl ?_ rfl ?_; (case refine'_2 => exact cRes)
  refine ⟨⟨ra, rv, rt, rk, rl, re⟩, ts, Rv, Rt, Rl, Rf, rfl, HR.out, ?_, hL.below⟩
  exact hL.ownOf (by repeat (first | exact List.Sublist.refl _ | apply List.Sublist.cons))
end Go.Proofs.YtkdbehgekeidoaaDoor
