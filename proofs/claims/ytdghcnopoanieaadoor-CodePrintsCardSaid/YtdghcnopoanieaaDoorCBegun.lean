/- The walk over the law's codeBegun. Conditions: the library's variables. -/
import Derived.Test.YtdghcnopoanieaaDoorCPrint
import Derived.Test.YtdghcnopoanieaaDoorParse
import Derived.Test.YtdghcnopoanieaaDoorSamePg
import Derived.Test.YtdghcnopoanieaaDoorSml
set_option linter.unusedSimpArgs false
set_option linter.unusedVariables false
namespace Go.Proofs.YtdghcnopoanieaaDoor
open Go.RowKit

def smallL : List Ins := [⟨1, 0, 0, 0, 5, 0⟩, ⟨18, 0, 0, 0, 0, 0⟩]
theorem small_codeL {w : World} {b : Nat} (h : w.heap[b]? = some (.cells smallC.toArray 47 (0, 0))) : CodeAt w (smallP b) (insAt smallL) := by
  obtain ⟨b1, o, h1, h2⟩ := small_code h
  refine ⟨b1, o, h1, fun k hk => ?_⟩
  have := h2 k hk
  have hk2 : k < 2 := hk
  obtain rfl | rfl : k = 0 ∨ k = 1 := by omega
  · exact this
  · exact this
theorem smallL_right : checkL 1 0 smallL = 0 := rfl
def smallT : Byt := [118, 97, 114, 115, 32, 49, 32, 102, 105, 101, 108, 100, 115, 32, 48, 10, 110, 117, 109, 98, 101, 114, 32, 48, 32, 53, 10, 112, 114, 105, 110, 116, 32, 48, 10]
theorem itoa_one {i : Nat} (h : i < 10) : Lib.itoa (i : Int) = [UInt8.ofNat (48 + i)] := by
  unfold Lib.itoa
  rw [if_neg (by omega), Int.toNat_natCast, Lib.decDigits_one h]
theorem smallT_eq : printD 1 0 smallL = smallT := by
  have h0 : Lib.itoa 0 = [48] := itoa_one (i := 0) (by decide)
  have h1 : Lib.itoa 1 = [49] := itoa_one (i := 1) (by decide)
  have h5 : Lib.itoa 5 = [53] := itoa_one (i := 5) (by decide)
  have e1 : lineD ⟨1, 0, 0, 0, 5, 0⟩ = [110, 117, 109, 98, 101, 114, 32, 48, 32, 53] := by
    show glue 32 (wordOf 1 :: [Lib.itoa 0, Lib.itoa 5]) = _
    rw [h0, h5]; decide +kernel
  have e2 : lineD ⟨18, 0, 0, 0, 0, 0⟩ = [112, 114, 105, 110, 116, 32, 48] := by
    show glue 32 (wordOf 18 :: [Lib.itoa 0]) = _
    rw [h0]; decide +kernel
  rw [printD, smallL, List.map_cons, List.map_cons, List.map_nil, e1, e2, headT, h0, h1]
  decide +kernel
theorem small_progD : progD smallT = (some ((1, 0), smallL), 0, 0) := by
  have hp : parseD smallT = .ok ((1, 0), smallL) := by
    rw [← smallT_eq]
    exact parse_print (p := ⟨1, 0, none, 2, 0⟩) (is := smallL) ⟨by decide, by decide, by decide, by decide, by decide⟩ (right_pg smallL_right).2
  exact progD_ok (by decide) hp smallL_right
theorem small_chk (b : Nat) (w : World) (h : CodeAt w (smallP b) smallIs) : Calls Tryd.prog 15 #[(smallP b).v] w fun e w' => e = .returned (.int .i64 0) ∧ Below w.heap.size w w' :=
  codeCheck_any (smallP b) smallIs w h (show (2 : Nat) ≤ 9223372036854775807 by decide)
theorem parseL (l : Byt) (hl : l.length ≤ 1000000) (w : World) (hg : Glob w) :
    Calls Tryd.prog 6 #[strV l] w fun e w' => Parsed w l e w' := by
  have h := parse_any ⟨l.toArray⟩ w hg (by show l.toArray.size ≤ _; rw [List.size_toArray]; omega)
  simpa using h

set_option maxRecDepth 100000 in
set_option maxHeartbeats 1600000 in
theorem codeBegun_any (w : World) (hg : Glob w) :
    Calls Tryd.prog 8 #[] w fun e w' => e = .returned (.bool true) ∧ Below w.heap.size w w' := by
  have HG := Lib.hid hg
  clear hg
  have hL := Loc.start w
  go_enter Tryd.func8, Tryd.ntmps8
  go_wp2_with (first | (go_at_call 23; refine (small_any _).mono ?_; rintro e w3 ⟨bs, rfl, hge, hsm, hb3⟩; replace hL := hL.gain hb3 hge hsm; clear hge hsm hb3; (try dsimp only)) | (go_at_call 10; refine (print_any 1 0 (some ⟨bs, 0, none⟩) 2 smallL smallL_right _ (HG.out.grow hL.below) (small_codeL (hL.heap (by repeat (first | exact InL.head | apply InL.tail))))).mono ?_; rw [smallT_eq]; rintro e w1 ⟨rfl, hb⟩; replace hL := hL.grow hb; clear hb; dsimp only) | (go_at_call 6; refine (parseL smallT (by decide) _ (HG.out.grow hL.below)).mono ?_; rintro e w3 ⟨p, is, rfl, hpg, hb, -, hsm⟩; obtain ⟨h1, h2, rfl⟩ := hsm _ _ (congrArg Prod.fst small_progD); have HPG := Lib.hid hpg; have HB0 := Lib.hid (hL.below.trans (hb.mono hL.size)); clear hpg hb hsm hL; have hL := Loc.start w3; rw [small_progD]; obtain ⟨pv, pf, pc, pn, pcap⟩ := p; dsimp only at h1 h2; subst h1 h2; obtain rfl : pn = 2 := HPG.out.n; dsimp only) | (with_reducible first | refine lld hL ?_ | ((first | refine lbx hL ?_ | refine lal hL ?_ | refine lbs hL ?_); clear hL; intro bl w1 hL) | (refine lst' hL ?_; clear hL; intro w1 hL)))
  have HCK := Lib.hid small_chk
  have HSM := Lib.hid (fun b w' (h1 : CodeAt w' ⟨1, 0, pc, 2, pcap⟩ (insAt smallL)) (h2 : CodeAt w' (smallP b) (insAt smallL)) => samePg_any 1 0 2 pc (some ⟨b, 0, none⟩) pcap 2 (insAt smallL) w' (by decide) h1 h2)
  have HPA := Lib.hid (fun w' (h : Below w3.heap.size w3 w') => (HPG.out.at'.grow h))
  simp only [smallT]
  obtain ⟨wr, hwr⟩ : ∃ x, x = w1 := ⟨_, rfl⟩
  subst hwr
  refine draw_begin [17, 18, 19, 20, 21, 22, 23, 24, 25, 26, 27, 28, 29, 30, 31, 32, 33, 34, 35, 36, 0] ?_
  refine draw_next (SmR wr.heap.size) SmR.stable ?_ ?_
  · intro g w hb hdep; replace hL := hL.grow hb; clear hdep; simp only [fillD, fLa, fLb, sTa, sTb]
    go_wp2_with (go_at_call 23; refine (small_any _).mono ?_; rintro e w3 ⟨b0, rfl, hge, hsm, hb3⟩; dsimp only)
    exact ⟨rfl, _, rfl, hb3, b0, Nat.le_trans hb.size hge, rfl, hsm⟩
  simp only [apN, apC]
  apply draw_val
  · intro g w hb hdep; replace hL := hL.grow hb; have d0 : (SmR wr.heap.size) (g 17) w := yr hdep 0; have s0 := Exists.choose_spec d0; generalize Exists.choose d0 = b0 at s0; have m0 := s0.2.2; replace d0 := s0.2.1; clear hdep; simp only [fillD, fLa, fLb, sTa, sTb]; simp only [d0]
    go_wp2_with (go_at_call 15; refine (HCK.out b0 _ (small_code m0)).mono ?_; rintro e w3 ⟨rfl, hb3⟩; dsimp only)
    exact ⟨rfl, _, rfl, hb3, rfl⟩
  simp only [apN, apC]
  refine dv1 1 ?_
  refine dv1 2 ?_
  refine dv1 3 ?_
  refine dv2 4 3 ?_
  apply draw_val
  · intro g w hb hdep; replace hL := hL.grow hb; have d3 := yv hdep 3; have d5 := yv hdep 5; clear hdep; simp only [fillD, fLa, fLb, sTa, sTb]; simp only [d3, d5]
    go_wp2
    exact cY
  simp only [apN, apC]
  refine dv1 6 ?_
  refine dv1 7 ?_
  refine dv2 8 7 ?_
  apply draw_val
  · intro g w hb hdep; replace hL := hL.grow hb; have d7 := yv hdep 7; have d9 := yv hdep 9; clear hdep; simp only [fillD, fLa, fLb, sTa, sTb]; simp only [d7, d9]
    go_wp2
    exact cY
  simp only [apN, apC]
  refine dv1 10 ?_
  refine dv1 11 ?_
  refine dv2 12 11 ?_
  apply draw_val
  · intro g w hb hdep; replace hL := hL.grow hb; have d11 := yv hdep 11; have d13 := yv hdep 13; clear hdep; simp only [fillD, fLa, fLb, sTa, sTb]; simp only [d11, d13]
    go_wp2
    exact cY
  simp only [apN, apC]
  refine dv1 14 ?_
  refine dv1 15 ?_
  refine draw_next (SmR wr.heap.size) SmR.stable ?_ ?_
  · intro g w hb hdep; replace hL := hL.grow hb; have d15 := yv hdep 15; clear hdep; simp only [fillD, fLa, fLb, sTa, sTb]; simp only [d15]
    go_wp2_with (go_at_call 23; refine (small_any _).mono ?_; rintro e w3 ⟨b0, rfl, hge, hsm, hb3⟩; dsimp only)
    exact ⟨rfl, _, rfl, hb3, b0, Nat.le_trans hb.size hge, rfl, hsm⟩
  simp only [apN, apC]
  apply draw_val
  · intro g w hb hdep; replace hL := hL.grow hb; have d16 := yv hdep 16; have d17 : (SmR wr.heap.size) (g 34) w := yr hdep 17; have s17 := Exists.choose_spec d17; generalize Exists.choose d17 = b17 at s17; have m17 := s17.2.2; replace d17 := s17.2.1; have d15 := yv hdep 15; clear hdep; simp only [fillD, fLa, fLb, sTa, sTb]; simp only [d16, d17, d15]
    go_wp2_with (go_at_call 9; refine (HSM.out b17 _ (HPA.out _ hL.below) (small_codeL m17)).mono ?_; rintro e w3 ⟨rfl, hb3⟩; dsimp only)
    exact ⟨rfl, _, rfl, hb3, rfl⟩
  simp only [apN, apC]
  apply draw_val
  · intro g w hb hdep; replace hL := hL.grow hb; have d15 := yv hdep 15; have d18 := yv hdep 18; clear hdep; simp only [fillD, fLa, fLb, sTa, sTb]; simp only [d15, d18]
    go_wp2
    exact cY
  simp only [apN, apC]
  refine dv1 19 ?_
  refine draw_end hL (by kernel_rfl) (by kernel_rfl) ?_
  intro g w2 hb hR; simp only [List.length_cons, List.length_nil, Nat.reduceAdd] at hR
  have e0 : (SmR wr.heap.size) (g 17) w2 := yr hR 0
  have s0 := Exists.choose_spec e0; generalize Exists.choose e0 = bz0 at s0; replace e0 := s0.2.1
  have e1 := yv hR 1
  have e2 := yv hR 2
  have e3 := yv hR 3
  have e4 := yv hR 4
  have e5 := yv hR 5
  have e6 := yv hR 6
  have e7 := yv hR 7
  have e8 := yv hR 8
  have e9 := yv hR 9
  have e10 := yv hR 10
  have e11 := yv hR 11
  have e12 := yv hR 12
  have e13 := yv hR 13
  have e14 := yv hR 14
  have e15 := yv hR 15
  have e16 := yv hR 16
  have e17 : (SmR wr.heap.size) (g 34) w2 := yr hR 17
  have s17 := Exists.choose_spec e17; generalize Exists.choose e17 = bz17 at s17; replace e17 := s17.2.1
  have e18 := yv hR 18
  have e19 := yv hR 19
  have e20 := yv hR 20
  clear hR; simp only [fillD, fLa, fLb, sTa, sTb]
  simp only [e0, e1, e2, e3, e4, e5, e6, e7, e8, e9, e10, e11, e12, e13, e14, e15, e16, e17, e18, e19, e20]
  clear e0 e1 e2 e3 e4 e5 e6 e7 e8 e9 e10 e11 e12 e13 e14 e15 e16 e17 e18 e19 e20
  replace hL := hL.grow hb
  clear hb
  go_wp2_with (first | (with_reducible first | refine lld hL ?_ | ((first | refine lbx hL ?_ | refine lal hL ?_ | refine lbs hL ?_); clear hL; intro bl w1 hL) | (refine lst' hL ?_; clear hL; intro w1 hL)))
  (try simp only [Exit.inBlock, Exit.then]); refine rt1 ?_
  exact ⟨rfl, HB0.out.trans (hL.below.mono HB0.out.size)⟩
end Go.Proofs.YtdghcnopoanieaaDoor
