/- The law CodePrints: whatever program it is handed it returns true. Conditions: the library's variables; the instructions lie in memory; the slice's length is within its room. -/
import Derived.Test.YtdghcnopoanieaaDoorCLawP
import Derived.Test.YtdghcnopoanieaaDoorCPrint2
import Derived.Test.YtdghcnopoanieaaDoorRHeads
import Derived.Test.YtdghcnopoanieaaDoorGua
set_option linter.unusedSimpArgs false
set_option linter.unusedVariables false
namespace Go.Proofs.YtdghcnopoanieaaDoor
open Go.RowKit

set_option maxRecDepth 100000 in
set_option maxHeartbeats 1600000 in
theorem cprints_any (v f : Int) (pc : Option Addr) (cap : Nat) (is : List Ins) (hm : is.length ≤ 9223372036854775807) (hcap : is.length ≤ cap) (w : World) (hg : Glob w) (hc : CodeAt w ⟨v, f, pc, is.length, cap⟩ (insAt is)) :
    Calls Tryd.prog 5 #[Pg.v ⟨v, f, pc, is.length, cap⟩] w fun e w' => e = .returned (.bool true) ∧ Below w.heap.size w w' := by
  have HG := Lib.hid hg
  have HC := Lib.hid hc
  have HPR := Lib.hid (fun w' (h : Glob w') (hc : CodeAt w' ⟨v, f, pc, is.length, cap⟩ (insAt is)) => print_full v f pc cap is hm w' h hc)
  have HHD := Lib.hid (fun w' (hc : CodeAt w' ⟨v, f, pc, is.length, cap⟩ (insAt is)) => heads_any v f pc cap is hm hcap w' hc)
  have HCB := Lib.hid (fun w' (h : Glob w') => codeBegun_any w' h)
  have HCK := Lib.hid (fun w' (hc : CodeAt w' ⟨v, f, pc, is.length, cap⟩ (insAt is)) => codeCheck_any ⟨v, f, pc, is.length, cap⟩ (insAt is) w' hc hm)
  have HRC := Lib.hid (fun w' (hc : CodeAt w' ⟨v, f, pc, is.length, cap⟩ (insAt is)) => rCheckProgram_any ⟨v, f, pc, is.length, cap⟩ (insAt is) w' hc hm)
  rw [show checkProg ⟨v, f, pc, is.length, cap⟩ (insAt is) = checkL v f is from rfl] at HCK HRC
  have HPL := Lib.hid (printed_len v f is)
  clear hg hc hm hcap
  by_cases hz : checkL v f is = 0
  · have hr := (right_pg hz).1
    have HRP := Lib.hid (fun w' (hc : CodeAt w' ⟨v, f, pc, is.length, cap⟩ (insAt is)) => rPrint_any v f pc cap is hr w' hc)
    have HRH := Lib.hid (fun w' (hc : CodeAt w' ⟨v, f, pc, is.length, cap⟩ (insAt is)) => rHeads_any v f pc cap is hr.few w' hc)
    rw [show printD v f is = printed v f is by rw [printed, if_pos hz]] at HRP
    rw [show headed v f is = headsL is by rw [headed, if_pos hz]] at HHD
    rw [hz] at HPR HHD HCK HRC
    clear hr hz
    generalize headsL is = hl at *
    generalize is.length = n at *
    have hpl := HPL.out
    generalize printed v f is = t at *
    have HSI := Lib.hid (fun s1 s2 w' (h1 : IntsAt w' s1 hl) (h2 : IntsAt w' s2 hl) => sameI_self hl ▸ sameInts_any s1 s2 hl hl w' h1 h2)
    clear HPL
    have hL := Loc.start w
    go_enter Tryd.func5, Tryd.ntmps5
    go_upto_region 2 with (first | (go_at_call 10; refine (HPR.out _ (HG.out.grow hL.below) (HC.out.grow hL.below)).mono ?_; rintro e w1 ⟨rfl, hb⟩; replace hL := hL.grow hb; clear hb; dsimp only) | (with_reducible first | refine lld hL ?_ | ((first | refine lbx hL ?_ | refine lal hL ?_ | refine lbs hL ?_); clear hL; intro bl w1 hL) | (refine lst' hL ?_; clear hL; intro w1 hL)))
    obtain ⟨wa, hwa⟩ : ∃ x, x = bl := ⟨_, rfl⟩
    subst hwa
    go_upto_region 3 with (first | (go_at_call 11; refine (HHD.out _ (HC.out.grow hL.below)).mono ?_; rintro e w1 ⟨⟨sp, sn, sc⟩, rfl, hi1, hb1⟩; replace hL := hL.grow hb1; have HB := Lib.hid hL.below; have HRD := Lib.hid (prog_read (p := ⟨v, f, pc, n, cap⟩) (hL.heap InL.head)); have HGW := Lib.hid (HG.out.grow hL.below); have HCW := Lib.hid (HC.out.grow hL.below); have HI1 := Lib.hid hi1; clear hb1 hi1 hL HG HC HPR HHD; have hL := Loc.start w1; dsimp only) | (with_reducible first | refine lld hL ?_ | ((first | refine lbx hL ?_ | refine lal hL ?_ | refine lbs hL ?_); clear hL; intro bl w1 hL) | (refine lst' hL ?_; clear hL; intro w1 hL)))
    go_upto_region 6 with (first | (go_at_call 12; refine (HRC.out _ (HCW.out.grow hL.below)).mono ?_; rintro e w1 ⟨rfl, hb⟩; replace hL := hL.grow hb; clear hb; dsimp only) | (with_reducible refine ldB HRD.out hL ?_) | (with_reducible first | refine lld hL ?_ | ((first | refine lbx hL ?_ | refine lal hL ?_ | refine lbs hL ?_); clear hL; intro bl w1 hL) | (refine lst' hL ?_; clear hL; intro w1 hL)))
    refine draw_begin [24, 25, 26] ?_
    apply draw_val
    · intro g w hb hdep; replace hL := hL.grow hb; clear hdep; simp only [fillD, fLa, fLb, sTa, sTb]
      refine loc_loadB HRD.out hL rfl rfl ?_
      exact cY
    simp only [apN, apC]
    apply draw_val
    · intro g w hb hdep; replace hL := hL.grow hb; have d0 := yv hdep 0; clear hdep; simp only [fillD, fLa, fLb, sTa, sTb]; simp only [d0]
      go_wp2_with (go_at_call 13; refine (HRP.out _ (HCW.out.grow hL.below)).mono ?_; rintro e w3 ⟨rfl, hb3⟩; dsimp only)
      exact ⟨rfl, _, rfl, hb3, rfl⟩
    simp only [apN, apC]
    apply draw_val
    · intro g w hb hdep; replace hL := hL.grow hb; clear hdep; simp only [fillD, fLa, fLb, sTa, sTb]
      refine loc_loadB HRD.out hL rfl rfl ?_
      exact cY
    simp only [apN, apC]
    refine dnd hL ?_
    clear hL; intro w2 hL; simp only [fillX, sTa, sTb]
    go_upto_region 7 with (first | (go_at_call 14; refine (HRH.out _ (HCW.out.grow hL.below)).mono ?_; rintro e w3 ⟨⟨tp, tn, tc⟩, rfl, hi3, hb3⟩; replace hL := hL.grow hb3; have HB3 := Lib.hid (HB.out.trans (hL.below.mono HB.out.size)); have HG3 := Lib.hid (HGW.out.grow hL.below); have HC3 := Lib.hid (HCW.out.grow hL.below); have HR3 := Lib.hid (HRD.out.grow hL.below); have HI3 := Lib.hid hi3; have HJ3 := Lib.hid (HI1.out.grow hL.below); clear hb3 hi3 hL HGW HCW HRD HI1 HB HRP HRH; have hL := Loc.start w3; dsimp only) | (with_reducible first | refine lld hL ?_ | ((first | refine lbx hL ?_ | refine lal hL ?_ | refine lbs hL ?_); clear hL; intro bl w1 hL) | (refine lst' hL ?_; clear hL; intro w1 hL)))
    go_wp2_with (first | (go_at_call 8; refine (HCB.out _ (HG3.out.grow hL.below)).mono ?_; rintro e w1 ⟨rfl, hb⟩; replace hL := hL.grow hb; clear hb; dsimp only) | (go_at_call 15; refine (HCK.out _ (HC3.out.grow hL.below)).mono ?_; rintro e w1 ⟨rfl, hb⟩; replace hL := hL.grow hb; clear hb; dsimp only) | (go_at_call 16; refine (HSI.out ⟨sp, sn, sc⟩ ⟨tp, tn, tc⟩ _ (HJ3.out.grow hL.below) (HI3.out.grow hL.below)).mono ?_; rintro e w1 ⟨rfl, hb⟩; replace hL := hL.grow hb; clear hb; dsimp only) | (with_reducible refine ldB HR3.out hL ?_) | (with_reducible first | refine lld hL ?_ | ((first | refine lbx hL ?_ | refine lal hL ?_ | refine lbs hL ?_); clear hL; intro bl w1 hL) | (refine lst' hL ?_; clear hL; intro w1 hL)))
    (try simp only [Exit.inBlock, Exit.then]); refine rt1 ?_
    exact ⟨rfl, HB3.out.trans (hL.below.mono HB3.out.size)⟩
  · rw [show printed v f is = [] by rw [printed, if_neg hz]] at HPR
    rw [show headed v f is = [] by rw [headed, if_neg hz]] at HHD
    generalize checkL v f is = c at *
    generalize is.length = n at *
    have HSI := Lib.hid (fun s1 w' (h1 : IntsAt w' s1 []) => sameI_self [] ▸ sameInts_any s1 nilSl [] [] w' h1 (IntsAt.nil w'))
    clear HPL
    have hL := Loc.start w
    go_enter Tryd.func5, Tryd.ntmps5
    go_upto_region 2 with (first | (go_at_call 10; refine (HPR.out _ (HG.out.grow hL.below) (HC.out.grow hL.below)).mono ?_; rintro e w1 ⟨rfl, hb⟩; replace hL := hL.grow hb; clear hb; dsimp only) | (with_reducible first | refine lld hL ?_ | ((first | refine lbx hL ?_ | refine lal hL ?_ | refine lbs hL ?_); clear hL; intro bl w1 hL) | (refine lst' hL ?_; clear hL; intro w1 hL)))
    obtain ⟨wa, hwa⟩ : ∃ x, x = bl := ⟨_, rfl⟩
    subst hwa
    go_upto_region 3 with (first | (go_at_call 11; refine (HHD.out _ (HC.out.grow hL.below)).mono ?_; rintro e w1 ⟨⟨sp, sn, sc⟩, rfl, hi1, hb1⟩; replace hL := hL.grow hb1; have HB := Lib.hid hL.below; have HRD := Lib.hid (prog_read (p := ⟨v, f, pc, n, cap⟩) (hL.heap InL.head)); have HGW := Lib.hid (HG.out.grow hL.below); have HCW := Lib.hid (HC.out.grow hL.below); have HI1 := Lib.hid hi1; clear hb1 hi1 hL HG HC HPR HHD; have hL := Loc.start w1; dsimp only) | (with_reducible first | refine lld hL ?_ | ((first | refine lbx hL ?_ | refine lal hL ?_ | refine lbs hL ?_); clear hL; intro bl w1 hL) | (refine lst' hL ?_; clear hL; intro w1 hL)))
    go_wp2_with (first | (go_at_call 12; refine (HRC.out _ (HCW.out.grow hL.below)).mono ?_; rintro e w1 ⟨rfl, hb⟩; replace hL := hL.grow hb; clear hb; dsimp only) | (go_at_call 8; refine (HCB.out _ (HGW.out.grow hL.below)).mono ?_; rintro e w1 ⟨rfl, hb⟩; replace hL := hL.grow hb; clear hb; dsimp only) | (go_at_call 15; refine (HCK.out _ (HCW.out.grow hL.below)).mono ?_; rintro e w1 ⟨rfl, hb⟩; replace hL := hL.grow hb; clear hb; dsimp only) | (go_at_call 16; refine (HSI.out ⟨sp, sn, sc⟩ _ (HI1.out.grow hL.below)).mono ?_; rintro e w1 ⟨rfl, hb⟩; replace hL := hL.grow hb; clear hb; dsimp only) | (with_reducible refine ldB HRD.out hL ?_) | (with_reducible first | refine lld hL ?_ | ((first | refine lbx hL ?_ | refine lal hL ?_ | refine lbs hL ?_); clear hL; intro bl w1 hL) | (refine lst' hL ?_; clear hL; intro w1 hL)))
    (try simp only [Exit.inBlock, Exit.then]); refine rt1 ?_
    exact ⟨rfl, HB.out.trans (hL.below.mono HB.out.size)⟩
end Go.Proofs.YtdghcnopoanieaaDoor
