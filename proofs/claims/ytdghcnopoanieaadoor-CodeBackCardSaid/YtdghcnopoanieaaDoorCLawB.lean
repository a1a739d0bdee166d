/- The law CodeBack: whatever program and whatever text it is handed it returns true. Conditions: the library's variables; the instructions lie in memory. -/
import Derived.Test.YtdghcnopoanieaaDoorCLawP
import Derived.Test.YtdghcnopoanieaaDoorCPrint2
import Derived.Test.YtdghcnopoanieaaDoorSamePg
set_option linter.unusedSimpArgs false
set_option linter.unusedVariables false
namespace Go.Proofs.YtdghcnopoanieaaDoor
open Go.RowKit

theorem progD_good {l : Byt} (h : (progD l).2.2 = 0) : ∃ g js, (progD l).1 = some (g, js) ∧ parseD l = .ok (g, js) ∧ checkL g.1 g.2 js = 0 := by
  unfold progD at h ⊢
  split at h
  · cases h
  · split at h
    · cases h
    · split at h
      · rename_i g js hp hz
        rw [if_neg (by assumption), hp]
        simp only [if_pos hz]
        exact ⟨g, js, rfl, rfl, hz⟩
      · contradiction
theorem progD_none {l : Byt} (h : ¬ (progD l).2.2 = 0) : (progD l).1 = none := by
  unfold progD at h ⊢
  split
  · rfl
  · split
    · rfl
    · split
      · rename_i g js hp hz
        rw [if_neg (by assumption), hp] at h
        dsimp only at h
        rw [if_pos hz] at h
        exact absurd rfl h
      · rfl
theorem printed_back {v f : Int} {is : List Ins} (hz : checkL v f is = 0) (hl : (printD v f is).length ≤ 4000) : progD (printD v f is) = (some ((v, f), is), 0, 0) := by
  obtain ⟨hr, hone⟩ := right_pg hz
  exact progD_ok hl (parse_print (p := ⟨v, f, none, is.length, 0⟩) ⟨hr.small.1, hr.small.2, hr.fsmall.1, hr.fsmall.2, hr.few⟩ hone) hz

theorem parse_known {l : Byt} {v f : Int} {is : List Ins} (hp : progD l = (some ((v, f), is), 0, 0)) (hl : l.length ≤ 1000000) (w : World) (hg : Glob w) :
    Calls Tryd.prog 6 #[strV l] w fun e w' => ∃ (pc : Option Addr) (cap : Nat), e = .returned (.tuple #[Pg.v ⟨v, f, pc, is.length, cap⟩, .int .i64 0, .int .i64 0]) ∧ CodeAt w' ⟨v, f, pc, is.length, cap⟩ (insAt is) ∧ Below w.heap.size w w' := by
  refine (parse_any ⟨l.toArray⟩ w hg (by show l.toArray.size ≤ _; rw [List.size_toArray]; omega)).mono ?_
  rintro e w' ⟨⟨v1, f1, pc1, n1, c1⟩, is1, rfl, hpg, hb, -, hs⟩
  rw [show (⟨l.toArray⟩ : ByteArray).data.toList = l from rfl, hp] at hs ⊢
  obtain ⟨h1, h2, h3⟩ := hs (v, f) is rfl
  dsimp only at h1 h2
  subst h1 h2 h3
  obtain rfl : n1 = is1.length := hpg.n
  exact ⟨pc1, c1, rfl, hpg.at', hb⟩

set_option maxRecDepth 100000 in
set_option maxHeartbeats 1600000 in
theorem cback_any (v f : Int) (pc : Option Addr) (cap : Nat) (is : List Ins) (hm : is.length ≤ 9223372036854775807) (s : ByteArray) (hs : s.size ≤ 9223372036854775807) (w : World) (hg : Glob w) (hc : CodeAt w ⟨v, f, pc, is.length, cap⟩ (insAt is)) :
    Calls Tryd.prog 4 #[Pg.v ⟨v, f, pc, is.length, cap⟩, .string s] w fun e w' => e = .returned (.bool true) ∧ Below w.heap.size w w' := by
  have HG := Lib.hid hg
  have HC := Lib.hid hc
  have HPS := Lib.hid (fun w' (h : Glob w') => parse_any s w' h hs)
  have HPR := Lib.hid (fun w' (h : Glob w') (hc : CodeAt w' ⟨v, f, pc, is.length, cap⟩ (insAt is)) => print_full v f pc cap is hm w' h hc)
  have HCB := Lib.hid (fun w' (h : Glob w') => codeBegun_any w' h)
  have HPL := Lib.hid (printed_len v f is)
  have HM := Lib.hid hm
  clear hg hc hs hm
  by_cases hz : checkL v f is = 0 ∧ (printed v f is).length ≤ 4000
  · obtain ⟨hz, hl⟩ := hz
    have hpb := printed_back hz (by rw [printed, if_pos hz] at hl; exact hl)
    rw [hz] at HPR
    rw [show printD v f is = printed v f is by rw [printed, if_pos hz]] at hpb
    have HPT := Lib.hid (fun w' (h : Glob w') => parse_known hpb (by omega) w' h)
    clear hz hpb HPL
    generalize hn : is.length = n at *
    clear hn
    generalize printed v f is = t at *
    have hL := Loc.start w
    go_enter Tryd.func4, Tryd.ntmps4
    go_upto_region 4 with (first | (go_at_call 8; refine (HCB.out _ (HG.out.grow hL.below)).mono ?_; rintro e w1 ⟨rfl, hb⟩; replace hL := hL.grow hb; clear hb; dsimp only) | (go_at_call 10; refine (HPR.out _ (HG.out.grow hL.below) (HC.out.grow hL.below)).mono ?_; rintro e w1 ⟨rfl, hb⟩; replace hL := hL.grow hb; clear hb; dsimp only) | (with_reducible first | refine lld hL ?_ | ((first | refine lbx hL ?_ | refine lal hL ?_ | refine lbs hL ?_); clear hL; intro bl w1 hL) | (refine lst' hL ?_; clear hL; intro w1 hL)))
    obtain ⟨wa, hwa⟩ : ∃ x, x = bl := ⟨_, rfl⟩
    subst hwa
    go_upto_region 6 with (first | (go_at_call 6; refine (HPT.out _ (HG.out.grow hL.below)).mono ?_; rintro e w1 ⟨pc1, c1, rfl, hpg1, hb1⟩; replace hL := hL.grow hb1; have HB := Lib.hid hL.below; have HRD := Lib.hid (prog_read (p := ⟨v, f, pc, n, cap⟩) (hL.heap InL.head)); have HGW := Lib.hid (HG.out.grow hL.below); have HCW := Lib.hid (HC.out.grow hL.below); have HPG1 := Lib.hid hpg1; clear hb1 hpg1 hL HPT HG HC HPR HCB; have hL := Loc.start w1; dsimp only) | (with_reducible first | refine lld hL ?_ | ((first | refine lbx hL ?_ | refine lal hL ?_ | refine lbs hL ?_); clear hL; intro bl w1 hL) | (refine lst' hL ?_; clear hL; intro w1 hL)))
    have HSP := Lib.hid (fun w' (h1 : CodeAt w' ⟨v, f, pc, n, cap⟩ (insAt is)) (h2 : CodeAt w' ⟨v, f, pc1, n, c1⟩ (insAt is)) => samePg_any v f n pc pc1 cap c1 (insAt is) w' HM.out h1 h2)
    go_upto_region 8 with (first | (go_at_call 9; refine (HSP.out _ (HCW.out.grow hL.below) (HPG1.out.grow hL.below)).mono ?_; rintro e w1 ⟨rfl, hb⟩; replace hL := hL.grow hb; clear hb; dsimp only) | (with_reducible refine ldB HRD.out hL ?_) | (with_reducible first | refine lld hL ?_ | ((first | refine lbx hL ?_ | refine lal hL ?_ | refine lbs hL ?_); clear hL; intro bl w1 hL) | (refine lst' hL ?_; clear hL; intro w1 hL)))
    clear HSP HRD HCW HPG1 HM hl
    go_upto_region 9 with (first | (go_at_call 6; refine (HPS.out _ (HGW.out.grow hL.below)).mono ?_; rintro e w5 ⟨⟨v3, f3, pc3, n3, c3⟩, is3, rfl, hpg3, hb3, hn3, hs3⟩; replace hL := hL.grow hb3; have HB3 := Lib.hid (HB.out.trans (hL.below.mono HB.out.size)); have HGZ := Lib.hid (HGW.out.grow hL.below); have HPG3 := Lib.hid hpg3; have HN3 := Lib.hid hn3; have HS3 := Lib.hid hs3; clear hb3 hpg3 hn3 hs3 hL HB HGW; have hL := Loc.start w5; dsimp only) | (with_reducible first | refine lld hL ?_ | ((first | refine lbx hL ?_ | refine lal hL ?_ | refine lbs hL ?_); clear hL; intro bl w1 hL) | (refine lst' hL ?_; clear hL; intro w1 hL)))
    generalize hln : (progD s.data.toList).2.1 = ln at *
    by_cases he : (progD s.data.toList).2.2 = 0
    · obtain ⟨h, js, hpd, hpa, hck⟩ := progD_good he
      obtain ⟨rfl, rfl, rfl⟩ := HS3.out h js hpd
      clear HS3 HN3
      obtain ⟨v3, f3⟩ := h
      dsimp only at hck hpa
      rw [he]
      have hpp := print_parse hpa
      obtain rfl : n3 = is3.length := HPG3.out.n
      have HPQ := Lib.hid (fun w' (h : Glob w') (hc : CodeAt w' ⟨v3, f3, pc3, is3.length, c3⟩ (insAt is3)) => print_any v3 f3 pc3 c3 is3 hck w' h hc)
      rw [hpp] at HPQ
      have HCZ := Lib.hid HPG3.out.at'
      clear he hpd hpa hck hpp HPG3 HPS
      go_wp2_with (first | (go_at_call 10; refine (HPQ.out _ (HGZ.out.grow hL.below) (HCZ.out.grow hL.below)).mono ?_; rintro e w1 ⟨rfl, hb⟩; replace hL := hL.grow hb; clear hb; dsimp only) | (with_reducible first | refine lld hL ?_ | ((first | refine lbx hL ?_ | refine lal hL ?_ | refine lbs hL ?_); clear hL; intro bl w1 hL) | (refine lst' hL ?_; clear hL; intro w1 hL)))
      (try simp only [Exit.inBlock, Exit.then]); refine rt1 ?_
      exact ⟨by simp [Lib.toList_data], HB3.out.trans (hL.below.mono HB3.out.size)⟩
    · have hnone := progD_none he
      obtain ⟨hz3, hi3⟩ := HN3.out hnone
      cases hz3
      clear HS3 HN3 hnone
      generalize (progD s.data.toList).2.2 = er at *
      clear HPG3 HPS HGZ
      go_wp2_with (first | (with_reducible first | refine lld hL ?_ | ((first | refine lbx hL ?_ | refine lal hL ?_ | refine lbs hL ?_); clear hL; intro bl w1 hL) | (refine lst' hL ?_; clear hL; intro w1 hL)))
      (try simp only [Exit.inBlock, Exit.then]); refine rt1 ?_
      exact ⟨rfl, HB3.out.trans (hL.below.mono HB3.out.size)⟩
  · have hz2 : ¬ checkL v f is = 0 ∨ (checkL v f is = 0 ∧ 4000 < (printed v f is).length) := by
      by_cases h : checkL v f is = 0
      · exact .inr ⟨h, by have := fun g => hz ⟨h, g⟩; omega⟩
      · exact .inl h
    clear hz
    generalize checkL v f is = c at *
    generalize hn : is.length = n at *
    have hpl := HPL.out
    generalize printed v f is = t at *
    have hL := Loc.start w
    go_enter Tryd.func4, Tryd.ntmps4
    go_upto_region 4 with (first | (go_at_call 8; refine (HCB.out _ (HG.out.grow hL.below)).mono ?_; rintro e w1 ⟨rfl, hb⟩; replace hL := hL.grow hb; clear hb; dsimp only) | (go_at_call 10; refine (HPR.out _ (HG.out.grow hL.below) (HC.out.grow hL.below)).mono ?_; rintro e w1 ⟨rfl, hb⟩; replace hL := hL.grow hb; clear hb; dsimp only) | (with_reducible first | refine lld hL ?_ | ((first | refine lbx hL ?_ | refine lal hL ?_ | refine lbs hL ?_); clear hL; intro bl w1 hL) | (refine lst' hL ?_; clear hL; intro w1 hL)))
    rcases hz2 with hz | ⟨rfl, hz⟩
    all_goals
      go_upto_region 8 with (first | (with_reducible first | refine lld hL ?_ | ((first | refine lbx hL ?_ | refine lal hL ?_ | refine lbs hL ?_); clear hL; intro bl w1 hL) | (refine lst' hL ?_; clear hL; intro w1 hL)))
      have HB := Lib.hid hL.below
      have HGW := Lib.hid (HG.out.grow hL.below)
      clear hL HG HC HPR HCB HPL hpl hz hn HM
      have hL := Loc.start w1
      go_upto_region 9 with (first | (go_at_call 6; refine (HPS.out _ (HGW.out.grow hL.below)).mono ?_; rintro e w5 ⟨⟨v3, f3, pc3, n3, c3⟩, is3, rfl, hpg3, hb3, hn3, hs3⟩; replace hL := hL.grow hb3; have HB3 := Lib.hid (HB.out.trans (hL.below.mono HB.out.size)); have HGZ := Lib.hid (HGW.out.grow hL.below); have HPG3 := Lib.hid hpg3; have HN3 := Lib.hid hn3; have HS3 := Lib.hid hs3; clear hb3 hpg3 hn3 hs3 hL HB HGW; have hL := Loc.start w5; dsimp only) | (with_reducible first | refine lld hL ?_ | ((first | refine lbx hL ?_ | refine lal hL ?_ | refine lbs hL ?_); clear hL; intro bl w1 hL) | (refine lst' hL ?_; clear hL; intro w1 hL)))
      generalize hln : (progD s.data.toList).2.1 = ln at *
      by_cases he : (progD s.data.toList).2.2 = 0
      · obtain ⟨h, js, hpd, hpa, hck⟩ := progD_good he
        obtain ⟨rfl, rfl, rfl⟩ := HS3.out h js hpd
        clear HS3 HN3
        obtain ⟨v3, f3⟩ := h
        dsimp only at hck hpa
        rw [he]
        have hpp := print_parse hpa
        obtain rfl : n3 = is3.length := HPG3.out.n
        have HPQ := Lib.hid (fun w' (h : Glob w') (hc : CodeAt w' ⟨v3, f3, pc3, is3.length, c3⟩ (insAt is3)) => print_any v3 f3 pc3 c3 is3 hck w' h hc)
        rw [hpp] at HPQ
        have HCZ := Lib.hid HPG3.out.at'
        clear he hpd hpa hck hpp HPG3 HPS
        go_wp2_with (first | (go_at_call 10; refine (HPQ.out _ (HGZ.out.grow hL.below) (HCZ.out.grow hL.below)).mono ?_; rintro e w1 ⟨rfl, hb⟩; replace hL := hL.grow hb; clear hb; dsimp only) | (with_reducible first | refine lld hL ?_ | ((first | refine lbx hL ?_ | refine lal hL ?_ | refine lbs hL ?_); clear hL; intro bl w1 hL) | (refine lst' hL ?_; clear hL; intro w1 hL)))
        (try simp only [Exit.inBlock, Exit.then]); refine rt1 ?_
        exact ⟨by simp [Lib.toList_data], HB3.out.trans (hL.below.mono HB3.out.size)⟩
      · have hnone := progD_none he
        obtain ⟨hz3, hi3⟩ := HN3.out hnone
        cases hz3
        clear HS3 HN3 hnone
        generalize (progD s.data.toList).2.2 = er at *
        clear HPG3 HPS HGZ
        go_wp2_with (first | (with_reducible first | refine lld hL ?_ | ((first | refine lbx hL ?_ | refine lal hL ?_ | refine lbs hL ?_); clear hL; intro bl w1 hL) | (refine lst' hL ?_; clear hL; intro w1 hL)))
        (try simp only [Exit.inBlock, Exit.then]); refine rt1 ?_
        exact ⟨rfl, HB3.out.trans (hL.below.mono HB3.out.size)⟩
end Go.Proofs.YtdghcnopoanieaaDoor
