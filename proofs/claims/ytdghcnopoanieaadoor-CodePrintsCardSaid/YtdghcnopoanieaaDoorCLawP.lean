/- The law CodeParses: whatever text it is handed it returns true. Conditions: the library's variables. -/
import Derived.Test.YtdghcnopoanieaaDoorCBegun
import Derived.Test.YtdghcnopoanieaaDoorRParse
import Derived.Test.YtdghcnopoanieaaDoorGua
set_option linter.unusedSimpArgs false
set_option linter.unusedVariables false
namespace Go.Proofs.YtdghcnopoanieaaDoor
open Go.RowKit

theorem prog_read {w : World} {b : Nat} {p : Pg} (h : w.heap[b]? = some (.cells #[.int .i64 p.vars, .int .i64 p.fields, .slice p.pc p.n p.cap] 24 (0, 0))) : ReadsAt Tryd.prog 24 w b 0 p.v :=
  ReadsAt.agg tProg (l := [.int .i64 p.vars, .int .i64 p.fields, .slice p.pc p.n p.cap]) (heap_lt h) (fun j v hj => by
    have : w.cell? ⟨b, 0 + j, none⟩ = [Value.int .i64 p.vars, .int .i64 p.fields, .slice p.pc p.n p.cap][j]? := by simp [World.cell?, h]
    rw [this]; exact hj) rfl
/-- What two calls hand back that parse the same text is the same. -/
theorem parsed_same {o : Option ((Int × Int) × List Ins)} {p q : Pg} {is js : List Ins} (hn1 : o = none → p = zeroPg ∧ is = []) (hs1 : ∀ h l, o = some (h, l) → p.vars = h.1 ∧ p.fields = h.2 ∧ is = l)
    (hn2 : o = none → q = zeroPg ∧ js = []) (hs2 : ∀ h l, o = some (h, l) → q.vars = h.1 ∧ q.fields = h.2 ∧ js = l) : p.vars = q.vars ∧ p.fields = q.fields ∧ is = js := by
  cases o with
  | none =>
    obtain ⟨rfl, rfl⟩ := hn1 rfl
    obtain ⟨rfl, rfl⟩ := hn2 rfl
    exact ⟨rfl, rfl, rfl⟩
  | some x =>
    obtain ⟨h, l⟩ := x
    obtain ⟨h1, h2, rfl⟩ := hs1 h l rfl
    obtain ⟨h3, h4, rfl⟩ := hs2 h _ rfl
    exact ⟨h1.trans h3.symm, h2.trans h4.symm, rfl⟩

set_option maxRecDepth 100000 in
set_option maxHeartbeats 1600000 in
theorem cparses_any (s : ByteArray) (hm : s.size ≤ 9223372036854775807) (w : World) (hg : Glob w) :
    Calls Tryd.prog 3 #[.string s] w fun e w' => e = .returned (.bool true) ∧ Below w.heap.size w w' := by
  have HG := Lib.hid hg
  have HP1 := Lib.hid (parse_any s w hg hm)
  have HP2 := Lib.hid (fun w' => rParse_any s w' hm)
  clear hg
  have hL := Loc.start w
  go_enter Tryd.func3, Tryd.ntmps3
  go_upto_region 2 with (first | (go_at_call 6; refine HP1.out.mono ?_; rintro e w1 ⟨⟨v1, f1, pc1, n1, c1⟩, is1, rfl, hpg1, hb1, hn1, hs1⟩; have HB1 := Lib.hid hb1; have HPG1 := Lib.hid hpg1; have HN1 := Lib.hid hn1; have HS1 := Lib.hid hs1; clear hb1 hpg1 hn1 hs1 hL; have hL := Loc.start w1; have HGW := Lib.hid (HG.out.grow HB1.out); dsimp only) | (with_reducible first | refine lld hL ?_ | ((first | refine lbx hL ?_ | refine lal hL ?_ | refine lbs hL ?_); clear hL; intro bl w1 hL) | (refine lst' hL ?_; clear hL; intro w1 hL)))
  obtain ⟨wa, hwa⟩ : ∃ x, x = bl := ⟨_, rfl⟩
  subst hwa
  go_upto_region 3 with (first | (go_at_call 7; refine (HP2.out _).mono ?_; rintro e w3 ⟨⟨v2, f2, pc2, n2, c2⟩, is2, rfl, hpg2, hb2, hn2, hs2⟩; replace hL := hL.grow hb2; have HB := Lib.hid (HB1.out.trans (hL.below.mono HB1.out.size)); have HPA := Lib.hid (HPG1.out.grow hL.below); have HPB := Lib.hid hpg2; have HRD := Lib.hid (prog_read (p := ⟨v1, f1, pc1, n1, c1⟩) (hL.heap InL.head)); have HGZ := Lib.hid (HGW.out.grow hL.below); have hsame := parsed_same HN1.out HS1.out hn2 hs2; clear hb2 hpg2 hn2 hs2 hL HPG1 HGW HN1 HS1; have hL := Loc.start w3; obtain ⟨h1, h2, h3⟩ := hsame; dsimp only at h1 h2; subst h1 h2 h3; obtain rfl : n1 = n2 := (HPA.out.n.trans HPB.out.n.symm); dsimp only) | (with_reducible first | refine lld hL ?_ | ((first | refine lbx hL ?_ | refine lal hL ?_ | refine lbs hL ?_); clear hL; intro bl w1 hL) | (refine lst' hL ?_; clear hL; intro w1 hL)))
  generalize (progD s.data.toList).2.1 = ln
  generalize (progD s.data.toList).2.2 = er
  have HCB := Lib.hid (fun w' (h : Glob w') => codeBegun_any w' h)
  have HSP := Lib.hid (fun w' (h1 : CodeAt w' ⟨v1, f1, pc1, n1, c1⟩ (insAt is1)) (h2 : CodeAt w' ⟨v1, f1, pc2, n1, c2⟩ (insAt is1)) => samePg_any v1 f1 n1 pc1 pc2 c1 c2 (insAt is1) w' (by have := HPA.out.m; dsimp only at this; omega) h1 h2)
  go_wp2_with (first | (go_at_call 8; refine (HCB.out _ (HGZ.out.grow hL.below)).mono ?_; rintro e w1 ⟨rfl, hb⟩; replace hL := hL.grow hb; clear hb; dsimp only) | (go_at_call 9; refine (HSP.out _ (HPA.out.at'.grow hL.below) (HPB.out.at'.grow hL.below)).mono ?_; rintro e w1 ⟨rfl, hb⟩; replace hL := hL.grow hb; clear hb; dsimp only) | (with_reducible refine ldB HRD.out hL ?_) | (with_reducible first | refine lld hL ?_ | ((first | refine lbx hL ?_ | refine lal hL ?_ | refine lbs hL ?_); clear hL; intro bl w1 hL) | (refine lst' hL ?_; clear hL; intro w1 hL)))
  (try simp only [Exit.inBlock, Exit.then]); refine rt1 ?_
  exact ⟨rfl, HB.out.trans (hL.below.mono HB.out.size)⟩
end Go.Proofs.YtdghcnopoanieaaDoor
