/- The walks over the reference's LineOf and PrintOf. Conditions: the program is right. -/
import Derived.Test.YtdghcnopoanieaaDoorRefDig
import Derived.Test.YtdghcnopoanieaaDoorParP2
import Derived.Test.YtdghcnopoanieaaDoorParseD
import Derived.Test.YtdghcnopoanieaaDoorSeqP
set_option linter.unusedSimpArgs false
set_option linter.unusedVariables false
namespace Go.Proofs.YtdghcnopoanieaaDoor
open Go.RowKit

theorem str_ext {a : ByteArray} {l : List UInt8} (h : a.data.toList = l) : Value.string a = strV l := by
  subst h
  simp
theorem cat_list (a b : ByteArray) : (a ++ b).data.toList = a.data.toList ++ b.data.toList := by
  simp
/-- All numbers of an instruction are small. -/
def Few5 (i : Ins) : Prop := (-10000000000 ≤ i.to ∧ i.to ≤ 10000000000) ∧ (-10000000000 ≤ i.a ∧ i.a ≤ 10000000000) ∧ (-10000000000 ≤ i.b ∧ i.b ≤ 10000000000) ∧ (-10000000000 ≤ i.n ∧ i.n ≤ 10000000000) ∧ (-10000000000 ≤ i.goto ∧ i.goto ≤ 10000000000)
theorem few5 {p : Pg} (hp : Small p) {i : Ins} (h : checkOne p i = 0) : Few5 i := by
  obtain ⟨hb, hn, hr, hf⟩ := checkOne_parts h
  obtain ⟨v1, v2, f1, f2, n1⟩ := hp
  clear h
  obtain ⟨kd, to, a, b, n, g⟩ := i
  dsimp only at hb hn hr hf
  unfold Few5
  dsimp only
  rcases kinds_of hb with rfl | rfl | rfl | rfl | rfl | rfl | rfl | rfl | rfl | rfl | rfl | rfl | rfl | rfl | rfl | rfl | rfl | rfl | rfl <;>
    (simp [noneB, nTo, nA, nB, nGoto, betw] at hn; simp [rangeB, betw] at hr; simp [formB, nTo, nA, nB, nN, nGoto, betw] at hf; omega)
theorem wordS_size (k : Int) (hk : betw k 1 19 = true) : (wordS k).size ≤ 6 := by
  have := word_len hk
  rw [wordOf, Array.length_toList] at this
  exact this

set_option maxRecDepth 100000 in
set_option maxHeartbeats 4000000 in
theorem rLine_any (i : Ins) (hb : betw i.kind 1 19 = true) (hf : Few5 i) (w : World) :
    Calls Tryd.prog 36 #[i.v] w fun e w' => e = .returned (strV (lineD i)) ∧ Below w.heap.size w w' := by
  have HLR := Lib.hid (lineR_eq hb)
  obtain ⟨h1, h2, h3, h4, h5⟩ := hf
  have hws := wordS_size i.kind hb
  obtain ⟨kd, to, a, b, n, g⟩ := i
  dsimp only at hb h1 h2 h3 h4 h5 hws
  have H1 := Lib.hid (fun w' => rDigits_any to (by omega) w')
  have H2 := Lib.hid (fun w' => rDigits_any a (by omega) w')
  have H3 := Lib.hid (fun w' => rDigits_any b (by omega) w')
  have H4 := Lib.hid (fun w' => rDigits_any n (by omega) w')
  have H5 := Lib.hid (fun w' => rDigits_any g (by omega) w')
  have s1 : (digs to).size ≤ 21 := digs_size (by omega)
  have s2 : (digs a).size ≤ 21 := digs_size (by omega)
  have s3 : (digs b).size ≤ 21 := digs_size (by omega)
  have s4 : (digs n).size ≤ 21 := digs_size (by omega)
  have s5 : (digs g).size ≤ 21 := digs_size (by omega)
  clear h1 h2 h3 h4 h5
  have hL := Loc.start w
  have h13 : kd = 13 ∨ kd ≠ 13 := by omega
  rcases h13 with rfl | h13
  · clear hb
    go_enter Tryd.func36, Tryd.ntmps36
    go_step
    go_step
    go_step
    ((with_reducible refine lbx hL ?_); clear hL; intro b1 w1 hL)
    go_upto_region 3 with (first | (go_at_call 43; refine (rWord_any _ _).mono ?_; rintro e w1 ⟨rfl, hb⟩; replace hL := hL.grow hb; clear hb; dsimp only) | (with_reducible first | refine lld hL ?_ | ((first | refine lbx hL ?_ | refine lal hL ?_ | refine lbs hL ?_); clear hL; intro bl w1 hL) | (refine lst' hL ?_; clear hL; intro w1 hL)))
    refine draw_begin [10, 11, 12, 13, 14, 15, 16, 17, 18, 19, 20, 21, 22, 23, 24, 25, 2] ?_
    refine dv0 ?_
    refine dv1 0 ?_
    refine dv0 ?_
    refine dv1 2 ?_
    apply draw_val
    · intro g w hb hdep; replace hL := hL.grow hb; have d3 := yv hdep 3; clear hdep; simp only [fillD, fLa, fLb, sTa, sTb]; simp only [d3]
      go_wp2_with (go_at_call 35; (first | ((with_reducible refine (H1.out _).mono ?_); rintro e w3 ⟨rfl, hb3⟩; dsimp only) | ((with_reducible refine (H2.out _).mono ?_); rintro e w3 ⟨rfl, hb3⟩; dsimp only) | ((with_reducible refine (H3.out _).mono ?_); rintro e w3 ⟨rfl, hb3⟩; dsimp only) | ((with_reducible refine (H4.out _).mono ?_); rintro e w3 ⟨rfl, hb3⟩; dsimp only)))
      exact ⟨rfl, _, rfl, hb3, rfl⟩
    simp only [apN, apC]
    refine dv2 1 4 ?_
    refine dv1 5 ?_
    refine dv0 ?_
    refine dv1 7 ?_
    apply draw_val
    · intro g w hb hdep; replace hL := hL.grow hb; have d8 := yv hdep 8; clear hdep; simp only [fillD, fLa, fLb, sTa, sTb]; simp only [d8]
      go_wp2_with (go_at_call 35; (first | ((with_reducible refine (H1.out _).mono ?_); rintro e w3 ⟨rfl, hb3⟩; dsimp only) | ((with_reducible refine (H2.out _).mono ?_); rintro e w3 ⟨rfl, hb3⟩; dsimp only) | ((with_reducible refine (H3.out _).mono ?_); rintro e w3 ⟨rfl, hb3⟩; dsimp only) | ((with_reducible refine (H4.out _).mono ?_); rintro e w3 ⟨rfl, hb3⟩; dsimp only)))
      exact ⟨rfl, _, rfl, hb3, rfl⟩
    simp only [apN, apC]
    refine dv2 6 9 ?_
    refine dv1 10 ?_
    refine dv0 ?_
    refine dv1 12 ?_
    apply draw_val
    · intro g w hb hdep; replace hL := hL.grow hb; have d13 := yv hdep 13; clear hdep; simp only [fillD, fLa, fLb, sTa, sTb]; simp only [d13]
      go_wp2_with (go_at_call 35; (first | ((with_reducible refine (H1.out _).mono ?_); rintro e w3 ⟨rfl, hb3⟩; dsimp only) | ((with_reducible refine (H2.out _).mono ?_); rintro e w3 ⟨rfl, hb3⟩; dsimp only) | ((with_reducible refine (H3.out _).mono ?_); rintro e w3 ⟨rfl, hb3⟩; dsimp only) | ((with_reducible refine (H4.out _).mono ?_); rintro e w3 ⟨rfl, hb3⟩; dsimp only)))
      exact ⟨rfl, _, rfl, hb3, rfl⟩
    simp only [apN, apC]
    refine dv2 11 14 ?_
    refine dv1 15 ?_
    refine dnd hL ?_
    clear hL; intro w2 hL; simp only [fillX, sTa, sTb]
    go_wp2
    (try simp only [Exit.inBlock, Exit.then]); refine rt1 ?_
    refine ⟨congrArg Ending.returned (str_ext ?_), hL.below⟩
    rw [← HLR.out]
    simp [cat_list, lineR, nTo, nA, nB, nN, nGoto, betw, wordOf, digs]
  rcases kinds_of hb with rfl | rfl | rfl | rfl | rfl | rfl | rfl | rfl | rfl | rfl | rfl | rfl | rfl | rfl | rfl | rfl | rfl | rfl | rfl
  all_goals first | (exact absurd rfl h13) | skip
  all_goals
    clear hb h13
    go_enter Tryd.func36, Tryd.ntmps36
    go_step
    go_step
    go_step
    ((with_reducible refine lbx hL ?_); clear hL; intro b1 w1 hL)
    go_wp2_with (first | (go_at_call 43; refine (rWord_any _ _).mono ?_; rintro e w1 ⟨rfl, hb⟩; replace hL := hL.grow hb; clear hb; dsimp only) | (go_at_call 45; refine (rNamesTo_any _ _).mono ?_; rintro e w1 ⟨rfl, hb⟩; replace hL := hL.grow hb; clear hb; dsimp only) | (go_at_call 46; refine (rNamesA_any _ _).mono ?_; rintro e w1 ⟨rfl, hb⟩; replace hL := hL.grow hb; clear hb; dsimp only) | (go_at_call 47; refine (rNamesB_any _ _).mono ?_; rintro e w1 ⟨rfl, hb⟩; replace hL := hL.grow hb; clear hb; dsimp only) | (go_at_call 48; refine (rNamesN_any _ _).mono ?_; rintro e w1 ⟨rfl, hb⟩; replace hL := hL.grow hb; clear hb; dsimp only) | (go_at_call 37; refine (rNamesGoto_any _ _).mono ?_; rintro e w1 ⟨rfl, hb⟩; replace hL := hL.grow hb; clear hb; dsimp only) | (go_at_call 35; first | ((with_reducible refine (H1.out _).mono ?_); rintro e w1 ⟨rfl, hb⟩; replace hL := hL.grow hb; clear hb; dsimp only) | ((with_reducible refine (H2.out _).mono ?_); rintro e w1 ⟨rfl, hb⟩; replace hL := hL.grow hb; clear hb; dsimp only) | ((with_reducible refine (H3.out _).mono ?_); rintro e w1 ⟨rfl, hb⟩; replace hL := hL.grow hb; clear hb; dsimp only) | ((with_reducible refine (H4.out _).mono ?_); rintro e w1 ⟨rfl, hb⟩; replace hL := hL.grow hb; clear hb; dsimp only) | ((with_reducible refine (H5.out _).mono ?_); rintro e w1 ⟨rfl, hb⟩; replace hL := hL.grow hb; clear hb; dsimp only)) | (with_reducible first | refine lld hL ?_ | ((first | refine lbx hL ?_ | refine lal hL ?_ | refine lbs hL ?_); clear hL; intro bl w1 hL) | (refine lst' hL ?_; clear hL; intro w1 hL)))
    (try simp only [Exit.inBlock, Exit.then]); refine rt1 ?_
    refine ⟨congrArg Ending.returned (str_ext ?_), hL.below⟩
    rw [← HLR.out]
    simp [cat_list, lineR, nTo, nA, nB, nN, nGoto, betw, wordOf, digs]
end Go.Proofs.YtdghcnopoanieaaDoor
