/- The walk over the reference's ParseOf. Conditions: none. -/
import Derived.Test.YtdghcnopoanieaaDoorRInstr
import Derived.Test.YtdghcnopoanieaaDoorParse
set_option linter.unusedSimpArgs false
set_option linter.unusedVariables false
namespace Go.Proofs.YtdghcnopoanieaaDoor
open Go.RowKit

/-- How far the lines are parsed, line i next. -/
def AtIdx (l : Byt) (ps : List Byt) (i : Nat) (v f : Int) (done : List Ins) : Prop :=
  (i = 0 ∧ v = 0 ∧ f = 0 ∧ done = []) ∨ (1 ≤ i ∧ parseD l = match bodyD (i + 1) (ps.drop i) with | .ok is => .ok ((v, f), done ++ is) | .error m => .error m)
theorem drop_two {ps : List Byt} {i : Nat} (h : i + 1 < ps.length) : ps.drop i = ps.getD i [] :: ps.drop (i + 1) ∧ ps.drop (i + 1) ≠ [] := by
  refine ⟨?_, fun h2 => ?_⟩
  · rw [List.getD_eq_getElem?_getD, List.getElem?_eq_getElem (by omega)]
    exact List.drop_eq_getElem_cons (by omega)
  · have := congrArg List.length h2
    simp at this
    omega
theorem drop_last {ps : List Byt} {i : Nat} (h : i + 1 = ps.length) : ps.drop i = [ps.getD i []] := by
  rw [List.getD_eq_getElem?_getD, List.getElem?_eq_getElem (by omega), List.drop_eq_getElem_cons (by omega), List.drop_of_length_le (by omega)]
  rfl
theorem idx_first_last {l : Byt} {ps : List Byt} (hp : pieces 10 l = ps) (h : 0 + 1 = ps.length) : parseD l = .error 1 := by
  have := drop_last h
  unfold parseD
  rw [hp, show ps = [ps.getD 0 []] by simpa using this, linesD, if_pos rfl]
theorem idx_first_none {l : Byt} {ps : List Byt} (hp : pieces 10 l = ps) (h : 0 + 1 < ps.length) (hh : headD (ps.getD 0 []) = none) : parseD l = .error 1 := by
  obtain ⟨h1, h2⟩ := drop_two h
  unfold parseD
  rw [hp, show ps = ps.getD 0 [] :: ps.drop 1 by simpa using h1, linesD, if_neg h2, hh]
theorem idx_first_some {l : Byt} {ps : List Byt} {v f : Int} (hp : pieces 10 l = ps) (h : 0 + 1 < ps.length) (hh : headD (ps.getD 0 []) = some (v, f)) : AtIdx l ps 1 v f [] := by
  obtain ⟨h1, h2⟩ := drop_two h
  refine .inr ⟨Nat.le_refl _, ?_⟩
  have hps : pieces 10 l = ps.getD 0 [] :: ps.drop 1 := by rw [hp]; simpa using h1
  unfold parseD
  rw [hps, linesD, if_neg h2, hh]
  dsimp only
  cases bodyD 2 (ps.drop 1) <;> rfl
theorem AtIdx.done {l : Byt} {ps : List Byt} {i : Nat} {v f : Int} {done : List Ins} (h : AtIdx l ps i v f done) (hi : 1 ≤ i) (hl : i + 1 = ps.length) (he : ps.getD i [] = []) : parseD l = .ok ((v, f), done) := by
  rcases h with h | ⟨_, h⟩
  · omega
  · rw [h, drop_last hl, he, bodyD, if_pos rfl]
    simp
theorem AtIdx.last {l : Byt} {ps : List Byt} {i : Nat} {v f : Int} {done : List Ins} (h : AtIdx l ps i v f done) (hi : 1 ≤ i) (hl : i + 1 = ps.length) (he : ¬ps.getD i [] = []) : parseD l = .error (i + 1) := by
  rcases h with h | ⟨_, h⟩
  · omega
  · rw [h, drop_last hl, bodyD, if_neg he]
theorem AtIdx.none {l : Byt} {ps : List Byt} {i : Nat} {v f : Int} {done : List Ins} (h : AtIdx l ps i v f done) (hi : 1 ≤ i) (hl : i + 1 < ps.length) (hh : instrD (ps.getD i []) = none) : parseD l = .error (i + 1) := by
  obtain ⟨h1, h2⟩ := drop_two hl
  rcases h with h | ⟨_, h⟩
  · omega
  · rw [h, h1, bodyD_cons h2, hh]
theorem AtIdx.some {l : Byt} {ps : List Byt} {i : Nat} {v f : Int} {done : List Ins} {x : Ins} (h : AtIdx l ps i v f done) (hi : 1 ≤ i) (hl : i + 1 < ps.length) (hh : instrD (ps.getD i []) = some x) : AtIdx l ps (i + 1) v f (done ++ [x]) := by
  obtain ⟨h1, h2⟩ := drop_two hl
  rcases h with h | ⟨_, h⟩
  · omega
  · refine .inr ⟨by omega, ?_⟩
    rw [h, h1, bodyD_cons h2, hh]
    dsimp only
    cases bodyD (i + 1 + 1) (ps.drop (i + 1)) <;> simp
theorem rinstrL (l : Byt) (hl : l.length ≤ 1000000) (w : World) :
    Calls Tryd.prog 22 #[strV l] w fun e w' => ∃ i : Ins, e = .returned (.tuple #[i.v, .bool (instrD l).isSome]) ∧ (∀ j, instrD l = some j → i = j) ∧ Below w.heap.size w w' := by
  have h := rInstr_any ⟨l.toArray⟩ (by show l.toArray.size ≤ _; simpa using hl) w
  simpa using h
theorem rcutL (l : Byt) (ci : Int) (c : UInt8) (hci : ci = (c.toNat : Int)) (hl : l.length ≤ 1000000) (w : World) :
    Calls Tryd.prog 20 #[strV l, .int .u8 ci] w fun e w' => ∃ (p : Option Addr) (n cap : Nat) (R : List LBlk), e = .returned (.slice p n cap) ∧ RowS 9 1 p n cap ((pieces c l).map strV) R ∧ Loc w w' R [] := by
  have h := rCut_any ⟨l.toArray⟩ ci c hci (by show l.toArray.size ≤ _; simpa using hl) w
  simpa using h

set_option maxRecDepth 100000 in
set_option maxHeartbeats 1600000 in
theorem rParse_any (s : ByteArray) (w : World) (hm : s.size ≤ 9223372036854775807) :
    Calls Tryd.prog 7 #[.string s] w fun e w' => Parsed w s.data.toList e w' := by
  have hln : s.data.toList.length = s.size := Array.length_toList
  have hL := Loc.start w
  go_enter Tryd.func7, Tryd.ntmps7
  by_cases hbig : 4000 < s.size
  · have HB := Lib.hid (show progD s.data.toList = (none, 0, 2) by unfold progD; rw [if_pos (by omega)])
    have hd : decide (4000 < (s.size : Int)) = true := by simp; omega
    go_wp2_with (first | (with_reducible first | refine lld hL ?_ | ((first | refine lbx hL ?_ | refine lal hL ?_ | refine lbs hL ?_); clear hL; intro bl w1 hL) | (refine lst' hL ?_; clear hL; intro w1 hL)))
    (try simp only [Exit.inBlock, Exit.then]); refine rt3 ?_
    exact Parsed.bad HB.out hL.below
  have hd : decide (4000 < (s.size : Int)) = false := by simp; omega
  have hl : s.data.toList.length ≤ 4000 := by omega
  have HC := Lib.hid (fun w' => rCut_any s 10 10 rfl (by omega) w')
  obtain ⟨ps, hps⟩ : ∃ ps, pieces 10 s.data.toList = ps := ⟨_, rfl⟩
  have HPS := Lib.hid hps
  have hmc := pieces_count 10 s.data.toList
  have hml : 0 < ps.length := by rw [← hps]; exact List.length_pos_iff.2 (pieces_ne _ _)
  have HLN := Lib.hid (fun p (hp : p ∈ pieces 10 s.data.toList) => Nat.le_trans (pieces_len hp) hl)
  rw [hps] at HC hmc HLN
  have hm1 : ps.length ≤ 4001 := by omega
  clear hps hmc
  go_upto_region 3 with (first | ((with_reducible refine lal hL ?_); clear hL; intro b2 w1 hL) | (with_reducible first | refine lld hL ?_ | ((first | refine lbx hL ?_ | refine lal hL ?_ | refine lbs hL ?_); clear hL; intro bl w1 hL) | (refine lst' hL ?_; clear hL; intro w1 hL)))
  clear hd
  go_wp2_with (first | (go_at_call 20; refine (HC.out _).mono ?_; rintro e w3 ⟨p1, n1, cap1, R1, rfl, hR1, hq⟩; replace hL := hL.gave hq; clear hq; simp only [List.nil_append, List.append_nil, List.cons_append] at hL; dsimp only) | ((with_reducible refine lal hL ?_); clear hL; intro b6 w1 hL) | (with_reducible first | refine lld hL ?_ | ((first | refine lbx hL ?_ | refine lal hL ?_ | refine lbs hL ?_); clear hL; intro bl w1 hL) | (refine lst' hL ?_; clear hL; intro w1 hL)))
  obtain rfl : n1 = ps.length := by have := hR1.1; simpa using this.symm
  obtain ⟨g1, cs1, rfl, rfl, -, htk⟩ := hR1.blk hml
  have HTK := Lib.hid (fun k (hk : k < ps.length) => str_row (ps := ps) htk hk)
  clear hR1 htk
  go_loopw [7] (fun c wr => ∃ (i : Nat) (v f : Int) (done : List Ins) (pc : Option Addr) (cap : Nat) (R : List LBlk), i < ps.length ∧ c = .int .i64 i ∧ done.length ≤ i ∧ AtIdx s.data.toList ps i v f done ∧ RowS 47 6 pc done.length cap (done.flatMap Ins.cells) R ∧ Loc w wr ([(b6, 24, [.int .i64 v, .int .i64 f, .slice pc done.length cap]), (b2, 24, [.int .i64 0, .int .i64 0, .slice none 0 0]), (g1, 9, cs1)] ++ R) []) (fun c _ => ps.length - (intOf c).toNat)
  case atStart => exact ⟨0, 0, 0, [], none, 0, [], hml, rfl, Nat.le_refl _, .inl ⟨rfl, rfl, rfl, rfl⟩, RowS.nil, hL⟩
  case round =>
    clear hL
    obtain ⟨i, v, f, done, pc, cap, R, hi, rfl, hdn, hat, hR, hL⟩ := hrel
    simp only [List.cons_append, List.nil_append] at hL
    have HAT := Lib.hid hat
    have HR := Lib.hid hR
    have HRD := Lib.hid (HTK.out i hi)
    have hlen := HLN.out (ps.getD i []) (by rw [List.getD_eq_getElem?_getD, List.getElem?_eq_getElem hi]; exact List.getElem_mem hi)
    clear hat hR
    rcases Nat.eq_zero_or_pos i with rfl | hi1
    · obtain ⟨rfl, rfl, rfl⟩ : v = 0 ∧ f = 0 ∧ done = [] := by
        rcases HAT.out with ⟨_, h4, h5, h6⟩ | ⟨h3, _⟩
        · exact ⟨h4, h5, h6⟩
        · omega
      have e0 : ((0 : Nat) : Int) = 0 := rfl
      simp only [e0]
      have HC2 := Lib.hid (fun w' => rcutL (ps.getD 0 []) 32 32 rfl (by omega) w')
      have hne := pieces_ne 32 (ps.getD 0 [])
      have hqc := pieces_count 32 (ps.getD 0 [])
      have hql : ∀ q ∈ pieces 32 (ps.getD 0 []), q.length ≤ 4000 := fun q hq => Nat.le_trans (pieces_len hq) hlen
      have HH := Lib.hid (show headD (ps.getD 0 []) = headW (pieces 32 (ps.getD 0 [])) from rfl)
      by_cases hlast : 0 + 1 = ps.length
      · have hlb : ((0 : Int) == ((ps.length : Int) - 1)) = true := by rw [beq_iff_eq]; omega
        have HB := Lib.hid (progD_error hl (idx_first_last HPS.out hlast))
        have hqn : 0 < (pieces 32 (ps.getD 0 [])).length := List.length_pos_iff.2 hne
        clear HH
        generalize pieces 32 (ps.getD 0 []) = qs at HC2 hqn hqc hql
        generalize ps.getD 0 [] = li at HRD HC2
        clear hne hqc hql hlast
        go_wp2_with (first | (go_at_call 20; refine (HC2.out _).mono ?_; rintro e w3 ⟨p2, n2, cap2, R2, rfl, hR2, hq⟩; obtain rfl : n2 = qs.length := (by have := hR2.1; simpa using this.symm); obtain ⟨g2, cs2, rfl, rfl, -, htk2⟩ := hR2.blk (by omega); have HTK2 := Lib.hid htk2; clear hR2 htk2; replace hL := (hL.gave hq).fact (S := HeapAt g2 9 cs2) (fun w' h => h _ List.mem_cons_self); clear hq; simp only [List.append_nil, List.nil_append] at hL; dsimp only) | (refine loc_load (b := g1) hL rfl rfl (by repeat (first | exact InL.head | apply InL.tail)) (Reads.cell tStr (HRD.out)) ?_) | (with_reducible first | refine lld hL ?_ | ((first | refine lbx hL ?_ | refine lal hL ?_ | refine lbs hL ?_); clear hL; intro bl w1 hL) | (refine lst' hL ?_; clear hL; intro w1 hL)))
        (try simp only [Exit.inBlock, Exit.then]); refine rt3 ?_
        exact Parsed.bad HB.out hL.below
      · have hlb : ((0 : Int) == ((ps.length : Int) - 1)) = false := by rw [beq_eq_false_iff_ne]; omega
        have hi2 : 0 + 1 < ps.length := by omega
        have HEN := Lib.hid (fun h : headD (ps.getD 0 []) = none => progD_error hl (idx_first_none HPS.out hi2 h))
        have HES := Lib.hid (fun v f (h : headD (ps.getD 0 []) = some (v, f)) => idx_first_some HPS.out hi2 h)
        rw [HH.out] at HEN HES
        have hqn : 0 < (pieces 32 (ps.getD 0 [])).length := List.length_pos_iff.2 hne
        clear HH hlast e0
        generalize pieces 32 (ps.getD 0 []) = qs at HC2 hqn hqc hql HEN HES
        generalize ps.getD 0 [] = li at HRD HC2 hqc hlen
        clear hne
        by_cases h4 : qs.length = 4
        · obtain ⟨a, b, c, d, rfl⟩ := four h4
          clear h4 hqn hqc
          have HUB := Lib.hid (fun w' => undigL b (by have := hql b (by simp); omega) w')
          have HUD := Lib.hid (fun w' => undigL d (by have := hql d (by simp); omega) w')
          rw [und_num] at HUB HUD
          clear hql
          by_cases hac : a = varsW ∧ c = fieldsW
          · obtain ⟨rfl, rfl⟩ := hac
            have HQ1 := Lib.hid (headW_yes b d)
            have HQ2 := Lib.hid (headW_val (b := b) (d := d))
            have HVB := Lib.hid (fun h : numB b = true => undV_num h)
            have HVD := Lib.hid (fun h : numB d = true => undV_num h)
            generalize undV b = vb at HUB HVB
            generalize undV d = vd at HUD HVD
            generalize hnb : numB b = nb at HUB HQ1 HVB
            generalize hnd : numB d = nd at HUD HQ1 HVD
            clear hnb hnd
            cases nb <;> cases nd
            · have HB := Lib.hid (HEN.out (by cases h : headW [varsW, b, fieldsW, d] with | none => rfl | some q => (have h2 := HQ1.out; rw [h] at h2; cases h2)))
              go_wp2_with (first | (go_at_call 20; refine (HC2.out _).mono ?_; rintro e w3 ⟨p2, n2, cap2, R2, rfl, hR2, hq⟩; obtain rfl : n2 = 4 := (by have := hR2.1; simpa using this.symm); obtain ⟨g2, cs2, rfl, rfl, -, htk2⟩ := hR2.blk (by omega); have HTK2 := Lib.hid htk2; clear hR2 htk2; replace hL := (hL.gave hq).fact (S := HeapAt g2 9 cs2) (fun w' h => h _ List.mem_cons_self); clear hq; simp only [List.append_nil, List.nil_append] at hL; dsimp only) | (refine loc_load (b := g1) hL rfl rfl (by repeat (first | exact InL.head | apply InL.tail)) (Reads.cell tStr (HRD.out)) ?_) | (refine' loc_loadD hL ?_ rfl List.mem_cons_self (Reads.cell tStr (str_row (ps := [varsW, b, fieldsW, d]) HTK2.out (k := 0) (by simp))) ?_; (case refine'_1 => exact cWant)) | (refine' loc_loadD hL ?_ rfl List.mem_cons_self (Reads.cell tStr (str_row (ps := [varsW, b, fieldsW, d]) HTK2.out (k := 1) (by simp))) ?_; (case refine'_1 => exact cWant)) | (refine' loc_loadD hL ?_ rfl List.mem_cons_self (Reads.cell tStr (str_row (ps := [varsW, b, fieldsW, d]) HTK2.out (k := 2) (by simp))) ?_; (case refine'_1 => exact cWant)) | (refine' loc_loadD hL ?_ rfl List.mem_cons_self (Reads.cell tStr (str_row (ps := [varsW, b, fieldsW, d]) HTK2.out (k := 3) (by simp))) ?_; (case refine'_1 => exact cWant)) | (go_at_call 21; first | ((with_reducible refine (HUB.out _).mono ?_); rintro e w1 ⟨rfl, hb⟩; replace hL := hL.grow hb; clear hb; dsimp only) | ((with_reducible refine (HUD.out _).mono ?_); rintro e w1 ⟨rfl, hb⟩; replace hL := hL.grow hb; clear hb; dsimp only)) | (with_reducible first | refine lld hL ?_ | ((first | refine lbx hL ?_ | refine lal hL ?_ | refine lbs hL ?_); clear hL; intro bl w1 hL) | (refine lst' hL ?_; clear hL; intro w1 hL)))
              (try simp only [Exit.inBlock, Exit.then]); refine rt3 ?_
              exact Parsed.bad HB.out hL.below
            · have HB := Lib.hid (HEN.out (by cases h : headW [varsW, b, fieldsW, d] with | none => rfl | some q => (have h2 := HQ1.out; rw [h] at h2; cases h2)))
              go_wp2_with (first | (go_at_call 20; refine (HC2.out _).mono ?_; rintro e w3 ⟨p2, n2, cap2, R2, rfl, hR2, hq⟩; obtain rfl : n2 = 4 := (by have := hR2.1; simpa using this.symm); obtain ⟨g2, cs2, rfl, rfl, -, htk2⟩ := hR2.blk (by omega); have HTK2 := Lib.hid htk2; clear hR2 htk2; replace hL := (hL.gave hq).fact (S := HeapAt g2 9 cs2) (fun w' h => h _ List.mem_cons_self); clear hq; simp only [List.append_nil, List.nil_append] at hL; dsimp only) | (refine loc_load (b := g1) hL rfl rfl (by repeat (first | exact InL.head | apply InL.tail)) (Reads.cell tStr (HRD.out)) ?_) | (refine' loc_loadD hL ?_ rfl List.mem_cons_self (Reads.cell tStr (str_row (ps := [varsW, b, fieldsW, d]) HTK2.out (k := 0) (by simp))) ?_; (case refine'_1 => exact cWant)) | (refine' loc_loadD hL ?_ rfl List.mem_cons_self (Reads.cell tStr (str_row (ps := [varsW, b, fieldsW, d]) HTK2.out (k := 1) (by simp))) ?_; (case refine'_1 => exact cWant)) | (refine' loc_loadD hL ?_ rfl List.mem_cons_self (Reads.cell tStr (str_row (ps := [varsW, b, fieldsW, d]) HTK2.out (k := 2) (by simp))) ?_; (case refine'_1 => exact cWant)) | (refine' loc_loadD hL ?_ rfl List.mem_cons_self (Reads.cell tStr (str_row (ps := [varsW, b, fieldsW, d]) HTK2.out (k := 3) (by simp))) ?_; (case refine'_1 => exact cWant)) | (go_at_call 21; first | ((with_reducible refine (HUB.out _).mono ?_); rintro e w1 ⟨rfl, hb⟩; replace hL := hL.grow hb; clear hb; dsimp only) | ((with_reducible refine (HUD.out _).mono ?_); rintro e w1 ⟨rfl, hb⟩; replace hL := hL.grow hb; clear hb; dsimp only)) | (with_reducible first | refine lld hL ?_ | ((first | refine lbx hL ?_ | refine lal hL ?_ | refine lbs hL ?_); clear hL; intro bl w1 hL) | (refine lst' hL ?_; clear hL; intro w1 hL)))
              (try simp only [Exit.inBlock, Exit.then]); refine rt3 ?_
              exact Parsed.bad HB.out hL.below
            · have HB := Lib.hid (HEN.out (by cases h : headW [varsW, b, fieldsW, d] with | none => rfl | some q => (have h2 := HQ1.out; rw [h] at h2; cases h2)))
              go_wp2_with (first | (go_at_call 20; refine (HC2.out _).mono ?_; rintro e w3 ⟨p2, n2, cap2, R2, rfl, hR2, hq⟩; obtain rfl : n2 = 4 := (by have := hR2.1; simpa using this.symm); obtain ⟨g2, cs2, rfl, rfl, -, htk2⟩ := hR2.blk (by omega); have HTK2 := Lib.hid htk2; clear hR2 htk2; replace hL := (hL.gave hq).fact (S := HeapAt g2 9 cs2) (fun w' h => h _ List.mem_cons_self); clear hq; simp only [List.append_nil, List.nil_append] at hL; dsimp only) | (refine loc_load (b := g1) hL rfl rfl (by repeat (first | exact InL.head | apply InL.tail)) (Reads.cell tStr (HRD.out)) ?_) | (refine' loc_loadD hL ?_ rfl List.mem_cons_self (Reads.cell tStr (str_row (ps := [varsW, b, fieldsW, d]) HTK2.out (k := 0) (by simp))) ?_; (case refine'_1 => exact cWant)) | (refine' loc_loadD hL ?_ rfl List.mem_cons_self (Reads.cell tStr (str_row (ps := [varsW, b, fieldsW, d]) HTK2.out (k := 1) (by simp))) ?_; (case refine'_1 => exact cWant)) | (refine' loc_loadD hL ?_ rfl List.mem_cons_self (Reads.cell tStr (str_row (ps := [varsW, b, fieldsW, d]) HTK2.out (k := 2) (by simp))) ?_; (case refine'_1 => exact cWant)) | (refine' loc_loadD hL ?_ rfl List.mem_cons_self (Reads.cell tStr (str_row (ps := [varsW, b, fieldsW, d]) HTK2.out (k := 3) (by simp))) ?_; (case refine'_1 => exact cWant)) | (go_at_call 21; first | ((with_reducible refine (HUB.out _).mono ?_); rintro e w1 ⟨rfl, hb⟩; replace hL := hL.grow hb; clear hb; dsimp only) | ((with_reducible refine (HUD.out _).mono ?_); rintro e w1 ⟨rfl, hb⟩; replace hL := hL.grow hb; clear hb; dsimp only)) | (with_reducible first | refine lld hL ?_ | ((first | refine lbx hL ?_ | refine lal hL ?_ | refine lbs hL ?_); clear hL; intro bl w1 hL) | (refine lst' hL ?_; clear hL; intro w1 hL)))
              (try simp only [Exit.inBlock, Exit.then]); refine rt3 ?_
              exact Parsed.bad HB.out hL.below
            · have HS := Lib.hid (show AtIdx s.data.toList ps 1 vb vd [] by
                cases h : headW [varsW, b, fieldsW, d] with
                | none => have h2 := HQ1.out; rw [h] at h2; cases h2
                | some q =>
                  obtain ⟨q1, q2⟩ := q
                  obtain ⟨rfl, rfl⟩ := HQ2.out q1 q2 h
                  rw [HVB.out rfl, HVD.out rfl]
                  exact HES.out _ _ h)
              go_wp2_with (first | (go_at_call 20; refine (HC2.out _).mono ?_; rintro e w3 ⟨p2, n2, cap2, R2, rfl, hR2, hq⟩; obtain rfl : n2 = 4 := (by have := hR2.1; simpa using this.symm); obtain ⟨g2, cs2, rfl, rfl, -, htk2⟩ := hR2.blk (by omega); have HTK2 := Lib.hid htk2; clear hR2 htk2; replace hL := (hL.gave hq).fact (S := HeapAt g2 9 cs2) (fun w' h => h _ List.mem_cons_self); clear hq; simp only [List.append_nil, List.nil_append] at hL; dsimp only) | (refine loc_load (b := g1) hL rfl rfl (by repeat (first | exact InL.head | apply InL.tail)) (Reads.cell tStr (HRD.out)) ?_) | (refine' loc_loadD hL ?_ rfl List.mem_cons_self (Reads.cell tStr (str_row (ps := [varsW, b, fieldsW, d]) HTK2.out (k := 0) (by simp))) ?_; (case refine'_1 => exact cWant)) | (refine' loc_loadD hL ?_ rfl List.mem_cons_self (Reads.cell tStr (str_row (ps := [varsW, b, fieldsW, d]) HTK2.out (k := 1) (by simp))) ?_; (case refine'_1 => exact cWant)) | (refine' loc_loadD hL ?_ rfl List.mem_cons_self (Reads.cell tStr (str_row (ps := [varsW, b, fieldsW, d]) HTK2.out (k := 2) (by simp))) ?_; (case refine'_1 => exact cWant)) | (refine' loc_loadD hL ?_ rfl List.mem_cons_self (Reads.cell tStr (str_row (ps := [varsW, b, fieldsW, d]) HTK2.out (k := 3) (by simp))) ?_; (case refine'_1 => exact cWant)) | (go_at_call 21; first | ((with_reducible refine (HUB.out _).mono ?_); rintro e w1 ⟨rfl, hb⟩; replace hL := hL.grow hb; clear hb; dsimp only) | ((with_reducible refine (HUD.out _).mono ?_); rintro e w1 ⟨rfl, hb⟩; replace hL := hL.grow hb; clear hb; dsimp only)) | (with_reducible first | refine lld hL ?_ | ((first | refine lbx hL ?_ | refine lal hL ?_ | refine lbs hL ?_); clear hL; intro bl w1 hL) | (refine lst' hL ?_; clear hL; intro w1 hL)))
              go_roundw
              case rel => exact ⟨1, vb, vd, [], pc, cap, R, hi2, rfl, Nat.zero_le _, HS.out, HR.out, hL.drop (List.Sublist.refl _) (fun _ h => by cases h)⟩
              case measure => simp [intOf]; omega
          · have HB := Lib.hid (HEN.out (headW_no (b := b) (d := d) hac))
            have hae : (a == [118, 97, 114, 115]) = false ∨ ((a == [118, 97, 114, 115]) = true ∧ (c == [102, 105, 101, 108, 100, 115]) = false) := by
              by_cases h : a = varsW
              · exact .inr ⟨by subst h; rfl, by rw [beq_eq_false_iff_ne]; exact fun h2 => hac ⟨h, h2⟩⟩
              · exact .inl (by rw [beq_eq_false_iff_ne]; exact h)
            clear hac
            rcases hae with h1 | ⟨h1, h2⟩
            all_goals
              go_wp2_with (first | (go_at_call 20; refine (HC2.out _).mono ?_; rintro e w3 ⟨p2, n2, cap2, R2, rfl, hR2, hq⟩; obtain rfl : n2 = 4 := (by have := hR2.1; simpa using this.symm); obtain ⟨g2, cs2, rfl, rfl, -, htk2⟩ := hR2.blk (by omega); have HTK2 := Lib.hid htk2; clear hR2 htk2; replace hL := (hL.gave hq).fact (S := HeapAt g2 9 cs2) (fun w' h => h _ List.mem_cons_self); clear hq; simp only [List.append_nil, List.nil_append] at hL; dsimp only) | (refine loc_load (b := g1) hL rfl rfl (by repeat (first | exact InL.head | apply InL.tail)) (Reads.cell tStr (HRD.out)) ?_) | (refine' loc_loadD hL ?_ rfl List.mem_cons_self (Reads.cell tStr (str_row (ps := [a, b, c, d]) HTK2.out (k := 0) (by simp))) ?_; (case refine'_1 => exact cWant)) | (refine' loc_loadD hL ?_ rfl List.mem_cons_self (Reads.cell tStr (str_row (ps := [a, b, c, d]) HTK2.out (k := 1) (by simp))) ?_; (case refine'_1 => exact cWant)) | (refine' loc_loadD hL ?_ rfl List.mem_cons_self (Reads.cell tStr (str_row (ps := [a, b, c, d]) HTK2.out (k := 2) (by simp))) ?_; (case refine'_1 => exact cWant)) | (refine' loc_loadD hL ?_ rfl List.mem_cons_self (Reads.cell tStr (str_row (ps := [a, b, c, d]) HTK2.out (k := 3) (by simp))) ?_; (case refine'_1 => exact cWant)) | (with_reducible first | refine lld hL ?_ | ((first | refine lbx hL ?_ | refine lal hL ?_ | refine lbs hL ?_); clear hL; intro bl w1 hL) | (refine lst' hL ?_; clear hL; intro w1 hL)))
              (try simp only [Exit.inBlock, Exit.then]); refine rt3 ?_
              exact Parsed.bad HB.out hL.below
        · have HB := Lib.hid (HEN.out (headW_four h4))
          have h4b : ((qs.length : Int) == 4) = false := by rw [beq_eq_false_iff_ne]; omega
          clear h4
          go_wp2_with (first | (go_at_call 20; refine (HC2.out _).mono ?_; rintro e w3 ⟨p2, n2, cap2, R2, rfl, hR2, hq⟩; obtain rfl : n2 = qs.length := (by have := hR2.1; simpa using this.symm); obtain ⟨g2, cs2, rfl, rfl, -, htk2⟩ := hR2.blk (by omega); have HTK2 := Lib.hid htk2; clear hR2 htk2; replace hL := (hL.gave hq).fact (S := HeapAt g2 9 cs2) (fun w' h => h _ List.mem_cons_self); clear hq; simp only [List.append_nil, List.nil_append] at hL; dsimp only) | (refine loc_load (b := g1) hL rfl rfl (by repeat (first | exact InL.head | apply InL.tail)) (Reads.cell tStr (HRD.out)) ?_) | (with_reducible first | refine lld hL ?_ | ((first | refine lbx hL ?_ | refine lal hL ?_ | refine lbs hL ?_); clear hL; intro bl w1 hL) | (refine lst' hL ?_; clear hL; intro w1 hL)))
          (try simp only [Exit.inBlock, Exit.then]); refine rt3 ?_
          exact Parsed.bad HB.out hL.below
    · have hib : ((i : Int) == 0) = false := by rw [beq_eq_false_iff_ne]; omega
      by_cases hlast : i + 1 = ps.length
      · have hlb : ((i : Int) == ((ps.length : Int) - 1)) = true := by rw [beq_iff_eq]; omega
        by_cases he : ps.getD i [] = []
        · have HOK := Lib.hid (HAT.out.done hi1 hlast he)
          have HCK := Lib.hid (fun w' (hc : CodeAt w' ⟨v, f, pc, done.length, cap⟩ (insAt done)) => rCheckProgram_any ⟨v, f, pc, done.length, cap⟩ (insAt done) w' hc (by show done.length ≤ _; omega))
          rw [show checkProg ⟨v, f, pc, done.length, cap⟩ (insAt done) = checkL v f done from rfl] at HCK
          rw [he] at HRD
          clear he hlen
          go_upto_region 24 with (first | (refine loc_load (b := g1) hL rfl rfl (by repeat (first | exact InL.head | apply InL.tail)) (Reads.cell tStr (HRD.out)) ?_) | (with_reducible first | refine lld hL ?_ | ((first | refine lbx hL ?_ | refine lal hL ?_ | refine lbs hL ?_); clear hL; intro bl w1 hL) | (refine lst' hL ?_; clear hL; intro w1 hL)))
          clear hlb hib
          by_cases hz : checkL v f done = 0
          · have HB := Lib.hid (progD_ok hl HOK.out hz)
            rw [hz] at HCK
            clear hz
            go_wp2_with (first | (go_at_call 12; refine (HCK.out _ (HR.out.code (hL.ownOf (List.sublist_append_right [_, _, _] R)))).mono ?_; rintro e w1 ⟨rfl, hb⟩; replace hL := hL.grow hb; clear hb; dsimp only) | (with_reducible first | refine lld hL ?_ | ((first | refine lbx hL ?_ | refine lal hL ?_ | refine lbs hL ?_); clear hL; intro bl w1 hL) | (refine lst' hL ?_; clear hL; intro w1 hL)))
            (try simp only [Exit.inBlock, Exit.then]); refine rt3 ?_
            exact ⟨⟨v, f, pc, done.length, cap⟩, done, by rw [HB.out]; rfl, ⟨rfl, by show done.length ≤ _; omega, HR.out.code (hL.ownOf (List.sublist_append_right [_, _, _] R))⟩, hL.below, fun h => (by rw [HB.out] at h; cases h), fun g js h => (by rw [HB.out] at h; cases h; exact ⟨rfl, rfl, rfl⟩)⟩
          · have HB := Lib.hid (progD_bad hl HOK.out hz)
            have hzb : (checkL v f done != 0) = true := by simpa using hz
            generalize checkL v f done = ck at HB HCK hzb
            clear hz
            go_wp2_with (first | (go_at_call 12; refine (HCK.out _ (HR.out.code (hL.ownOf (List.sublist_append_right [_, _, _] R)))).mono ?_; rintro e w1 ⟨rfl, hb⟩; replace hL := hL.grow hb; clear hb; dsimp only) | (with_reducible first | refine lld hL ?_ | ((first | refine lbx hL ?_ | refine lal hL ?_ | refine lbs hL ?_); clear hL; intro bl w1 hL) | (refine lst' hL ?_; clear hL; intro w1 hL)))
            (try simp only [Exit.inBlock, Exit.then]); refine rt3 ?_
            exact Parsed.bad HB.out hL.below
        · have HB := Lib.hid (show progD s.data.toList = (none, (i : Int) + 1, 1) from progD_error hl (HAT.out.last hi1 hlast he))
          have hie : (ps.getD i []).isEmpty = false := by simpa using he
          have HI := Lib.hid (fun w' => rinstrL (ps.getD i []) (by omega) w')
          generalize ps.getD i [] = li at HRD hie HI
          generalize (instrD li).isSome = iss at HI
          clear he hlen
          go_wp2_with (first | (go_at_call 22; refine (HI.out _).mono ?_; rintro e w3 ⟨⟨xk, xt, xa, xb, xn, xg⟩, rfl, hxi, hb⟩; have HXI := Lib.hid hxi; clear hxi; replace hL := hL.grow hb; clear hb; dsimp only) | ((with_reducible refine lal hL ?_); clear hL; intro bi w1 hL) | (refine loc_appendS (z := [.int .i64 0, .int .i64 0, .int .i64 0, .int .i64 0, .int .i64 0, .int .i64 0]) (K := _ :: _ :: _ :: _ :: _ :: []) (R := R) (news := Ins.cells ⟨xk, xt, xa, xb, xn, xg⟩) HR.out hL rfl rfl rfl sInstrs bInstr (by decide) rfl (fun _ => ⟨⟨bl, 0, none⟩, rfl, fun j u hj => by rw [add_addr, Nat.zero_add]; exact heap_cell (hL.heap (by repeat (first | exact InL.head | apply InL.tail))) j hj⟩) rfl (by simp [Value.oneCell']) (by have : maxLen = 9223372036854775807 := rfl; omega) (by omega) ?_; clear hL; intro p5 cap5 R5 w5 hS5 hL; simp only [List.cons_append, List.nil_append] at hL; have HS5 := Lib.hid hS5; clear hS5) | (refine loc_load (b := g1) hL rfl rfl (by repeat (first | exact InL.head | apply InL.tail)) (Reads.cell tStr (HRD.out)) ?_) | (with_reducible first | refine lld hL ?_ | ((first | refine lbx hL ?_ | refine lal hL ?_ | refine lbs hL ?_); clear hL; intro bl w1 hL) | (refine lst' hL ?_; clear hL; intro w1 hL)))
          (try simp only [Exit.inBlock, Exit.then]); refine rt3 ?_
          exact Parsed.bad HB.out hL.below
      · have hlb : ((i : Int) == ((ps.length : Int) - 1)) = false := by rw [beq_eq_false_iff_ne]; omega
        have hi2 : i + 1 < ps.length := by omega
        have HI := Lib.hid (fun w' => rinstrL (ps.getD i []) (by omega) w')
        cases hh : instrD (ps.getD i []) with
        | none =>
          have HB := Lib.hid (show progD s.data.toList = (none, (i : Int) + 1, 1) from progD_error hl (HAT.out.none hi1 hi2 hh))
          rw [hh] at HI
          generalize ps.getD i [] = li at HRD HI
          clear hh hlen hlast
          go_wp2_with (first | (go_at_call 22; refine (HI.out _).mono ?_; rintro e w3 ⟨⟨xk, xt, xa, xb, xn, xg⟩, rfl, hxi, hb⟩; have HXI := Lib.hid hxi; clear hxi; replace hL := hL.grow hb; clear hb; dsimp only) | ((with_reducible refine lal hL ?_); clear hL; intro bi w1 hL) | (refine loc_appendS (z := [.int .i64 0, .int .i64 0, .int .i64 0, .int .i64 0, .int .i64 0, .int .i64 0]) (K := _ :: _ :: _ :: _ :: _ :: []) (R := R) (news := Ins.cells ⟨xk, xt, xa, xb, xn, xg⟩) HR.out hL rfl rfl rfl sInstrs bInstr (by decide) rfl (fun _ => ⟨⟨bl, 0, none⟩, rfl, fun j u hj => by rw [add_addr, Nat.zero_add]; exact heap_cell (hL.heap (by repeat (first | exact InL.head | apply InL.tail))) j hj⟩) rfl (by simp [Value.oneCell']) (by have : maxLen = 9223372036854775807 := rfl; omega) (by omega) ?_; clear hL; intro p5 cap5 R5 w5 hS5 hL; simp only [List.cons_append, List.nil_append] at hL; have HS5 := Lib.hid hS5; clear hS5) | (refine loc_load (b := g1) hL rfl rfl (by repeat (first | exact InL.head | apply InL.tail)) (Reads.cell tStr (HRD.out)) ?_) | (with_reducible first | refine lld hL ?_ | ((first | refine lbx hL ?_ | refine lal hL ?_ | refine lbs hL ?_); clear hL; intro bl w1 hL) | (refine lst' hL ?_; clear hL; intro w1 hL)))
          (try simp only [Exit.inBlock, Exit.then]); refine rt3 ?_
          exact Parsed.bad HB.out hL.below
        | some x =>
          have HA := Lib.hid (HAT.out.some hi1 hi2 hh)
          rw [hh] at HI
          generalize ps.getD i [] = li at HRD HI
          clear hh hlen hlast
          go_wp2_with (first | (go_at_call 22; refine (HI.out _).mono ?_; rintro e w3 ⟨⟨xk, xt, xa, xb, xn, xg⟩, rfl, hxi, hb⟩; have HXI := Lib.hid hxi; clear hxi; replace hL := hL.grow hb; clear hb; dsimp only) | ((with_reducible refine lal hL ?_); clear hL; intro bi w1 hL) | (refine loc_appendS (z := [.int .i64 0, .int .i64 0, .int .i64 0, .int .i64 0, .int .i64 0, .int .i64 0]) (K := _ :: _ :: _ :: _ :: _ :: []) (R := R) (news := Ins.cells ⟨xk, xt, xa, xb, xn, xg⟩) HR.out hL rfl rfl rfl sInstrs bInstr (by decide) rfl (fun _ => ⟨⟨bl, 0, none⟩, rfl, fun j u hj => by rw [add_addr, Nat.zero_add]; exact heap_cell (hL.heap (by repeat (first | exact InL.head | apply InL.tail))) j hj⟩) rfl (by simp [Value.oneCell']) (by have : maxLen = 9223372036854775807 := rfl; omega) (by omega) ?_; clear hL; intro p5 cap5 R5 w5 hS5 hL; simp only [List.cons_append, List.nil_append] at hL; have HS5 := Lib.hid hS5; clear hS5) | (refine loc_load (b := g1) hL rfl rfl (by repeat (first | exact InL.head | apply InL.tail)) (Reads.cell tStr (HRD.out)) ?_) | (with_reducible first | refine lld hL ?_ | ((first | refine lbx hL ?_ | refine lal hL ?_ | refine lbs hL ?_); clear hL; intro bl w1 hL) | (refine lst' hL ?_; clear hL; intro w1 hL)))
          go_roundw
          case rel =>
            refine ⟨i + 1, v, f, done ++ [x], p5, cap5, R5, hi2, by go_num, by simp; omega, HA.out, ?_, ?_⟩
            · obtain rfl := HXI.out x rfl
              rw [List.flatMap_append, List.length_append]
              simpa using HS5.out
            · rw [List.length_append]
              exact hL.drop (.cons _ (.cons _ (List.Sublist.refl _))) (fun _ h => h)
          case measure => simp [intOf]; omega
end Go.Proofs.YtdghcnopoanieaaDoor
