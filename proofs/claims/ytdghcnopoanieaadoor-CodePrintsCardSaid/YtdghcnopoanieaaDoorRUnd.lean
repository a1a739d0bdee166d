/- The walk over the reference's Undigit: the number that a text spells. Conditions: the text is not too long. -/
import Derived.Lib.Strings
import Derived.Lib.AtoiErr
import Derived.Test.YtdghcnopoanieaaDoorSeqP
import Derived.Test.YtdghcnopoanieaaDoorRefDig
set_option linter.unusedSimpArgs false
set_option linter.unusedVariables false
namespace Go.Proofs.YtdghcnopoanieaaDoor
open Go.RowKit

set_option maxRecDepth 100000 in
set_option maxHeartbeats 1600000 in
theorem rUndigit_any (s : ByteArray) (hs : s.size ≤ 1000000) (w : World) :
    Calls Tryd.prog 21 #[.string s] w fun e w' => e = .returned (.tuple #[.int .i64 (undV s.data.toList), .bool (undB s.data.toList)]) ∧ Below w.heap.size w w' := by
  have hln : s.data.toList.length = s.size := Array.length_toList
  have hL := Loc.start w
  go_enter Tryd.func21, Tryd.ntmps21
  rcases Nat.eq_zero_or_pos s.size with h0 | h0
  · have hnil : s.data.toList = [] := List.length_eq_zero_iff.1 (by omega)
    have he : s.toList.isEmpty = true := by rw [Lib.toList_data, hnil]; rfl
    have HV := Lib.hid (show undV s.data.toList = 0 by rw [hnil]; rfl)
    have HB := Lib.hid (show undB s.data.toList = false by rw [hnil]; rfl)
    clear hnil
    go_wp2
    (try simp only [Exit.inBlock, Exit.then]); refine rt2 ?_
    exact ⟨by rw [HV.out, HB.out]; rfl, hL.below⟩
  · by_cases hb : s[0] = 45
    · have hbe : ((s[0].toNat : Int) == 45) = true := by rw [hb]; rfl
      have hhd : s.data.toList.head? = some 45 := by
        rw [List.head?_eq_getElem?, List.getElem?_eq_getElem (by omega)]
        exact congrArg some hb
      go_upto_region 4 with (first | (with_reducible first | refine lld hL ?_ | ((first | refine lbx hL ?_ | refine lal hL ?_ | refine lbs hL ?_); clear hL; intro bl w1 hL) | (refine lst' hL ?_; clear hL; intro w1 hL)))
      clear hbe hb
      generalize hD : s.extract 1 s.size = D
      have ht : tailD s.data.toList = D.data.toList := by
        rw [← hD, Lib.extract_data, tailD, if_pos hhd, ← List.drop_one]
        exact (List.take_of_length_le (by rw [List.length_drop]; omega)).symm
      have hsz : D.size < s.size := by
        have : D.data.toList.length = D.size := Array.length_toList
        rw [← this, ← ht, tailD, if_pos hhd, List.length_tail]
        omega
      have hsn : ∀ m, signD s.data.toList m = -(m : Int) := fun m => by rw [signD, if_pos hhd]
      clear hD hhd
      have HSZ := Lib.hid hsz
      have HT := Lib.hid ht
      have HSN := Lib.hid hsn
      clear ht hsn hsz
      by_cases hE : tailD s.data.toList = []
      · have he : D.toList.isEmpty = true := by rw [Lib.toList_data, ← HT.out, hE]; rfl
        have HV := Lib.hid (show undV s.data.toList = 0 by unfold undV; rw [if_pos (.inl hE)])
        have HB := Lib.hid (show undB s.data.toList = false by unfold undB; rw [if_pos (.inl hE)])
        clear hE
        go_wp2
        (try simp only [Exit.inBlock, Exit.then]); refine rt2 ?_
        exact ⟨by rw [HV.out, HB.out]; rfl, hL.below⟩
      have he : D.toList.isEmpty = false := by rw [Lib.toList_data, ← HT.out]; simpa using hE
      by_cases h11 : 11 < s.size
      · have HV := Lib.hid (show undV s.data.toList = 0 by unfold undV; rw [if_pos (.inr (by omega))])
        have HB := Lib.hid (show undB s.data.toList = false by unfold undB; rw [if_pos (.inr (by omega))])
        clear hE
        go_wp2
        (try simp only [Exit.inBlock, Exit.then]); refine rt2 ?_
        exact ⟨by rw [HV.out, HB.out]; rfl, hL.below⟩
      have HV := Lib.hid (show undV s.data.toList = (match Lib.decFrom 0 D.data.toList with | none => 0 | some m => signD s.data.toList m) by unfold undV; rw [if_neg (by rintro (h | h); exact hE h; omega), HT.out]; rfl)
      have HB := Lib.hid (show undB s.data.toList = (match Lib.decFrom 0 D.data.toList with | none => false | some m => decide (Lib.itoa (signD s.data.toList m) = s.data.toList)) by unfold undB; rw [if_neg (by rintro (h | h); exact hE h; omega), HT.out]; rfl)
      clear hE
      have hd11 : D.size ≤ 11 := by have := HSZ.out; omega
      have hdl : D.data.toList.length = D.size := Array.length_toList
      have h11b : decide (11 < (s.size : Int)) = false := by simp; omega
      have HE := Lib.hid he
      have H11 := Lib.hid h11
      go_upto_region 6 with (fail)
      clear he h11 h11b
      go_wp2
      go_loopw [5, 6] (fun c5 c6 wr => ∃ k m : Nat, k ≤ D.size ∧ c5 = .int .i64 m ∧ c6 = .int .i64 k ∧ Lib.decFrom 0 (D.data.toList.take k) = some m ∧ m < 10 ^ k ∧ Loc w wr [] []) (fun _ c _ => D.size - (intOf c).toNat)
      case atStart => exact ⟨0, 0, Nat.zero_le _, rfl, rfl, rfl, by decide, hL⟩
      case round =>
        clear hL
        obtain ⟨k, m, hk, rfl, rfl, hdec, hm, hL⟩ := hrel
        have HDEC := Lib.hid hdec
        clear hdec
        have hpow : 10 ^ k ≤ 10 ^ 11 := Nat.pow_le_pow_right (by decide) (by omega)
        have hm11 : m < 100000000000 := Nat.lt_of_lt_of_le hm (Nat.le_trans hpow (by decide))
        have HM := Lib.hid hm
        clear hm hpow
        by_cases hlt : k < D.size
        · have hkl : k < D.data.toList.length := by omega
          have hget : D.data.toList[k]? = some (D.data.toList[k]) := List.getElem?_eq_getElem hkl
          cases hdv : Lib.digitVal D.data.toList[k] with
          | none =>
            have HN := Lib.hid (show Lib.decFrom 0 D.data.toList = none by
              cases hq : Lib.decFrom 0 D.data.toList with
              | none => rfl
              | some q => obtain ⟨d, hd⟩ := Lib.digit_of_decFrom _ _ _ hq k _ hget; rw [hdv] at hd; cases hd)
            have hnd : D[k].toNat < 48 ∨ 57 < D[k].toNat := Lib.digitVal_none hdv
            clear hdv hget
            rcases hnd with h48 | h57
            · have hx1 : decide ((D[k].toNat : Int) < 48) = true := by simp; omega
              clear h48
              go_wp2
              (try simp only [Exit.inBlock, Exit.then]); refine rt2 ?_
              exact ⟨by rw [HV.out, HB.out, HN.out]; rfl, hL.below⟩
            · have hx1 : decide ((D[k].toNat : Int) < 48) = false := by simp; omega
              have hx2 : decide (57 < (D[k].toNat : Int)) = true := by simp; omega
              clear h57
              go_wp2
              (try simp only [Exit.inBlock, Exit.then]); refine rt2 ?_
              exact ⟨by rw [HV.out, HB.out, HN.out]; rfl, hL.below⟩
          | some d =>
            have HN := Lib.hid (Lib.decFrom_take _ _ _ _ _ _ HDEC.out hget hdv)
            obtain ⟨hd1, hd2, hd3⟩ := Lib.digitVal_eq hdv
            have hdd : (D[k].toNat : Int) = 48 + d := by show (D.data.toList[k].toNat : Int) = _; omega
            have hd9 : d ≤ 9 := by omega
            have hx1 : decide ((D[k].toNat : Int) < 48) = false := by rw [hdd]; simp; omega
            have hx2 : decide (57 < (D[k].toNat : Int)) = false := by rw [hdd]; simp; omega
            clear hdv hget hd1 hd2 hd3
            have HD := Lib.hid hdd
            clear hdd
            go_wp2
            go_roundw
            case rel =>
              refine ⟨k + 1, m * 10 + d, by omega, ?_, by go_num, HN.out, ?_, hL⟩
              · rw [HD.out, Go.IntWalk.wrap64_in (48 + (d : Int)) (by omega), Go.IntWalk.wrap64_in (10 * (m : Int) + (48 + (d : Int))) (by omega), Go.IntWalk.wrap64_in _ (by omega)]
                congr 1
                omega
              · have := HM.out
                rw [Nat.pow_succ]
                omega
            case measure => simp [intOf]; omega
        · obtain rfl : k = D.size := by omega
          have HD := Lib.hid (show Lib.decFrom 0 D.data.toList = some m by rw [← HDEC.out, List.take_of_length_le (Nat.le_of_eq hdl)])
          clear hlt
          have HSNE := Lib.hid (HSN.out m)
          have HG := Lib.hid (fun w' => rDigits_any (-(m : Int)) (by omega) w')
          have HS1 := Lib.hid (show undV s.data.toList = (-(m : Int)) by rw [HV.out, HD.out]; rw [← HSNE.out])
          have HS2 := Lib.hid (show undB s.data.toList = decide (Lib.itoa (-(m : Int)) = s.data.toList) by rw [HB.out, HD.out, ← HSNE.out])
          have hwl : decide ((D.size : Int) < (s.size : Int)) = true := by have := HSZ.out; simp; omega
          go_wp2_with (first | (go_at_call 35; (with_reducible refine (HG.out _).mono ?_); rintro e w3 ⟨rfl, hb⟩; replace hL := hL.grow hb; clear hb; dsimp only))
          (try simp only [Exit.inBlock, Exit.then]); refine rt2 ?_
          refine ⟨?_, hL.below⟩
          rw [HS1.out, HS2.out, show decide (Lib.itoa (-(m : Int)) = s.data.toList) = ((digs (-(m : Int))).toList == s.toList) from (str_beq (digs (-(m : Int))) s).symm]
          rfl
    · have hbe : ((s[0].toNat : Int) == 45) = false := by rw [beq_eq_false_iff_ne]; exact fun h => hb (byte_eq.1 h)
      have hhd : ¬ s.data.toList.head? = some 45 := by
        rw [List.head?_eq_getElem?, List.getElem?_eq_getElem (by omega)]
        exact fun h => hb (Option.some.inj h)
      go_upto_region 4 with (first | (with_reducible first | refine lld hL ?_ | ((first | refine lbx hL ?_ | refine lal hL ?_ | refine lbs hL ?_); clear hL; intro bl w1 hL) | (refine lst' hL ?_; clear hL; intro w1 hL)))
      clear hbe hb
      have ht : tailD s.data.toList = s.data.toList := by rw [tailD, if_neg hhd]
      have hsz : s.size ≤ s.size := Nat.le_refl _
      have hsn : ∀ m, signD s.data.toList m = (m : Int) := fun m => by rw [signD, if_neg hhd]
      clear hhd
      have HSZ := Lib.hid hsz
      have HT := Lib.hid ht
      have HSN := Lib.hid hsn
      clear ht hsn hsz
      by_cases hE : tailD s.data.toList = []
      · have he : s.toList.isEmpty = true := by rw [Lib.toList_data, ← HT.out, hE]; rfl
        have HV := Lib.hid (show undV s.data.toList = 0 by unfold undV; rw [if_pos (.inl hE)])
        have HB := Lib.hid (show undB s.data.toList = false by unfold undB; rw [if_pos (.inl hE)])
        clear hE
        go_wp2
        (try simp only [Exit.inBlock, Exit.then]); refine rt2 ?_
        exact ⟨by rw [HV.out, HB.out]; rfl, hL.below⟩
      have he : s.toList.isEmpty = false := by rw [Lib.toList_data, ← HT.out]; simpa using hE
      by_cases h11 : 11 < s.size
      · have HV := Lib.hid (show undV s.data.toList = 0 by unfold undV; rw [if_pos (.inr (by omega))])
        have HB := Lib.hid (show undB s.data.toList = false by unfold undB; rw [if_pos (.inr (by omega))])
        clear hE
        go_wp2
        (try simp only [Exit.inBlock, Exit.then]); refine rt2 ?_
        exact ⟨by rw [HV.out, HB.out]; rfl, hL.below⟩
      have HV := Lib.hid (show undV s.data.toList = (match Lib.decFrom 0 s.data.toList with | none => 0 | some m => signD s.data.toList m) by unfold undV; rw [if_neg (by rintro (h | h); exact hE h; omega), HT.out]; rfl)
      have HB := Lib.hid (show undB s.data.toList = (match Lib.decFrom 0 s.data.toList with | none => false | some m => decide (Lib.itoa (signD s.data.toList m) = s.data.toList)) by unfold undB; rw [if_neg (by rintro (h | h); exact hE h; omega), HT.out]; rfl)
      clear hE
      have hd11 : s.size ≤ 11 := by have := HSZ.out; omega
      have hdl : s.data.toList.length = s.size := Array.length_toList
      have h11b : decide (11 < (s.size : Int)) = false := by simp; omega
      have HE := Lib.hid he
      have H11 := Lib.hid h11
      go_upto_region 6 with (fail)
      clear he h11 h11b
      go_wp2
      go_loopw [5, 6] (fun c5 c6 wr => ∃ k m : Nat, k ≤ s.size ∧ c5 = .int .i64 m ∧ c6 = .int .i64 k ∧ Lib.decFrom 0 (s.data.toList.take k) = some m ∧ m < 10 ^ k ∧ Loc w wr [] []) (fun _ c _ => s.size - (intOf c).toNat)
      case atStart => exact ⟨0, 0, Nat.zero_le _, rfl, rfl, rfl, by decide, hL⟩
      case round =>
        clear hL
        obtain ⟨k, m, hk, rfl, rfl, hdec, hm, hL⟩ := hrel
        have HDEC := Lib.hid hdec
        clear hdec
        have hpow : 10 ^ k ≤ 10 ^ 11 := Nat.pow_le_pow_right (by decide) (by omega)
        have hm11 : m < 100000000000 := Nat.lt_of_lt_of_le hm (Nat.le_trans hpow (by decide))
        have HM := Lib.hid hm
        clear hm hpow
        by_cases hlt : k < s.size
        · have hkl : k < s.data.toList.length := by omega
          have hget : s.data.toList[k]? = some (s.data.toList[k]) := List.getElem?_eq_getElem hkl
          cases hdv : Lib.digitVal s.data.toList[k] with
          | none =>
            have HN := Lib.hid (show Lib.decFrom 0 s.data.toList = none by
              cases hq : Lib.decFrom 0 s.data.toList with
              | none => rfl
              | some q => obtain ⟨d, hd⟩ := Lib.digit_of_decFrom _ _ _ hq k _ hget; rw [hdv] at hd; cases hd)
            have hnd : s[k].toNat < 48 ∨ 57 < s[k].toNat := Lib.digitVal_none hdv
            clear hdv hget
            rcases hnd with h48 | h57
            · have hx1 : decide ((s[k].toNat : Int) < 48) = true := by simp; omega
              clear h48
              go_wp2
              (try simp only [Exit.inBlock, Exit.then]); refine rt2 ?_
              exact ⟨by rw [HV.out, HB.out, HN.out]; rfl, hL.below⟩
            · have hx1 : decide ((s[k].toNat : Int) < 48) = false := by simp; omega
              have hx2 : decide (57 < (s[k].toNat : Int)) = true := by simp; omega
              clear h57
              go_wp2
              (try simp only [Exit.inBlock, Exit.then]); refine rt2 ?_
              exact ⟨by rw [HV.out, HB.out, HN.out]; rfl, hL.below⟩
          | some d =>
            have HN := Lib.hid (Lib.decFrom_take _ _ _ _ _ _ HDEC.out hget hdv)
            obtain ⟨hd1, hd2, hd3⟩ := Lib.digitVal_eq hdv
            have hdd : (s[k].toNat : Int) = 48 + d := by show (s.data.toList[k].toNat : Int) = _; omega
            have hd9 : d ≤ 9 := by omega
            have hx1 : decide ((s[k].toNat : Int) < 48) = false := by rw [hdd]; simp; omega
            have hx2 : decide (57 < (s[k].toNat : Int)) = false := by rw [hdd]; simp; omega
            clear hdv hget hd1 hd2 hd3
            have Hs := Lib.hid hdd
            clear hdd
            go_wp2
            go_roundw
            case rel =>
              refine ⟨k + 1, m * 10 + d, by omega, ?_, by go_num, HN.out, ?_, hL⟩
              · rw [Hs.out, Go.IntWalk.wrap64_in (48 + (d : Int)) (by omega), Go.IntWalk.wrap64_in (10 * (m : Int) + (48 + (d : Int))) (by omega), Go.IntWalk.wrap64_in _ (by omega)]
                congr 1
                omega
              · have := HM.out
                rw [Nat.pow_succ]
                omega
            case measure => simp [intOf]; omega
        · obtain rfl : k = s.size := by omega
          have HD := Lib.hid (show Lib.decFrom 0 s.data.toList = some m by rw [← HDEC.out, List.take_of_length_le (Nat.le_of_eq hdl)])
          clear hlt
          have HSNE := Lib.hid (HSN.out m)
          have HG := Lib.hid (fun w' => rDigits_any (m : Int) (by omega) w')
          have HS1 := Lib.hid (show undV s.data.toList = (m : Int) by rw [HV.out, HD.out]; rw [← HSNE.out])
          have HS2 := Lib.hid (show undB s.data.toList = decide (Lib.itoa (m : Int) = s.data.toList) by rw [HB.out, HD.out, ← HSNE.out])
    
          go_wp2_with (first | (go_at_call 35; (with_reducible refine (HG.out _).mono ?_); rintro e w3 ⟨rfl, hb⟩; replace hL := hL.grow hb; clear hb; dsimp only))
          (try simp only [Exit.inBlock, Exit.then]); refine rt2 ?_
          refine ⟨?_, hL.below⟩
          rw [HS1.out, HS2.out, show decide (Lib.itoa (m : Int) = s.data.toList) = ((digs (m : Int)).toList == s.toList) from (str_beq (digs (m : Int)) s).symm]
          rfl
end Go.Proofs.YtdghcnopoanieaaDoor
