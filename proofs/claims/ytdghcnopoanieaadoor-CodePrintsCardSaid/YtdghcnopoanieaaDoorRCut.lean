/- The walk over the reference's Cut: the pieces of a text between signs, as a row in new memory. Conditions: the text is not too long. -/
import Derived.Test.YtdghcnopoanieaaDoorSeqP
set_option linter.unusedSimpArgs false
set_option linter.unusedVariables false
namespace Go.Proofs.YtdghcnopoanieaaDoor
open Go.RowKit

set_option maxRecDepth 100000 in
set_option maxHeartbeats 1600000 in
theorem rCut_any (s : ByteArray) (ci : Int) (c : UInt8) (hci : ci = (c.toNat : Int)) (hs : s.size ≤ 1000000) (w : World) :
    Calls Tryd.prog 20 #[.string s, .int .u8 ci] w fun e w' => ∃ (p : Option Addr) (n cap : Nat) (R : List LBlk), e = .returned (.slice p n cap) ∧ RowS 9 1 p n cap ((pieces c s.data.toList).map strV) R ∧ Loc w w' R [] := by
  have hln : s.data.toList.length = s.size := Array.length_toList
  have HCI := Lib.hid hci
  clear hci
  have hL := Loc.start w
  go_enter Tryd.func20, Tryd.ntmps20
  go_wp2_with (first | (with_reducible first | refine lld hL ?_ | ((first | refine lbx hL ?_ | refine lal hL ?_ | refine lbs hL ?_); clear hL; intro bl w1 hL) | (refine lst' hL ?_; clear hL; intro w1 hL)))
  go_loopw [5, 6, 7] (fun c5 c6 c7 wr => ∃ (k f : Nat) (done : List (List UInt8)) (p : Option Addr) (n cap : Nat) (R : List LBlk), k ≤ s.size ∧ f ≤ k ∧ c5 = .slice p n cap ∧ c6 = .int .i64 f ∧ c7 = .int .i64 k ∧ n ≤ k ∧ pieces c s.data.toList = done ++ addH ((s.data.toList.drop f).take (k - f)) (pieces c (s.data.toList.drop k)) ∧ RowS 9 1 p n cap (done.map strV) R ∧ Loc w wr R []) (fun _ _ c _ => s.size - (intOf c).toNat)
  case atStart => exact ⟨0, 0, [], none, 0, 0, [], Nat.zero_le _, Nat.le_refl _, rfl, rfl, rfl, Nat.le_refl _, by simp [addH_nil], RowS.nil, hL⟩
  case round =>
    obtain ⟨k, f, done, p, n, cap, R, hk, hf, rfl, rfl, rfl, hnk, hp, hR, hL⟩ := hrel
    have HR := Lib.hid hR
    have HP := Lib.hid hp
    clear hR hp
    by_cases hlt : k < s.size
    · have hkl : k < s.data.toList.length := by omega
      by_cases hb : s.data.toList[k] = c
      · have HB := Lib.hid hb
        have hbe : ((s[k].toNat : Int) == ci) = true := by rw [HCI.out, str_at hlt, HB.out]; exact beq_self_eq_true _
        clear hb
        have HX := Lib.hid (extract_str s f k)
        go_wp2_with (first | (with_reducible first | refine lld hL ?_ | ((first | refine lbx hL ?_ | refine lal hL ?_ | refine lbs hL ?_); clear hL; intro bl w1 hL) | (refine lst' hL ?_; clear hL; intro w1 hL)) | (refine loc_appendS (z := [.string ⟨#[]⟩]) (K := (bl, _, _) :: []) (R := R) (news := [.string (s.extract f k)]) HR.out hL rfl rfl rfl sStrs bStr (by decide) rfl (fun _ => ⟨⟨bl, 0, none⟩, rfl, fun j u hj => by rw [add_addr, Nat.zero_add]; exact heap_cell (hL.heap (by repeat (first | exact InL.head | apply InL.tail))) j hj⟩) rfl (by simp [Value.oneCell']) (by have : maxLen = 9223372036854775807 := rfl; omega) (by omega) ?_; clear hL; intro p5 cap5 R5 w5 hS5 hL; simp only [List.cons_append, List.nil_append] at hL))
        go_roundw
        case rel =>
          refine ⟨k + 1, k + 1, done ++ [(s.data.toList.drop f).take (k - f)], p5, n + 1, cap5, R5, by omega, Nat.le_refl _, rfl, by go_num, by go_num, by omega, ?_, ?_, hL.drop (List.sublist_cons_self _ _) (fun _ h => h)⟩
          · rw [HP.out, drop_at hkl, HB.out, pieces_same, Nat.sub_self, List.take_zero, addH_nil, addH, List.append_nil, List.append_assoc]
            rfl
          · rw [List.map_append]
            rw [HX.out] at hS5
            exact hS5
        case measure => simp [intOf]; omega
      · have HB := Lib.hid hb
        have hbe : ((s[k].toNat : Int) == ci) = false := by rw [HCI.out, str_at hlt, beq_eq_false_iff_ne]; exact fun h => HB.out (byte_eq.1 h)
        clear hb
        go_wp2_with (first | (with_reducible first | refine lld hL ?_ | ((first | refine lbx hL ?_ | refine lal hL ?_ | refine lbs hL ?_); clear hL; intro bl w1 hL) | (refine lst' hL ?_; clear hL; intro w1 hL)))
        go_roundw
        case rel =>
          refine ⟨k + 1, f, done, p, n, cap, R, by omega, by omega, rfl, rfl, by go_num, by omega, ?_, HR.out, hL⟩
          rw [HP.out, drop_at hkl, pieces_other HB.out, addH_addH, cur_next hf hkl]
        case measure => simp [intOf]; omega
    · obtain rfl : k = s.size := by omega
      have HX := Lib.hid (extract_str s f s.size)
      clear hlt
      go_wp2_with (first | (with_reducible first | refine lld hL ?_ | ((first | refine lbx hL ?_ | refine lal hL ?_ | refine lbs hL ?_); clear hL; intro bl w1 hL) | (refine lst' hL ?_; clear hL; intro w1 hL)) | (refine loc_appendS (z := [.string ⟨#[]⟩]) (K := (bl, _, _) :: []) (R := R) (news := [.string (s.extract f s.size)]) HR.out hL rfl rfl rfl sStrs bStr (by decide) rfl (fun _ => ⟨⟨bl, 0, none⟩, rfl, fun j u hj => by rw [add_addr, Nat.zero_add]; exact heap_cell (hL.heap (by repeat (first | exact InL.head | apply InL.tail))) j hj⟩) rfl (by simp [Value.oneCell']) (by have : maxLen = 9223372036854775807 := rfl; omega) (by omega) ?_; clear hL; intro p5 cap5 R5 w5 hS5 hL; simp only [List.cons_append, List.nil_append] at hL))
      (try simp only [Exit.inBlock, Exit.then]); refine rt1 ?_
      refine ⟨p5, n + 1, cap5, R5, rfl, ?_, hL.drop (List.sublist_cons_self _ _) (fun _ h => h)⟩
      rw [HX.out] at hS5
      rw [HP.out, List.drop_of_length_le (Nat.le_of_eq hln), pieces, addH, List.append_nil, List.map_append]
      exact hS5
end Go.Proofs.YtdghcnopoanieaaDoor
