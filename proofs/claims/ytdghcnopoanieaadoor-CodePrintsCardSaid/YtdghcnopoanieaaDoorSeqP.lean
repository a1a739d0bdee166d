/- Strings in memory: rows of pieces, and what a string's parts are. Over any program. Conditions: none. -/
import Derived.Lib.Strings
import Derived.Test.YtdghcnopoanieaaDoorStrP
import Derived.Test.YtdghcnopoanieaaDoorCod
set_option linter.unusedSimpArgs false
set_option linter.unusedVariables false
namespace Go.Proofs.YtdghcnopoanieaaDoor
open Go.RowKit

/-- A text as a value. -/
abbrev strV (l : List UInt8) : Value := .string ⟨l.toArray⟩
/-- p before the first of ps. -/
def addH (p : List UInt8) : List (List UInt8) → List (List UInt8)
  | q :: qs => (p ++ q) :: qs
  | [] => [p]
theorem pieces_same (c : UInt8) (r : List UInt8) : pieces c (c :: r) = [] :: pieces c r := by rw [pieces, if_pos rfl]
theorem pieces_other {c b : UInt8} {r : List UInt8} (h : b ≠ c) : pieces c (b :: r) = addH [b] (pieces c r) := by
  obtain ⟨p, ps, h1, h2⟩ := pieces_cons (r := r) h
  rw [h2, h1]; rfl
theorem addH_nil {c : UInt8} {s : List UInt8} : addH [] (pieces c s) = pieces c s := by
  cases h : pieces c s with
  | nil => exact absurd h (pieces_ne c s)
  | cons q qs => rfl
theorem addH_addH {c : UInt8} {s p q : List UInt8} : addH p (addH q (pieces c s)) = addH (p ++ q) (pieces c s) := by
  cases h : pieces c s with
  | nil => exact absurd h (pieces_ne c s)
  | cons x xs => simp [addH]
theorem cur_next {l : List UInt8} {f k : Nat} (hf : f ≤ k) (hk : k < l.length) : (l.drop f).take (k + 1 - f) = (l.drop f).take (k - f) ++ [l[k]] := by
  rw [show k + 1 - f = (k - f) + 1 by omega, List.take_add_one]
  congr 1
  rw [List.getElem?_drop, show f + (k - f) = k by omega, List.getElem?_eq_getElem hk]
  rfl
theorem drop_at {l : List UInt8} {k : Nat} (hk : k < l.length) : l.drop k = l[k] :: l.drop (k + 1) := List.drop_eq_getElem_cons hk
theorem extract_str (s : ByteArray) (f k : Nat) : s.extract f k = ⟨((s.data.toList.drop f).take (k - f)).toArray⟩ := by
  apply ByteArray.ext
  apply Array.toList_inj.1
  simp [ByteArray.data_extract, List.extract_eq_take_drop]
theorem str_at {s : ByteArray} {k : Nat} (h : k < s.size) : s[k] = s.data.toList[k]'(by rw [Array.length_toList]; exact h) := rfl
theorem str_beq (a b : ByteArray) : (a.toList == b.toList) = decide (a.data.toList = b.data.toList) := by
  rw [Lib.toList_data, Lib.toList_data, Bool.eq_iff_iff]
  simp
theorem byte_eq {a b : UInt8} : ((a.toNat : Int) = (b.toNat : Int)) ↔ a = b := ⟨fun h => UInt8.toNat_inj.1 (by omega), fun h => by rw [h]⟩
end Go.Proofs.YtdghcnopoanieaaDoor
