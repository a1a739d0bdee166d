/- The places that a program's jumps name, in plain words. Conditions: none. -/
import Derived.Test.YtdghcnopoanieaaDoorParseD
import Derived.Test.YtdghcnopoanieaaDoorGua
set_option linter.unusedSimpArgs false
set_option linter.unusedVariables false
namespace Go.Proofs.YtdghcnopoanieaaDoor
open Go.RowKit

/-- Does this instruction name that place? -/
def hits (i : Ins) (k : Nat) : Bool := nGoto i.kind && i.goto == (k : Int)
/-- Does one of the instructions from place k on name it? -/
def headQ (is : List Ins) (k : Nat) : Bool := anyN (fun j => hits (insAt is (k + j)) k) (is.length - k)
def headsUp (is : List Ins) (k : Nat) : List Int := ((List.range k).filter (headQ is)).map (fun (j : Nat) => Int.ofNat j)
def headsL (is : List Ins) : List Int := headsUp is is.length
theorem headsUp_zero (is : List Ins) : headsUp is 0 = [] := rfl
theorem headsUp_yes {is : List Ins} {k : Nat} (h : headQ is k = true) : headsUp is (k + 1) = headsUp is k ++ [(k : Int)] := by
  simp [headsUp, List.range_succ, h]
theorem headsUp_no {is : List Ins} {k : Nat} (h : headQ is k = false) : headsUp is (k + 1) = headsUp is k := by
  simp [headsUp, List.range_succ, h]
theorem headsUp_len (is : List Ins) (k : Nat) : (headsUp is k).length ≤ k := by
  unfold headsUp
  rw [List.length_map]
  exact Nat.le_trans (List.length_filter_le _ _) (by simp)
theorem anyN_succ (q : Nat → Bool) (n : Nat) : anyN q (n + 1) = (anyN q n || q n) := by
  simp [anyN, List.range_succ]
theorem anyN_zero (q : Nat → Bool) : anyN q 0 = false := rfl
end Go.Proofs.YtdghcnopoanieaaDoor
