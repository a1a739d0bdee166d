/- The walks over what the laws on spans lean on. Conditions: none. -/
import Derived.Test.YteimpfplgdhclaaGreatSpanC
import Derived.Test.YteimpfplgdhclaaGreatLib
set_option linter.unusedSimpArgs false
set_option linter.unusedVariables false
namespace Go.Proofs.YteimpfplgdhclaaGreat
open Go.RowKit

theorem ret_int {k : IntKind} {a b : Int} (h : a = b) : Ending.returned (.int k a) = .returned (.int k b) := by rw [h]
theorem begun_do : doSpan 5 ⟨false, 1, 2⟩ ⟨false, 3, 5⟩ = ⟨false, 4, 7⟩ ∧ doErr 5 ⟨false, 1, 2⟩ ⟨false, 3, 5⟩ = 0 := ⟨rfl, rfl⟩
theorem begun_widen : withSpan wider ⟨false, 0, 0⟩ ⟨false, 0, 1⟩ = ⟨false, 0, 2147483647⟩ ∧ checkSpans ⟨false, 0, 0⟩ ⟨false, 0, 1⟩ = 0 := ⟨rfl, rfl⟩
theorem begun_has : (checkSpan ⟨false, 4, 7⟩ == 0 && inSpan ⟨false, 4, 7⟩ 6) = true ∧ checkSpan ⟨false, 4, 7⟩ = 0 := ⟨rfl, rfl⟩

theorem b_check (w : World) : Calls Tryz.prog 67 #[Span.v ⟨false, 4, 7⟩] w fun e w' => e = .returned (.int .i64 0) ∧ Below w.heap.size w w' := by
  have h := check_any ⟨false, 4, 7⟩ w
  rw [begun_has.2] at h; exact h

/-- Which of n things a raw number speaks of. -/
def chosen (c n : Int) : Int := if c < 0 then (-(c + 1)).tmod n else c.tmod n
theorem chosen_range (c n : Int) (hn : 0 < n) (h : -9223372036854775808 ≤ c) : 0 ≤ chosen c n ∧ chosen c n < n := by
  unfold chosen
  split
  · exact ⟨Int.tmod_nonneg _ (by omega), Int.tmod_lt_of_pos _ hn⟩
  · exact ⟨Int.tmod_nonneg _ (by omega), Int.tmod_lt_of_pos _ hn⟩

/-- A number taken over 2 to the power of 32. -/
def wrapped (n : Int) : Int := if n % 4294967296 > 2147483647 then n % 4294967296 - 4294967296 else n % 4294967296
theorem wrapped_in {n : Int} (h1 : -2147483648 ≤ n) (h2 : n ≤ 2147483647) : wrapped n = n := by
  unfold wrapped; split <;> omega
theorem tmod_neg {n : Int} (h : n < 0) : -4294967296 < n.tmod 4294967296 ∧ n.tmod 4294967296 ≤ 0 ∧ (n.tmod 4294967296 = n % 4294967296 - 4294967296 ∨ (n.tmod 4294967296 = 0 ∧ n % 4294967296 = 0)) := by
  have e : n.tmod 4294967296 = -((-n) % 4294967296) := by
    rw [← Int.tmod_eq_emod_of_nonneg (show 0 ≤ -n by omega), Int.neg_tmod, Int.neg_neg]
  rw [e]; omega

end Go.Proofs.YteimpfplgdhclaaGreat
