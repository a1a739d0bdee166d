/- What the walks over the law SpanSound lean on. Conditions: none. -/
import Derived.Test.YtodamdjnbnkmdaaSpanPlain
set_option linter.unusedSimpArgs false
set_option linter.unusedVariables false
namespace Go.Proofs.Ytodamdjnbnkmdaa
open Go.RowKit

/-- The spans of a slice of n in memory. -/
def SpansAt (w : World) (b o n : Nat) (sp : Nat → Span) : Prop :=
  ∀ k, k < n → w.cell? ⟨b, o + k * 3, none⟩ = some (.bool (sp k).none) ∧ w.cell? ⟨b, o + k * 3 + 1, none⟩ = some (.int .i64 (sp k).lo) ∧ w.cell? ⟨b, o + k * 3 + 2, none⟩ = some (.int .i64 (sp k).hi)

def Fits (n : Int) : Prop := -9223372036854775808 ≤ n ∧ n ≤ 9223372036854775807

theorem w_widen (x t : Span) (h : checkSpan x = 0) (h2 : checkSpan t = 0) (w : World) : Calls Try.prog 11 #[x.v, t.v] w fun e w' => e = .returned (.tuple #[(wider x t).v, .int .i64 0]) ∧ Below w.heap.size w w' := by
  have h3 := widen_any x t w
  have e : checkSpans x t = 0 := by simp [checkSpans, h, h2]
  rw [show withSpan wider x t = wider x t from by simp [withSpan, e], e] at h3
  exact h3
theorem w_within (x y : Span) (h : checkSpan x = 0) (h2 : checkSpan y = 0) (h3 : inside x y = true) (w : World) : Calls Try.prog 12 #[x.v, y.v] w fun e w' => e = .returned (.tuple #[.bool true, .int .i64 0]) ∧ Below w.heap.size w w' := by
  have h4 := within_any x y w
  have e : checkSpans x y = 0 := by simp [checkSpans, h, h2]
  rw [show (checkSpans x y == 0 && inside x y) = true from by simp [e, h3], e] at h4
  exact h4
theorem w_widen_no (x t : Span) (h : checkSpan x = 0) (h2 : checkSpan t ≠ 0) (w : World) : Calls Try.prog 11 #[x.v, t.v] w fun e w' => e = .returned (.tuple #[zeroSpan.v, .int .i64 (checkSpan t)]) ∧ Below w.heap.size w w' := by
  have h3 := widen_any x t w
  have e : checkSpans x t = checkSpan t := by simp [checkSpans, h]
  rw [show withSpan wider x t = zeroSpan from by simp [withSpan, e, h2], e] at h3
  exact h3

theorem w_has (d : Span) (n : Int) (h : checkSpan d = 0) (h2 : inSpan d n = true) (w : World) : Calls Try.prog 8 #[d.v, .int .i64 n] w fun e w' => e = .returned (.tuple #[.bool true, .int .i64 0]) ∧ Below w.heap.size w w' := by
  have h3 := has_any d n w
  rw [show (checkSpan d == 0 && inSpan d n) = true from by simp [h, h2], h] at h3
  exact h3
theorem w_join (s t : Span) (h : checkSpan s = 0) (h2 : checkSpan t = 0) (w : World) : Calls Try.prog 10 #[s.v, t.v] w fun e w' => e = .returned (.tuple #[(both s t).v, .int .i64 0]) ∧ Below w.heap.size w w' := by
  have h3 := join_any s t w
  have e : checkSpans s t = 0 := by simp [checkSpans, h, h2]
  rw [show withSpan both s t = both s t from by simp [withSpan, e], e] at h3
  exact h3
theorem w_do (k : Int) (s t : Span) (hk : k = 5 ∨ k = 6 ∨ k = 7) (h : checkSpan s = 0) (h2 : checkSpan t = 0) (w : World) : Calls Try.prog 7 #[.int .i64 k, s.v, t.v] w fun e w' => e = .returned (.tuple #[(made k s t).v, .int .i64 0]) ∧ Below w.heap.size w w' := by
  have h3 := do_any k s t w
  have e : checkSpans s t = 0 := by simp [checkSpans, h, h2]
  have e2 : doErr k s t = 0 := by simp [doErr, e, hk]
  rw [show doSpan k s t = made k s t from by simp [doSpan, e2], e2] at h3
  exact h3
theorem w_do_no (k : Int) (s t : Span) (h : checkSpans s t ≠ 0) (w : World) : Calls Try.prog 7 #[.int .i64 k, s.v, t.v] w fun e w' => e = .returned (.tuple #[zeroSpan.v, .int .i64 (checkSpans s t)]) ∧ Below w.heap.size w w' := by
  have h3 := do_any k s t w
  have e2 : doErr k s t = checkSpans s t := by simp [doErr, h]
  rw [show doSpan k s t = zeroSpan from by simp [doSpan, e2, h], e2] at h3
  exact h3
end Go.Proofs.Ytodamdjnbnkmdaa
