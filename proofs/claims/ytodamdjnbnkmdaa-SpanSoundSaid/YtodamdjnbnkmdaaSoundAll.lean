/- The law SpanSound, whatever it is handed. Conditions: the numbers fit their kinds; the elements of the list lie in memory that was there. -/
import Derived.Test.YtodamdjnbnkmdaaSpanFull
import Derived.Test.YtodamdjnbnkmdaaSpanSound
set_option linter.unusedSimpArgs false
set_option linter.unusedVariables false
namespace Go.Proofs.Ytodamdjnbnkmdaa
open Go.RowKit

theorem sound_any (k0 : Int) (s t : Span) (a b : Int) (p : Option Addr) (bl ol : Nat) (n cap : Nat) (sp : Nat → Span) (hk : Fits k0) (ha : Fits a) (hb : Fits b) (hn : n ≤ 9223372036854775807) (w : World)
    (hbl : 0 < n → bl < w.heap.size ∧ p = some ⟨bl, ol, none⟩) (hsp : SpansAt w bl ol n sp) :
    Calls Try.prog 3 #[.int .i64 k0, s.v, t.v, .int .i64 a, .int .i64 b, .slice p n cap] w fun e w' => e = .returned (.bool true) ∧ Below w.heap.size w w' := by
  have hr := chosen_range k0 3 (by decide) hk.1
  have hcc : chosen k0 3 = 0 ∨ chosen k0 3 = 1 ∨ chosen k0 3 = 2 := by omega
  by_cases hw : checkSpans s t = 0
  · obtain ⟨hs, ht⟩ := checkSpans_zero hw
    cases h1 : s.none with
    | true => exact sound_s k0 _ s t a b p bl ol n cap sp hk rfl hcc ha hb hn w hs ht hbl hsp h1
    | false =>
      cases h2 : t.none with
      | true => exact sound_t k0 _ s t a b p bl ol n cap sp hk rfl hcc ha hb hn w hs ht hbl hsp h1 h2
      | false =>
        rcases hcc with hc | hc | hc
        · exact sound_full0 k0 0 s t a b p bl ol n cap sp hk hc rfl ha hb hn w hs ht hbl hsp h1 h2
        · exact sound_full1 k0 1 s t a b p bl ol n cap sp hk hc rfl ha hb hn w hs ht hbl hsp h1 h2
        · exact sound_full2 k0 2 s t a b p bl ol n cap sp hk hc rfl ha hb hn w hs ht hbl hsp h1 h2
  · exact sound_no k0 _ s t a b p bl ol n cap sp hk rfl hcc ha hb hn w hw

/-- The spans that a reading of a slice tells. -/
theorem spans_at {w : World} {b o n : Nat} (h : ∀ i, i < n → ∃ (x : Bool) (l g : Int), w.cell? ⟨b, o + i * 3, none⟩ = some (.bool x) ∧ w.cell? ⟨b, o + i * 3 + 1, none⟩ = some (.int .i64 l) ∧ w.cell? ⟨b, o + i * 3 + 2, none⟩ = some (.int .i64 g)) :
    ∃ sp : Nat → Span, SpansAt w b o n sp := by
  have h2 : ∀ i, ∃ s : Span, i < n → (w.cell? ⟨b, o + i * 3, none⟩ = some (.bool s.none) ∧ w.cell? ⟨b, o + i * 3 + 1, none⟩ = some (.int .i64 s.lo) ∧ w.cell? ⟨b, o + i * 3 + 2, none⟩ = some (.int .i64 s.hi)) := fun i => by
    by_cases hi : i < n
    · obtain ⟨x, l, g, h1, h2, h3⟩ := h i hi
      exact ⟨⟨x, l, g⟩, fun _ => ⟨h1, h2, h3⟩⟩
    · exact ⟨noSpan, fun h => absurd h hi⟩
  exact ⟨fun i => Classical.choose (h2 i), fun i hi => Classical.choose_spec (h2 i) hi⟩
theorem spot_none {w : World} {b o : Nat} {S : Option Nat} {v : Value} (h : w.cell? ⟨b, o, S⟩ = some v) : S = none := by
  unfold World.cell? at h
  split at h
  · split at h
    · cases h
    · rename_i hs; simpa using hs
  · cases h
theorem cell_lt {w : World} {a : Addr} {v : Value} (h : w.cell? a = some v) : a.block < w.heap.size := by
  unfold World.cell? at h
  split at h
  · rename_i hb; exact heap_lt hb
  · cases h
theorem fits_of {n : Int} (h : (Lit.int .i64 n).wf = true) : Fits n := by
  have e1 : IntKind.i64.min = -9223372036854775808 := by rfl
  have e2 : IntKind.i64.max = 9223372036854775807 := by rfl
  simp only [Lit.wf, Bool.and_eq_true, decide_eq_true_eq] at h
  rw [e1, e2] at h
  exact h
end Go.Proofs.Ytodamdjnbnkmdaa
