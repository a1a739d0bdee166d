/- The plain laws of spans, with no program in sight: whatever comes of numbers is in what comes of spans that have them; what is widened again and again stays. Conditions: the spans are right. -/
import Derived.Test.YteimpfplgdhclaaGreatLawSpan
set_option linter.unusedSimpArgs false
set_option linter.unusedVariables false
namespace Go.Proofs.YteimpfplgdhclaaGreat

theorem checkSpan_zero {s : Span} (h : checkSpan s = 0) : Ends s ∧ s.lo ≤ s.hi ∧ (s.none = true → s.lo = 0 ∧ s.hi = 0) := by
  refine ⟨ends_of h, ?_⟩
  have he := ends_of h
  unfold checkSpan at h
  by_cases h1 : (!inRange s.lo || !inRange s.hi) = true
  · rw [if_pos h1] at h; cases h
  · rw [if_neg h1] at h
    by_cases h2 : (s.none && (s.lo != 0 || s.hi != 0)) = true
    · rw [if_pos h2] at h; cases h
    · rw [if_neg h2] at h
      by_cases h3 : s.hi < s.lo
      · rw [if_pos h3] at h; cases h
      · refine ⟨by omega, fun hn => ?_⟩
        simp [hn] at h2
        exact h2
theorem checkSpan_ok {s : Span} (he : Ends s) (hl : s.lo ≤ s.hi) (hn : s.none = true → s.lo = 0 ∧ s.hi = 0) : checkSpan s = 0 := by
  obtain ⟨h1, h2, h3, h4⟩ := he
  unfold checkSpan
  have e1 : inRange s.lo = true := inRange_iff.2 ⟨h1, h2⟩
  have e2 : inRange s.hi = true := inRange_iff.2 ⟨h3, h4⟩
  simp only [e1, e2, Bool.not_true, Bool.or_self, Bool.false_eq_true, if_false]
  cases hs : s.none with
  | false => simp; omega
  | true => obtain ⟨a, b⟩ := hn hs; simp [a, b]

theorem mul_between {a b l h : Int} (h1 : l ≤ a) (h2 : a ≤ h) : min (l * b) (h * b) ≤ a * b ∧ a * b ≤ max (l * b) (h * b) := by
  rcases Int.le_total 0 b with hb | hb
  · have e1 := Int.mul_le_mul_of_nonneg_right h1 hb
    have e2 := Int.mul_le_mul_of_nonneg_right h2 hb
    omega
  · have e1 := Int.mul_le_mul_of_nonpos_right h1 hb
    have e2 := Int.mul_le_mul_of_nonpos_right h2 hb
    omega

theorem mul_in {a b l h m k : Int} (h1 : l ≤ a) (h2 : a ≤ h) (h3 : m ≤ b) (h4 : b ≤ k) :
    min4 (l * m) (l * k) (h * m) (h * k) ≤ a * b ∧ a * b ≤ max4 (l * m) (l * k) (h * m) (h * k) := by
  have e1 := mul_between (b := b) h1 h2
  have e2 := mul_between (b := l) h3 h4
  have e3 := mul_between (b := h) h3 h4
  simp only [Int.mul_comm _ l, Int.mul_comm _ h] at e2 e3
  unfold min4 max4 min2 max2
  constructor
  · split <;> split <;> split <;> omega
  · split <;> split <;> split <;> omega

def opOf (k a b : Int) : Int := if k = 6 then a - b else if k = 7 then a * b else a + b

theorem raw_in {k : Int} {s t : Span} {a b : Int} (h1 : s.lo ≤ a) (h2 : a ≤ s.hi) (h3 : t.lo ≤ b) (h4 : b ≤ t.hi) : (rawMade k s t).1 ≤ opOf k a b ∧ opOf k a b ≤ (rawMade k s t).2 := by
  unfold rawMade opOf
  by_cases h6 : k = 6
  · simp only [h6, if_true]; omega
  · by_cases h7 : k = 7
    · simp only [h7, if_true, if_neg (show ¬ (7 : Int) = 6 by decide)]
      exact mul_in h1 h2 h3 h4
    · simp only [if_neg h6, if_neg h7]; omega

theorem wrapped_range (n : Int) : -2147483648 ≤ wrapped n ∧ wrapped n ≤ 2147483647 := by
  unfold wrapped; split <;> omega

/-- Whatever comes of numbers is in what comes of spans that have them. -/
theorem made_sound {k : Int} {s t : Span} {a b : Int} (hs : s.none = false) (ht : t.none = false) (h1 : s.lo ≤ a) (h2 : a ≤ s.hi) (h3 : t.lo ≤ b) (h4 : b ≤ t.hi) :
    checkSpan (made k s t) = 0 ∧ inSpan (made k s t) (wrapped (opOf k a b)) = true := by
  have hr := raw_in (k := k) h1 h2 h3 h4
  unfold made
  simp only [hs, ht, Bool.or_self, Bool.false_eq_true, if_false]
  by_cases h : (inRange (rawMade k s t).1 && inRange (rawMade k s t).2) = true
  · rw [if_pos h]
    simp only [Bool.and_eq_true, inRange_iff] at h
    obtain ⟨⟨a1, a2⟩, b1, b2⟩ := h
    refine ⟨checkSpan_ok ⟨a1, a2, b1, b2⟩ (by show (rawMade k s t).1 ≤ (rawMade k s t).2; omega) (by simp), ?_⟩
    rw [wrapped_in (by omega) (by omega)]
    simp [inSpan, hr.1, hr.2]
  · rw [if_neg h]
    have hw := wrapped_range (opOf k a b)
    refine ⟨rfl, ?_⟩
    simp [inSpan, hw.1, hw.2]

theorem both_ok {s t : Span} (hs : checkSpan s = 0) (ht : checkSpan t = 0) : checkSpan (both s t) = 0 := by
  unfold both
  cases h1 : s.none with
  | true => simpa using ht
  | false =>
    cases h2 : t.none with
    | true => simpa using hs
    | false =>
      obtain ⟨⟨a1, a2, a3, a4⟩, a5, _⟩ := checkSpan_zero hs
      obtain ⟨⟨b1, b2, b3, b4⟩, b5, _⟩ := checkSpan_zero ht
      exact checkSpan_ok (by simp [Ends]; omega) (by simp; omega) (by simp)

theorem both_in_left {s t : Span} {a : Int} (hs : s.none = false) (ht : t.none = false) (h1 : s.lo ≤ a) (h2 : a ≤ s.hi) : inSpan (both s t) a = true := by
  simp [both, hs, ht, inSpan]; omega
theorem both_in_right {s t : Span} {b : Int} (hs : s.none = false) (ht : t.none = false) (h1 : t.lo ≤ b) (h2 : b ≤ t.hi) : inSpan (both s t) b = true := by
  simp [both, hs, ht, inSpan]; omega

theorem wider_ok {s t : Span} (hs : checkSpan s = 0) (ht : checkSpan t = 0) : checkSpan (wider s t) = 0 ∧ inside s (wider s t) = true := by
  unfold wider
  cases h1 : s.none with
  | true => exact ⟨by simpa using both_ok hs ht, by simp [inside, h1]⟩
  | false =>
    obtain ⟨⟨a1, a2, a3, a4⟩, a5, _⟩ := checkSpan_zero hs
    cases h2 : t.none with
    | true => exact ⟨by simpa using both_ok hs ht, by simp [both, h1, h2, inside]⟩
    | false =>
      obtain ⟨⟨b1, b2, b3, b4⟩, b5, _⟩ := checkSpan_zero ht
      refine ⟨?_, ?_⟩
      · simp only [Bool.or_self, Bool.false_eq_true, if_false]
        refine checkSpan_ok ?_ ?_ (by simp)
        · refine ⟨?_, ?_, ?_, ?_⟩ <;> dsimp only <;> split <;> omega
        · dsimp only; split <;> split <;> omega
      · simp only [Bool.or_self, Bool.false_eq_true, if_false, inside, h1, Bool.not_false, Bool.true_and, Bool.false_or, Bool.and_eq_true, decide_eq_true_eq]
        constructor <;> split <;> omega

/-- How far a span has been widened. -/
def pot (s : Span) : Nat := (if s.lo = -2147483648 then 1 else 0) + (if s.hi = 2147483647 then 1 else 0)
theorem pot_le (s : Span) : pot s ≤ 2 := by unfold pot; split <;> split <;> omega
/-- How many changes there were, against what has been widened. -/
def Calm (s : Span) (ch : Nat) : Prop := ch = 0 ∨ (s.none = false ∧ ch ≤ pot s)
theorem Calm.le {s : Span} {ch : Nat} (h : Calm s ch) : ch ≤ 2 := by
  rcases h with h | h
  · omega
  · exact Nat.le_trans h.2 (pot_le s)

theorem wider_calm {s t : Span} {ch : Nat} (hs : checkSpan s = 0) (ht : checkSpan t = 0) (h : Calm s ch) :
    (s.none = true → Calm (wider s t) ch) ∧ (s.none = false → wider s t = s → Calm (wider s t) ch) ∧ (s.none = false → wider s t ≠ s → Calm (wider s t) (ch + 1)) := by
  refine ⟨fun hn => ?_, fun _ he => by rw [he]; exact h, fun hn he => ?_⟩
  · rcases h with h | h
    · exact .inl h
    · rw [hn] at h; cases h.1
  · obtain ⟨⟨a1, a2, a3, a4⟩, a5, _⟩ := checkSpan_zero hs
    obtain ⟨⟨b1, b2, b3, b4⟩, b5, _⟩ := checkSpan_zero ht
    cases h2 : t.none with
    | true => exact (he (by simp [wider, both, hn, h2])).elim
    | false =>
      have hch : ch ≤ pot s := by rcases h with h | h; omega; exact h.2
      refine .inr ⟨by simp [wider, hn, h2], ?_⟩
      by_cases c1 : t.lo < s.lo
      · by_cases c2 : s.hi < t.hi
        · simp only [wider, hn, h2, Bool.or_self, Bool.false_eq_true, if_false, c1, c2, if_true, pot] at hch ⊢
          split at hch <;> split at hch <;> omega
        · simp only [wider, hn, h2, Bool.or_self, Bool.false_eq_true, if_false, c1, c2, if_true, pot, show max s.hi t.hi = s.hi by omega] at hch ⊢
          split at hch <;> split at hch <;> (try simp_all) <;> omega
      · by_cases c2 : s.hi < t.hi
        · simp only [wider, hn, h2, Bool.or_self, Bool.false_eq_true, if_false, c1, c2, if_true, pot, show min s.lo t.lo = s.lo by omega] at hch ⊢
          split at hch <;> split at hch <;> (try simp_all) <;> omega
        · exfalso; apply he
          simp only [wider, hn, h2, Bool.or_self, Bool.false_eq_true, if_false, c1, c2, show min s.lo t.lo = s.lo by omega, show max s.hi t.hi = s.hi by omega]
          cases s; simp_all
end Go.Proofs.YteimpfplgdhclaaGreat
