/- The walks over the package span: what each call computes. Conditions: the ends of Made's spans lie in range. | The walks over the package span: its exported functions on two spans. Conditions: none. | The walks over the package span: what comes of two spans. Conditions: the ends lie in range. | The walks over the reference's functions on spans. Conditions: the ends of DoSpan's spans lie in range. | The walks over the reference's functions on spans. Conditions: the ends of DoSpan's spans lie in range. | The walks over what the laws on spans lean on. Conditions: none. | The plain laws of spans, with no program in sight: whatever comes of numbers is in what comes of spans that have them; what is widened again and again stays. Conditions: the spans are right. | The walks over the reference's functions on spans: MeetSpan, SpanIn, DoSpan. Conditions: the spans are right. | The walk over the reference's DoSpan. Conditions: the spans are right. -/
import Derived.Test.YtdghcnopoanieaaDoorCod
import Derived.Deep.QuietTactic
import Derived.BigQuiet
import Derived.Test.YtdghcnopoanieaaDoorLib
set_option linter.unusedSimpArgs false
set_option linter.unusedVariables false
namespace Go.Proofs.YtdghcnopoanieaaDoor
open Go.RowKit

end Go.Proofs.YtdghcnopoanieaaDoor
set_option linter.unusedSimpArgs false
set_option linter.unusedVariables false
namespace Go.Proofs.YtdghcnopoanieaaDoor
open Go.RowKit

def withSpan (G : Span → Span → Span) (s t : Span) : Span := if checkSpans s t = 0 then G s t else zeroSpan

end Go.Proofs.YtdghcnopoanieaaDoor
set_option linter.unusedSimpArgs false
set_option linter.unusedVariables false
namespace Go.Proofs.YtdghcnopoanieaaDoor
open Go.RowKit

theorem run_min4 (ts : Array TypeId) (t : TypeId) (P : Program) (x y z u : Int) (w : World) : (Builtin.min_ ts t #[.int .i64 x, .int .i64 y, .int .i64 z, .int .i64 u]).run P w = .ok (.int .i64 (min4 x y z u)) w := by
  simp [Builtin.min_, Builtin.min2, min4, min2]; rfl
theorem run_max4 (ts : Array TypeId) (t : TypeId) (P : Program) (x y z u : Int) (w : World) : (Builtin.max_ ts t #[.int .i64 x, .int .i64 y, .int .i64 z, .int .i64 u]).run P w = .ok (.int .i64 (max4 x y z u)) w := by
  simp [Builtin.max_, Builtin.max2, max4, max2]

/-- Every end lies within the 32 bits. -/
def Ends (s : Span) : Prop := -2147483648 ≤ s.lo ∧ s.lo ≤ 2147483647 ∧ -2147483648 ≤ s.hi ∧ s.hi ≤ 2147483647
def SmallN (n : Int) : Prop := -9223372036854775808 ≤ n ∧ n ≤ 9223372036854775807
theorem mul_small {a b : Int} (h1 : -2147483648 ≤ a) (h2 : a ≤ 2147483647) (h3 : -2147483648 ≤ b) (h4 : b ≤ 2147483647) : -4611686018427387904 ≤ a * b ∧ a * b ≤ 4611686018427387904 := by
  have e1 : (a + 2147483648) * (b + 2147483648) ≥ 0 := Int.mul_nonneg (by omega) (by omega)
  have e2 : (2147483647 - a) * (2147483647 - b) ≥ 0 := Int.mul_nonneg (by omega) (by omega)
  have e3 : (a + 2147483648) * (2147483647 - b) ≥ 0 := Int.mul_nonneg (by omega) (by omega)
  have e4 : (2147483647 - a) * (b + 2147483648) ≥ 0 := Int.mul_nonneg (by omega) (by omega)
  simp only [Int.add_mul, Int.mul_add, Int.sub_mul, Int.mul_sub] at e1 e2 e3 e4
  omega

theorem ends_of {s : Span} (h : checkSpan s = 0) : Ends s := by
  unfold checkSpan at h
  by_cases hr : (!inRange s.lo || !inRange s.hi) = true
  · rw [if_pos hr] at h; cases h
  · simp only [Bool.or_eq_true, Bool.not_eq_true', not_or, Bool.not_eq_false] at hr
    have h1 := inRange_iff.1 hr.1
    have h2 := inRange_iff.1 hr.2
    exact ⟨h1.1, h1.2, h2.1, h2.2⟩

/-- What Do answers of kind k. -/
def doErr (k : Int) (s t : Span) : Int := if checkSpans s t = 0 then (if k = 5 ∨ k = 6 ∨ k = 7 then 0 else 6) else checkSpans s t
def doSpan (k : Int) (s t : Span) : Span := if doErr k s t = 0 then made k s t else zeroSpan

theorem checkSpans_zero {s t : Span} (h : checkSpans s t = 0) : checkSpan s = 0 ∧ checkSpan t = 0 := by
  unfold checkSpans at h; split at h <;> simp_all

end Go.Proofs.YtdghcnopoanieaaDoor
set_option linter.unusedSimpArgs false
set_option linter.unusedVariables false
namespace Go.Proofs.YtdghcnopoanieaaDoor
open Go.RowKit

theorem betw_range (n : Int) : betw n (-2147483648) 2147483647 = inRange n := rfl

end Go.Proofs.YtdghcnopoanieaaDoor
set_option linter.unusedSimpArgs false
set_option linter.unusedVariables false
namespace Go.Proofs.YtdghcnopoanieaaDoor
open Go.RowKit

end Go.Proofs.YtdghcnopoanieaaDoor
set_option linter.unusedSimpArgs false
set_option linter.unusedVariables false
namespace Go.Proofs.YtdghcnopoanieaaDoor
open Go.RowKit

theorem ret_int {k : IntKind} {a b : Int} (h : a = b) : Ending.returned (.int k a) = .returned (.int k b) := by rw [h]
theorem begun_do : doSpan 5 ⟨false, 1, 2⟩ ⟨false, 3, 5⟩ = ⟨false, 4, 7⟩ ∧ doErr 5 ⟨false, 1, 2⟩ ⟨false, 3, 5⟩ = 0 := ⟨rfl, rfl⟩
theorem begun_widen : withSpan wider ⟨false, 0, 0⟩ ⟨false, 0, 1⟩ = ⟨false, 0, 2147483647⟩ ∧ checkSpans ⟨false, 0, 0⟩ ⟨false, 0, 1⟩ = 0 := ⟨rfl, rfl⟩
theorem begun_has : (checkSpan ⟨false, 4, 7⟩ == 0 && inSpan ⟨false, 4, 7⟩ 6) = true ∧ checkSpan ⟨false, 4, 7⟩ = 0 := ⟨rfl, rfl⟩

/-- Which of n things a raw number speaks of. -/
def chosen (c n : Int) : Int := if c < 0 then (-(c + 1)).tmod n else c.tmod n
theorem chosen_range (c n : Int) (hn : 0 < n) (h : -9223372036854775808 ≤ c) : 0 ≤ chosen c n ∧ chosen c n < n := by
  unfold chosen
  split
  · exact ⟨Int.tmod_nonneg _ (by omega), Int.tmod_lt_of_pos _ hn⟩
  · exact ⟨Int.tmod_nonneg _ (by omega), Int.tmod_lt_of_pos _ hn⟩

/-- A number taken over 2 to the power of 32. -/
def wrapped (n : Int) : Int := if n % 4294967296 > 2147483647 then n % 4294967296 - 4294967296 else n % 4294967296
theorem wrapped_in {n : Int} (h1 : -2147483648 ≤ n) (h2 : n ≤ 2147483647) : wrapped n = n := by
  unfold wrapped; split <;> omega
theorem tmod_neg {n : Int} (h : n < 0) : -4294967296 < n.tmod 4294967296 ∧ n.tmod 4294967296 ≤ 0 ∧ (n.tmod 4294967296 = n % 4294967296 - 4294967296 ∨ (n.tmod 4294967296 = 0 ∧ n % 4294967296 = 0)) := by
  have e : n.tmod 4294967296 = -((-n) % 4294967296) := by
    rw [← Int.tmod_eq_emod_of_nonneg (show 0 ≤ -n by omega), Int.neg_tmod, Int.neg_neg]
  rw [e]; omega

end Go.Proofs.YtdghcnopoanieaaDoor
set_option linter.unusedSimpArgs false
set_option linter.unusedVariables false
namespace Go.Proofs.YtdghcnopoanieaaDoor

theorem checkSpan_zero {s : Span} (h : checkSpan s = 0) : Ends s ∧ s.lo ≤ s.hi ∧ (s.none = true → s.lo = 0 ∧ s.hi = 0) := by
  refine ⟨ends_of h, ?_⟩
  have he := ends_of h
  unfold checkSpan at h
  by_cases h1 : (!inRange s.lo || !inRange s.hi) = true
  · rw [if_pos h1] at h; cases h
  · rw [if_neg h1] at h
    by_cases h2 : (s.none && (s.lo != 0 || s.hi != 0)) = true
    · rw [if_pos h2] at h; cases h
    · rw [if_neg h2] at h
      by_cases h3 : s.hi < s.lo
      · rw [if_pos h3] at h; cases h
      · refine ⟨by omega, fun hn => ?_⟩
        simp [hn] at h2
        exact h2
theorem checkSpan_ok {s : Span} (he : Ends s) (hl : s.lo ≤ s.hi) (hn : s.none = true → s.lo = 0 ∧ s.hi = 0) : checkSpan s = 0 := by
  obtain ⟨h1, h2, h3, h4⟩ := he
  unfold checkSpan
  have e1 : inRange s.lo = true := inRange_iff.2 ⟨h1, h2⟩
  have e2 : inRange s.hi = true := inRange_iff.2 ⟨h3, h4⟩
  simp only [e1, e2, Bool.not_true, Bool.or_self, Bool.false_eq_true, if_false]
  cases hs : s.none with
  | false => simp; omega
  | true => obtain ⟨a, b⟩ := hn hs; simp [a, b]

theorem mul_between {a b l h : Int} (h1 : l ≤ a) (h2 : a ≤ h) : min (l * b) (h * b) ≤ a * b ∧ a * b ≤ max (l * b) (h * b) := by
  rcases Int.le_total 0 b with hb | hb
  · have e1 := Int.mul_le_mul_of_nonneg_right h1 hb
    have e2 := Int.mul_le_mul_of_nonneg_right h2 hb
    omega
  · have e1 := Int.mul_le_mul_of_nonpos_right h1 hb
    have e2 := Int.mul_le_mul_of_nonpos_right h2 hb
    omega

theorem mul_in {a b l h m k : Int} (h1 : l ≤ a) (h2 : a ≤ h) (h3 : m ≤ b) (h4 : b ≤ k) :
    min4 (l * m) (l * k) (h * m) (h * k) ≤ a * b ∧ a * b ≤ max4 (l * m) (l * k) (h * m) (h * k) := by
  have e1 := mul_between (b := b) h1 h2
  have e2 := mul_between (b := l) h3 h4
  have e3 := mul_between (b := h) h3 h4
  simp only [Int.mul_comm _ l, Int.mul_comm _ h] at e2 e3
  unfold min4 max4 min2 max2
  constructor
  · split <;> split <;> split <;> omega
  · split <;> split <;> split <;> omega

def opOf (k a b : Int) : Int := if k = 6 then a - b else if k = 7 then a * b else a + b

theorem raw_in {k : Int} {s t : Span} {a b : Int} (h1 : s.lo ≤ a) (h2 : a ≤ s.hi) (h3 : t.lo ≤ b) (h4 : b ≤ t.hi) : (rawMade k s t).1 ≤ opOf k a b ∧ opOf k a b ≤ (rawMade k s t).2 := by
  unfold rawMade opOf
  by_cases h6 : k = 6
  · simp only [h6, if_true]; omega
  · by_cases h7 : k = 7
    · simp only [h7, if_true, if_neg (show ¬ (7 : Int) = 6 by decide)]
      exact mul_in h1 h2 h3 h4
    · simp only [if_neg h6, if_neg h7]; omega

theorem wrapped_range (n : Int) : -2147483648 ≤ wrapped n ∧ wrapped n ≤ 2147483647 := by
  unfold wrapped; split <;> omega

/-- Whatever comes of numbers is in what comes of spans that have them. -/
theorem made_sound {k : Int} {s t : Span} {a b : Int} (hs : s.none = false) (ht : t.none = false) (h1 : s.lo ≤ a) (h2 : a ≤ s.hi) (h3 : t.lo ≤ b) (h4 : b ≤ t.hi) :
    checkSpan (made k s t) = 0 ∧ inSpan (made k s t) (wrapped (opOf k a b)) = true := by
  have hr := raw_in (k := k) h1 h2 h3 h4
  unfold made
  simp only [hs, ht, Bool.or_self, Bool.false_eq_true, if_false]
  by_cases h : (inRange (rawMade k s t).1 && inRange (rawMade k s t).2) = true
  · rw [if_pos h]
    simp only [Bool.and_eq_true, inRange_iff] at h
    obtain ⟨⟨a1, a2⟩, b1, b2⟩ := h
    refine ⟨checkSpan_ok ⟨a1, a2, b1, b2⟩ (by show (rawMade k s t).1 ≤ (rawMade k s t).2; omega) (by simp), ?_⟩
    rw [wrapped_in (by omega) (by omega)]
    simp [inSpan, hr.1, hr.2]
  · rw [if_neg h]
    have hw := wrapped_range (opOf k a b)
    refine ⟨rfl, ?_⟩
    simp [inSpan, hw.1, hw.2]

theorem both_ok {s t : Span} (hs : checkSpan s = 0) (ht : checkSpan t = 0) : checkSpan (both s t) = 0 := by
  unfold both
  cases h1 : s.none with
  | true => simpa using ht
  | false =>
    cases h2 : t.none with
    | true => simpa using hs
    | false =>
      obtain ⟨⟨a1, a2, a3, a4⟩, a5, _⟩ := checkSpan_zero hs
      obtain ⟨⟨b1, b2, b3, b4⟩, b5, _⟩ := checkSpan_zero ht
      exact checkSpan_ok (by simp [Ends]; omega) (by simp; omega) (by simp)

theorem both_in_left {s t : Span} {a : Int} (hs : s.none = false) (ht : t.none = false) (h1 : s.lo ≤ a) (h2 : a ≤ s.hi) : inSpan (both s t) a = true := by
  simp [both, hs, ht, inSpan]; omega
theorem both_in_right {s t : Span} {b : Int} (hs : s.none = false) (ht : t.none = false) (h1 : t.lo ≤ b) (h2 : b ≤ t.hi) : inSpan (both s t) b = true := by
  simp [both, hs, ht, inSpan]; omega

theorem wider_ok {s t : Span} (hs : checkSpan s = 0) (ht : checkSpan t = 0) : checkSpan (wider s t) = 0 ∧ inside s (wider s t) = true := by
  unfold wider
  cases h1 : s.none with
  | true => exact ⟨by simpa using both_ok hs ht, by simp [inside, h1]⟩
  | false =>
    obtain ⟨⟨a1, a2, a3, a4⟩, a5, _⟩ := checkSpan_zero hs
    cases h2 : t.none with
    | true => exact ⟨by simpa using both_ok hs ht, by simp [both, h1, h2, inside]⟩
    | false =>
      obtain ⟨⟨b1, b2, b3, b4⟩, b5, _⟩ := checkSpan_zero ht
      refine ⟨?_, ?_⟩
      · simp only [Bool.or_self, Bool.false_eq_true, if_false]
        refine checkSpan_ok ?_ ?_ (by simp)
        · refine ⟨?_, ?_, ?_, ?_⟩ <;> dsimp only <;> split <;> omega
        · dsimp only; split <;> split <;> omega
      · simp only [Bool.or_self, Bool.false_eq_true, if_false, inside, h1, Bool.not_false, Bool.true_and, Bool.false_or, Bool.and_eq_true, decide_eq_true_eq]
        constructor <;> split <;> omega

/-- How far a span has been widened. -/
def pot (s : Span) : Nat := (if s.lo = -2147483648 then 1 else 0) + (if s.hi = 2147483647 then 1 else 0)
theorem pot_le (s : Span) : pot s ≤ 2 := by unfold pot; split <;> split <;> omega
/-- How many changes there were, against what has been widened. -/
def Calm (s : Span) (ch : Nat) : Prop := ch = 0 ∨ (s.none = false ∧ ch ≤ pot s)
theorem Calm.le {s : Span} {ch : Nat} (h : Calm s ch) : ch ≤ 2 := by
  rcases h with h | h
  · omega
  · exact Nat.le_trans h.2 (pot_le s)

theorem wider_calm {s t : Span} {ch : Nat} (hs : checkSpan s = 0) (ht : checkSpan t = 0) (h : Calm s ch) :
    (s.none = true → Calm (wider s t) ch) ∧ (s.none = false → wider s t = s → Calm (wider s t) ch) ∧ (s.none = false → wider s t ≠ s → Calm (wider s t) (ch + 1)) := by
  refine ⟨fun hn => ?_, fun _ he => by rw [he]; exact h, fun hn he => ?_⟩
  · rcases h with h | h
    · exact .inl h
    · rw [hn] at h; cases h.1
  · obtain ⟨⟨a1, a2, a3, a4⟩, a5, _⟩ := checkSpan_zero hs
    obtain ⟨⟨b1, b2, b3, b4⟩, b5, _⟩ := checkSpan_zero ht
    cases h2 : t.none with
    | true => exact (he (by simp [wider, both, hn, h2])).elim
    | false =>
      have hch : ch ≤ pot s := by rcases h with h | h; omega; exact h.2
      refine .inr ⟨by simp [wider, hn, h2], ?_⟩
      by_cases c1 : t.lo < s.lo
      · by_cases c2 : s.hi < t.hi
        · simp only [wider, hn, h2, Bool.or_self, Bool.false_eq_true, if_false, c1, c2, if_true, pot] at hch ⊢
          split at hch <;> split at hch <;> omega
        · simp only [wider, hn, h2, Bool.or_self, Bool.false_eq_true, if_false, c1, c2, if_true, pot, show max s.hi t.hi = s.hi by omega] at hch ⊢
          split at hch <;> split at hch <;> (try simp_all) <;> omega
      · by_cases c2 : s.hi < t.hi
        · simp only [wider, hn, h2, Bool.or_self, Bool.false_eq_true, if_false, c1, c2, if_true, pot, show min s.lo t.lo = s.lo by omega] at hch ⊢
          split at hch <;> split at hch <;> (try simp_all) <;> omega
        · exfalso; apply he
          simp only [wider, hn, h2, Bool.or_self, Bool.false_eq_true, if_false, c1, c2, show min s.lo t.lo = s.lo by omega, show max s.hi t.hi = s.hi by omega]
          cases s; simp_all
end Go.Proofs.YtdghcnopoanieaaDoor
set_option linter.unusedSimpArgs false
set_option linter.unusedVariables false
namespace Go.Proofs.YtdghcnopoanieaaDoor
open Go.RowKit

theorem common_eq {s t : Span} (h1 : s.none = false) (h2 : t.none = false) : common s t = if min2 s.hi t.hi < max2 s.lo t.lo then noSpan else ⟨false, max2 s.lo t.lo, min2 s.hi t.hi⟩ := by
  have e1 : min s.hi t.hi = min2 s.hi t.hi := by unfold min2; split <;> omega
  have e2 : max s.lo t.lo = max2 s.lo t.lo := by unfold max2; split <;> omega
  simp [common, h1, h2, e1, e2]

theorem inside_ref {s t : Span} (h : checkSpan s = 0) : (s.none || (inSpan t s.lo && inSpan t s.hi)) = inside s t := by
  have hl := (checkSpan_zero h).2.1
  cases hs : s.none <;> cases ht : t.none <;> simp [inside, inSpan, hs, ht] <;> rw [Bool.eq_iff_iff] <;> simp <;> omega

end Go.Proofs.YtdghcnopoanieaaDoor
set_option linter.unusedSimpArgs false
set_option linter.unusedVariables false
namespace Go.Proofs.YtdghcnopoanieaaDoor
open Go.RowKit

theorem Split.mk {R L : List LBlk} (n : Nat) (h : L.take n ++ R = L) : Split R L (L.take n) := by
  have : ∀ K : List LBlk, Split R (K ++ R) K := fun K => by
    induction K with
    | nil => exact .nil
    | cons x K ih => exact .cons x ih
  have h2 := this (L.take n)
  rw [h] at h2; exact h2
theorem news_of {w0 w : World} {L : List LBlk} {D : List Datum} (hL : Loc w0 w L D) {b : Nat} {T : TypeId} {cs : List Value} {f : List Value → List LBlk} (hm : InL b T cs L f) : ∀ (j : Nat) (u : Value), cs[j]? = some u → w.cell? ((⟨b, 0, none⟩ : Addr).add j) = some u := by
  intro j u hj
  rw [add_addr, hL.cell hm, Nat.zero_add]; exact hj
theorem row4 {w0 w : World} {L : List LBlk} {D : List Datum} {E : TypeId} {v : Value} {a b c d : Value} {R K : List LBlk} (h : RowL E 1 v 4 [a, b, c, d] R) (hL : Loc w0 w L D) (hK : Split R L K) :
    ∃ g cap, v = .slice (some ⟨g, 0, none⟩) 4 cap ∧ w.cell? ⟨g, 0, none⟩ = some a ∧ w.cell? ⟨g, 0 + 1, none⟩ = some b ∧ w.cell? ⟨g, 0 + 2, none⟩ = some c ∧ w.cell? ⟨g, 0 + 3, none⟩ = some d := by
  rcases h.2 with ⟨_, h0, _⟩ | ⟨g, cap, cs, hv, hR, _, _, _, ht⟩
  · cases h0
  · have hc : ∀ j, w.cell? ⟨g, j, none⟩ = cs[j]? := hL.all (g, E, cs) (by rw [hK.eq, hR]; simp)
    have hj : ∀ j, j < 4 → cs[j]? = [a, b, c, d][j]? := fun j hj => by rw [← ht, List.getElem?_take]; simp [hj]
    exact ⟨g, cap, hv, by rw [hc, hj _ (by omega)]; rfl, by rw [hc, hj _ (by omega)]; rfl, by rw [hc, hj _ (by omega)]; rfl, by rw [hc, hj _ (by omega)]; rfl⟩

theorem do_eq {k : Int} {s t : Span} (hk : k = 5 ∨ k = 6 ∨ k = 7) (hs : s.lo ≤ s.hi) (ht : t.lo ≤ t.hi) (h1 : s.none = false) (h2 : t.none = false) {mn mx : Int}
    (e1 : mn = min4 (opOf k s.lo t.lo) (opOf k s.lo t.hi) (opOf k s.hi t.lo) (opOf k s.hi t.hi)) (e2 : mx = max4 (opOf k s.lo t.lo) (opOf k s.lo t.hi) (opOf k s.hi t.lo) (opOf k s.hi t.hi)) :
    made k s t = if checkSpan ⟨false, mn, mx⟩ = 0 then ⟨false, mn, mx⟩ else ⟨false, -2147483648, 2147483647⟩ := by
  have hr : rawMade k s t = (mn, mx) := by
    subst e1; subst e2
    rcases hk with rfl | rfl | rfl
    · simp only [rawMade, opOf, min4, max4, min2, max2]
      simp
      constructor <;> (repeat' split) <;> omega
    · simp only [rawMade, opOf, min4, max4, min2, max2]
      simp
      constructor <;> (repeat' split) <;> omega
    · simp [rawMade, opOf]
  have hm := (raw_in (k := k) (Int.le_refl s.lo) hs (Int.le_refl t.lo) ht)
  rw [hr] at hm
  have hle : mn ≤ mx := by have := hm.1; have := hm.2; simp at *; omega
  unfold made
  simp only [h1, h2, Bool.or_self, Bool.false_eq_true, if_false, hr]
  by_cases hi : (inRange mn && inRange mx) = true
  · rw [if_pos hi, if_pos]
    simp only [Bool.and_eq_true, inRange_iff] at hi
    obtain ⟨⟨a1, a2⟩, a3, a4⟩ := hi
    exact checkSpan_ok ⟨a1, a2, a3, a4⟩ hle (by simp)
  · rw [if_neg hi, if_neg]
    intro hc
    apply hi
    obtain ⟨a1, a2, a3, a4⟩ := ends_of hc
    simp only [Bool.and_eq_true, inRange_iff]
    exact ⟨⟨a1, a2⟩, a3, a4⟩

end Go.Proofs.YtdghcnopoanieaaDoor
