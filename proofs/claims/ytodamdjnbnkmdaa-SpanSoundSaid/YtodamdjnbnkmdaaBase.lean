/- Plain definitions: what the functions of the program compute, in plain terms, with no program in sight. Conditions: none. -/
import Derived.Test.YtodamdjnbnkmdaaRows
import Derived.WalkKit
import Derived.WalkSpells
import Derived.WalkLawsBesides
import Derived.Lib.Hide
import Derived.LoopN
import Derived.Deep.RegionHeld3
set_option linter.unusedSimpArgs false
set_option linter.unusedVariables false
namespace Go.Proofs.Ytodamdjnbnkmdaa
open Go.RowKit

def inRange (n : Int) : Bool := decide (-2147483648 ≤ n) && decide (n ≤ 2147483647)
structure Span where
  none : Bool
  lo : Int
  hi : Int
abbrev Span.v (s : Span) : Value := .agg #[.bool s.none, .int .i64 s.lo, .int .i64 s.hi]
abbrev noSpan : Span := ⟨true, 0, 0⟩
abbrev zeroSpan : Span := ⟨false, 0, 0⟩
def checkSpan (s : Span) : Int := if !(inRange s.lo) || !(inRange s.hi) then 3 else if s.none && (s.lo != 0 || s.hi != 0) then 1 else if s.hi < s.lo then 4 else 0
def checkSpans (s t : Span) : Int := if checkSpan s = 0 then checkSpan t else checkSpan s
def inSpan (s : Span) (n : Int) : Bool := !s.none && (decide (s.lo ≤ n) && decide (n ≤ s.hi))
def both (s t : Span) : Span := if s.none then t else if t.none then s else ⟨false, min s.lo t.lo, max s.hi t.hi⟩
def common (s t : Span) : Span := if s.none || t.none || decide (min s.hi t.hi < max s.lo t.lo) then noSpan else ⟨false, max s.lo t.lo, min s.hi t.hi⟩
def inside (s t : Span) : Bool := s.none || (!t.none && decide (t.lo ≤ s.lo) && decide (s.hi ≤ t.hi))
def wider (s t : Span) : Span := if s.none || t.none then both s t else ⟨false, if t.lo < s.lo then -2147483648 else min s.lo t.lo, if s.hi < t.hi then 2147483647 else max s.hi t.hi⟩
def min2 (a b : Int) : Int := if b < a then b else a
def max2 (a b : Int) : Int := if b > a then b else a
def min4 (a b c d : Int) : Int := min2 (min2 (min2 a b) c) d
def max4 (a b c d : Int) : Int := max2 (max2 (max2 a b) c) d
def rawMade (kind : Int) (s t : Span) : Int × Int :=
  if kind = 6 then (s.lo - t.hi, s.hi - t.lo) else if kind = 7 then (min4 (s.lo * t.lo) (s.lo * t.hi) (s.hi * t.lo) (s.hi * t.hi), max4 (s.lo * t.lo) (s.lo * t.hi) (s.hi * t.lo) (s.hi * t.hi)) else (s.lo + t.lo, s.hi + t.hi)
def made (kind : Int) (s t : Span) : Span :=
  if s.none || t.none then noSpan else if inRange (rawMade kind s t).1 && inRange (rawMade kind s t).2 then ⟨false, (rawMade kind s t).1, (rawMade kind s t).2⟩ else ⟨false, -2147483648, 2147483647⟩

theorem bcell {W w1 : World} (hb : Below W.heap.size W w1) : (∀ b o, b < W.heap.size → w1.cell? ⟨b, o, none⟩ = W.cell? ⟨b, o, none⟩) ∧ (∀ b o, b < W.heap.size → w1.frozen? ⟨b, o, none⟩ = W.frozen? ⟨b, o, none⟩) :=
  ⟨fun b o h => hb.cell (p := ⟨b, o, none⟩) h, fun b o h => hb.frozen (p := ⟨b, o, none⟩) h⟩

theorem inRange_iff {n : Int} : inRange n = true ↔ -2147483648 ≤ n ∧ n ≤ 2147483647 := by simp [inRange]
end Go.Proofs.Ytodamdjnbnkmdaa
