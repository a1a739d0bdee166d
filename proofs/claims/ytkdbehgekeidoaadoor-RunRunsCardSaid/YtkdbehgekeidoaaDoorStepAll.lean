/- A run's step as a plain function; the machine's step and the reference's StepOf answer just that. Conditions: the program is right, and the run's values are. -/
import Derived.Test.YtkdbehgekeidoaaDoorRefStep
import Derived.Test.YtkdbehgekeidoaaDoorRefStep2
import Derived.Test.YtkdbehgekeidoaaDoorRefStep3
import Derived.Test.YtkdbehgekeidoaaDoorRefStep4
import Derived.Test.YtkdbehgekeidoaaDoorRefStep5
import Derived.Test.YtkdbehgekeidoaaDoorRefStep6
import Derived.Test.YtkdbehgekeidoaaDoorRefStep7
import Derived.Test.YtkdbehgekeidoaaDoorRefStep8
set_option linter.unusedSimpArgs false
set_option linter.unusedVariables false
namespace Go.Proofs.YtkdbehgekeidoaaDoor
open Go.RowKit

def stepI (p : Pg) (ins : Sl) (xs : Nat → Int) (i : Ins) (s : Rs) : Rs :=
  if i.kind = 1 then s.set i.to.toNat ⟨1, i.n⟩
  else if i.kind = 2 then s.set i.to.toNat (truthV (i.n == 1))
  else if i.kind = 3 then s.set i.to.toNat dV
  else if i.kind = 4 then s.set i.to.toNat (s.val i.a.toNat)
  else if i.kind ≤ 8 then countS i.kind i.to.toNat i.a.toNat i.b.toNat s
  else if i.kind = 9 then s.set i.to.toNat (truthV (sameB (s.val i.a.toNat) (s.val i.b.toNat)))
  else if i.kind = 10 then s.set i.to.toNat (truthV (!countsV (s.val i.a.toNat)))
  else if i.kind = 11 then createS i.to.toNat p.fields.toNat s
  else if i.kind = 12 then (if (s.val i.a.toNat).kind = 3 then s.set i.to.toNat (s.field (s.val i.a.toNat).n.toNat i.n.toNat) else { s with ending := 2 })
  else if i.kind = 13 then (if (s.val i.a.toNat).kind = 3 then putS (s.val i.a.toNat).n.toNat i.n.toNat (s.val i.b.toNat) s else { s with ending := 2 })
  else if i.kind = 14 then takeS i i.to.toNat ins xs s
  else onwardS i.kind i.goto i.a.toNat s
def stepM (p : Pg) (is : Nat → Ins) (ins : Sl) (xs : Nat → Int) (s : Rs) : Rs := if s.at' = p.n then { s with ending := 1 } else stepI p ins xs (is s.at'.toNat) s
def stepS (p : Pg) (is : Nat → Ins) (ins : Sl) (xs : Nat → Int) (s : Rs) : Rs := if s.ending = 0 then stepM p is ins xs s else s

/-- What stepping asks of a run. -/
structure RightS (p : Pg) (s : Rs) : Prop where
  a : 0 ≤ s.at' ∧ s.at' ≤ p.n
  nv : (s.vars.length : Int) = p.vars
  nt : s.things.length ≤ 100
  nf : ∀ k, k < s.things.length → ((s.thing k).2.length : Int) = p.fields
  vals : ∀ k, k < s.vars.length → isValue (s.val k) s.things.length = true
  fvals : ∀ k, k < s.things.length → ∀ j, j < (s.thing k).2.length → isValue (s.field k j) s.things.length = true
  tk : 0 ≤ s.taken ∧ s.taken ≤ 9223372036854775807
/-- What it asks of an instruction. -/
structure ReadyI (p : Pg) (i : Ins) : Prop where
  kd : betw i.kind 1 19 = true
  to : nTo i.kind = true → 0 ≤ i.to ∧ i.to < p.vars
  a : nA i.kind = true → 0 ≤ i.a ∧ i.a < p.vars
  b : nB i.kind = true → 0 ≤ i.b ∧ i.b < p.vars
  f : (i.kind = 12 ∨ i.kind = 13) → 0 ≤ i.n ∧ i.n < p.fields
  go : nGoto i.kind = true → 0 ≤ i.goto ∧ i.goto ≤ p.n
  n1 : i.kind = 1 → -2147483648 ≤ i.n ∧ i.n ≤ 2147483647
  n2 : i.kind = 2 → 0 ≤ i.n ∧ i.n ≤ 1
  n14 : i.kind = 14 → 0 ≤ i.n ∧ i.n ≤ 1000000
theorem ready_of {p : Pg} {i : Ins} (h : checkOne p i = 0) : ReadyI p i := by
  unfold checkOne at h
  split at h
  · cases h
  rename_i h1
  split at h
  · cases h
  rename_i h2
  split at h
  · cases h
  rename_i h3
  simp only [Bool.not_eq_true', Bool.not_eq_false] at h1
  simp only [noneB, Bool.not_eq_true, Bool.or_eq_false_iff, Bool.and_eq_false_iff, Bool.not_eq_false', betw, Bool.and_eq_true, decide_eq_true_eq, beq_eq_false_iff_ne] at h2
  simp only [rangeB, Bool.not_eq_true, Bool.or_eq_false_iff, Bool.and_eq_false_iff, Bool.not_eq_false', betw, Bool.and_eq_true, decide_eq_true_eq, beq_eq_false_iff_ne] at h3
  obtain ⟨⟨⟨⟨e1, e2⟩, e3⟩, e4⟩, e5⟩ := h2
  obtain ⟨⟨f1, f2⟩, f3⟩ := h3
  refine ⟨by simpa using h1, fun h => ?_, fun h => ?_, fun h => ?_, fun h => ?_, fun h => ?_, fun h => ?_, fun h => ?_, fun h => ?_⟩
  · rcases e1 with e | e
    · rw [h] at e; cases e
    · omega
  · rcases e2 with e | e
    · rw [h] at e; cases e
    · omega
  · rcases e3 with e | e
    · rw [h] at e; cases e
    · omega
  · rcases e4 with e | e
    · rcases h with h | h <;> simp [h] at e
    · omega
  · rcases e5 with e | e
    · rw [h] at e; cases e
    · omega
  · rcases f1 with e | e
    · exact (e h).elim
    · omega
  · rcases f2 with e | e
    · exact (e h).elim
    · omega
  · rcases f3 with e | e
    · exact (e h).elim
    · omega
end Go.Proofs.YtkdbehgekeidoaaDoor
