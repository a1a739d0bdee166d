/- A slice of ints in a call's own memory; or one that was there. Conditions: none. -/
import Derived.Test.YteimpfplgdhclaaGreatCod
set_option linter.unusedSimpArgs false
set_option linter.unusedVariables false
namespace Go.Proofs.YteimpfplgdhclaaGreat
open Go.RowKit

/-- A slice of these ints in blocks from B on. -/
def OwnI (B : Nat) (w : World) (s : Sl) (l : List Int) : Prop := ∃ R : List LBlk, RowS 3 1 s.p s.n s.cap (l.map (Value.int .i64)) R ∧ Own B w R
theorem OwnI.ints {B : Nat} {w : World} {s : Sl} {l : List Int} (h : OwnI B w s l) : IntsAt w s l := by
  obtain ⟨R, hr, ho⟩ := h
  exact hr.ints ho
theorem OwnI.nil {B : Nat} {w : World} : OwnI B w nilSl [] := ⟨[], RowS.nil, Own.nil⟩
theorem OwnI.grow {B : Nat} {w w' : World} {s : Sl} {l : List Int} (h : OwnI B w s l) (hb : Below w.heap.size w w') : OwnI B w' s l := by
  obtain ⟨R, hr, ho⟩ := h
  exact ⟨R, hr, ho.grow hb⟩
theorem OwnI.mono {B B' : Nat} {w : World} {s : Sl} {l : List Int} (h : OwnI B w s l) (hB : B' ≤ B) : OwnI B' w s l := by
  obtain ⟨R, hr, ho⟩ := h
  exact ⟨R, hr, ho.mono hB⟩
/-- A slice of ints: the one that was handed in, or one in own memory. -/
def KeptI (B : Nat) (w : World) (s0 : Sl) (l0 : List Int) (s : Sl) (l : List Int) : Prop := ∃ R : List LBlk, (s = s0 ∧ l = l0 ∧ R = [] ∨ RowS 3 1 s.p s.n s.cap (l.map (Value.int .i64)) R) ∧ Own B w R
theorem KeptI.self {B : Nat} {w : World} {s : Sl} {l : List Int} : KeptI B w s l s l := ⟨[], .inl ⟨rfl, rfl, rfl⟩, Own.nil⟩
theorem OwnI.kept {B : Nat} {w : World} {s0 : Sl} {l0 : List Int} {s : Sl} {l : List Int} (h : OwnI B w s l) : KeptI B w s0 l0 s l := by
  obtain ⟨R, hr, ho⟩ := h
  exact ⟨R, .inr hr, ho⟩
end Go.Proofs.YteimpfplgdhclaaGreat
