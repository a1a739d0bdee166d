/- What Parse hands back, in plain words; a program in new memory. Conditions: none. -/
import Derived.Test.YtdghcnopoanieaaDoorParP
import Derived.Test.YtdghcnopoanieaaDoorPrg
set_option linter.unusedSimpArgs false
set_option linter.unusedVariables false
namespace Go.Proofs.YtdghcnopoanieaaDoor
open Go.RowKit

def insAt (is : List Ins) : Nat → Ins := fun k => is.getD k (zeroI 0)
def checkL (v f : Int) (is : List Ins) : Int := checkProg ⟨v, f, none, is.length, 0⟩ (insAt is)
/-- The program, if there is one; the line; the error. -/
def progD (l : Byt) : Option ((Int × Int) × List Ins) × Int × Int :=
  if 4000 < l.length then (none, 0, 2) else match parseD l with
    | .error n => (none, (n : Int), 1)
    | .ok (h, is) => if checkL h.1 h.2 is = 0 then (some (h, is), 0, 0) else (none, 0, checkL h.1 h.2 is)
/-- A program handed back: its head, and its instructions in memory. -/
structure PgAt (w : World) (p : Pg) (is : List Ins) : Prop where
  n : p.n = is.length
  m : p.n ≤ 5000
  at' : CodeAt w p (insAt is)
theorem PgAt.grow {w w' : World} {p : Pg} {is : List Ins} (h : PgAt w p is) (hb : Below w.heap.size w w') : PgAt w' p is := ⟨h.n, h.m, h.at'.grow hb⟩
abbrev zeroPg : Pg := ⟨0, 0, none, 0, 0⟩
theorem PgAt.zero (w : World) : PgAt w zeroPg [] := ⟨rfl, by decide, 0, 0, fun h => absurd h (by decide), fun k hk => absurd hk (Nat.not_lt_zero k)⟩
theorem checkProg_len {p : Pg} {is : List Ins} (h : p.n = is.length) : checkProg p (insAt is) = checkL p.vars p.fields is := by
  obtain ⟨v, f, pc, n, cap⟩ := p
  dsimp only at h
  subst h
  rfl
theorem flat_at : ∀ (is : List Ins) (k j : Nat), k < is.length → j < 6 → (is.flatMap Ins.cells)[k * 6 + j]? = (insAt is k).cells[j]?
  | [], k, j, h, _ => absurd h (Nat.not_lt_zero k)
  | i :: is, 0, j, _, hj => by
    rw [List.flatMap_cons, List.getElem?_append_left (by simp; omega), Nat.zero_mul, Nat.zero_add]; rfl
  | i :: is, k + 1, j, h, hj => by
    rw [List.flatMap_cons, List.getElem?_append_right (by simp; omega)]
    rw [show (k + 1) * 6 + j - i.cells.length = k * 6 + j by simp; omega]
    have := flat_at is k j (by simpa using h) hj
    rw [this]; rfl
theorem RowS.code {w : World} {B : Nat} {v f : Int} {p : Option Addr} {cap : Nat} {R : List LBlk} {is : List Ins} (h : RowS 47 6 p is.length cap (is.flatMap Ins.cells) R) (ho : Own B w R) : CodeAt w ⟨v, f, p, is.length, cap⟩ (insAt is) := by
  obtain ⟨h1, h2⟩ := h
  rcases h2 with ⟨h3, h4, _⟩ | ⟨g, cs, hp, hR, h3, h4, hcs, htk⟩
  · exact ⟨0, 0, fun h => absurd h (by show ¬ 0 < is.length; omega), fun k hk => absurd hk (by show ¬ k < is.length; omega)⟩
  · subst hR
    have hg := (ho.at' _ List.mem_cons_self).2
    refine ⟨g, 0, fun _ => hp, fun k hk => ⟨heap_lt hg, fun j u hj => ?_⟩⟩
    have hk' : k < is.length := hk
    have hj6 : j < 6 := by
      have := (List.getElem?_eq_some_iff.1 hj).1
      simpa using this
    have h5 := flat_at is k j hk' hj6
    rw [hj, ← htk, List.getElem?_take] at h5
    split at h5
    · rw [Nat.zero_add]
      simp [World.cell?, hg, h5]
    · cases h5
end Go.Proofs.YtdghcnopoanieaaDoor
