/- What a call has in memory of its own: blocks with known cells, and facts on other memory that stay; the laws by which a walk reads and writes it. Over any program. Conditions: none. -/
import Derived.Test.YtodamdjnbnkmdaaBase
set_option linter.unusedSimpArgs false
set_option linter.unusedVariables false
namespace Go.Proofs.Ytodamdjnbnkmdaa
open Go.RowKit

abbrev LBlk := Nat × TypeId × List Value
abbrev Datum := World → Prop

/-- S hangs on the blocks X alone, and holds at w. -/
def On (w : World) (X : Nat → Prop) (S : Datum) : Prop := ∀ w' : World, (∀ b, X b → w'.heap[b]? = w.heap[b]?) → S w'
/-- S holds at w1, by memory that has come since w. -/
def Fresh (w w1 : World) (S : Datum) : Prop := ∃ X : Nat → Prop, (∀ b, X b → w.heap.size ≤ b ∧ b < w1.heap.size) ∧ On w1 X S

structure Loc (w0 w : World) (L : List LBlk) (D : List Datum) : Prop where
  below : Below w0.heap.size w0 w
  nodup : (L.map (·.1)).Nodup
  ids : ∀ e ∈ L, w0.heap.size ≤ e.1
  cells : ∀ e ∈ L, w.heap[e.1]? = some (.cells e.2.2.toArray e.2.1 (0, 0))
  data : ∀ S ∈ D, ∃ X : Nat → Prop, (∀ b, X b → b < w.heap.size ∧ ∀ e ∈ L, e.1 ≠ b) ∧ On w X S

theorem Loc.start (w : World) : Loc w w [] [] :=
  ⟨Below.refl _ _, by simp, by simp, by simp, by simp⟩

theorem Loc.size {w0 w : World} {L D} (h : Loc w0 w L D) : w0.heap.size ≤ w.heap.size := h.below.size

theorem heap_lt {w : World} {b : Nat} {o : Obj} (h : w.heap[b]? = some o) : b < w.heap.size := by
  rcases Nat.lt_or_ge b w.heap.size with h1 | h1
  · exact h1
  · rw [Array.getElem?_eq_none h1] at h; cases h

theorem Loc.get {w0 w : World} {L D} (h : Loc w0 w L D) {S : Datum} (hS : S ∈ D) : S w := by
  obtain ⟨X, _, hX⟩ := h.data S hS; exact hX w (fun _ _ => rfl)

/-- The world goes on; nothing of what there was has turned, but for the blocks of its own. -/
theorem Loc.grow {w0 w w1 : World} {L D} (h : Loc w0 w L D) (hb : Below w.heap.size w w1) : Loc w0 w1 L D := by
  refine ⟨h.below.trans (hb.mono h.size), h.nodup, h.ids, fun e he => ?_, fun S hS => ?_⟩
  · rw [hb.block _ (heap_lt (h.cells e he))]; exact h.cells e he
  · obtain ⟨X, hX, hO⟩ := h.data S hS
    refine ⟨X, fun b hx => ⟨Nat.lt_of_lt_of_le (hX b hx).1 hb.size, (hX b hx).2⟩, fun w' hw' => hO w' fun b hx => ?_⟩
    rw [hw' b hx, hb.block _ (hX b hx).1]

/-- A fact on memory that has come since w. -/
theorem Loc.more {w0 w w1 : World} {L D} (h : Loc w0 w L D) (hb : Below w.heap.size w w1) {S : Datum} (hS : Fresh w w1 S) : Loc w0 w1 L (S :: D) := by
  have h1 := h.grow hb
  refine ⟨h1.below, h1.nodup, h1.ids, h1.cells, fun S' hS' => ?_⟩
  rcases List.mem_cons.1 hS' with rfl | hS'
  · obtain ⟨X, hX, hO⟩ := hS
    exact ⟨X, fun b hx => ⟨(hX b hx).2, fun e he hne => by have := heap_lt (h.cells e he); have := (hX b hx).1; omega⟩, hO⟩
  · exact h1.data S' hS'

/-- Facts on memory that has come since w. -/
theorem Loc.moreAll {w0 w w1 : World} {L D} (h : Loc w0 w L D) (hb : Below w.heap.size w w1) {Ds : List Datum} (hS : ∀ S ∈ Ds, Fresh w w1 S) : Loc w0 w1 L (Ds ++ D) := by
  have h1 := h.grow hb
  refine ⟨h1.below, h1.nodup, h1.ids, h1.cells, fun S' hS' => ?_⟩
  rcases List.mem_append.1 hS' with hS' | hS'
  · obtain ⟨X, hX, hO⟩ := hS S' hS'
    exact ⟨X, fun b hx => ⟨(hX b hx).2, fun e he hne => by have := heap_lt (h.cells e he); have := (hX b hx).1; omega⟩, hO⟩
  · exact h1.data S' hS'
/-- Block b has these cells. -/
def HeapAt (b : Nat) (T : TypeId) (cs : List Value) : Datum := fun w => w.heap[b]? = some (.cells cs.toArray T (0, 0))
theorem HeapAt.fresh {w w1 : World} {b : Nat} {T : TypeId} {cs : List Value} (h1 : w.heap.size ≤ b) (h2 : w1.heap[b]? = some (.cells cs.toArray T (0, 0))) : Fresh w w1 (HeapAt b T cs) :=
  ⟨fun k => k = b, fun k hk => by subst hk; exact ⟨h1, heap_lt h2⟩, fun w' hw' => by show w'.heap[b]? = _; rw [hw' b rfl]; exact h2⟩

theorem Loc.drop {w0 w : World} {L L' D D'} (h : Loc w0 w L D) (hL : L'.Sublist L) (hD : ∀ S ∈ D', S ∈ D) : Loc w0 w L' D' :=
  ⟨h.below, (hL.map _).nodup h.nodup, fun e he => h.ids e (hL.subset he), fun e he => h.cells e (hL.subset he), fun S hS => by
    obtain ⟨X, hX, hO⟩ := h.data S (hD S hS)
    exact ⟨X, fun b hx => ⟨(hX b hx).1, fun e he => (hX b hx).2 e (hL.subset he)⟩, hO⟩⟩

theorem Loc.box {w0 w : World} {L D} (h : Loc w0 w L D) (T : TypeId) (cs : List Value) : Loc w0 (w.alloc (.cells cs.toArray T)) ((w.heap.size, T, cs) :: L) D := by
  have h1 := h.grow ((Below.refl _ _).alloc (Nat.le_refl _) (.cells cs.toArray T))
  refine ⟨h1.below, ?_, ?_, ?_, ?_⟩
  · simp only [List.map_cons, List.nodup_cons]
    refine ⟨fun hm => ?_, h.nodup⟩
    obtain ⟨e, he, hee⟩ := List.mem_map.1 hm
    have := heap_lt (h.cells e he); omega
  · intro e he
    rcases List.mem_cons.1 he with rfl | he
    · exact h.size
    · exact h.ids e he
  · intro e he
    rcases List.mem_cons.1 he with rfl | he
    · show (w.heap.push _)[w.heap.size]? = _; simp
    · exact h1.cells e he
  · intro S hS
    obtain ⟨X, hX, hO⟩ := h.data S hS
    refine ⟨X, fun b hx => ⟨by have := (hX b hx).1; simp; omega, fun e he => ?_⟩, fun w' hw' => hO w' fun b hx => ?_⟩
    · rcases List.mem_cons.1 he with rfl | he
      · have := (hX b hx).1; show w.heap.size ≠ b; omega
      · exact (hX b hx).2 e he
    · rw [hw' b hx, Below.heap_alloc _ _ _ (hX b hx).1]

theorem Loc.drew {w0 w : World} {L D} (h : Loc w0 w L D) : Loc w0 w.drew L D := h.grow ((Below.refl _ _).drew)

/-- Block b of L has the cells cs; f: L with other cells there. -/
inductive InL (b : Nat) (T : TypeId) (cs : List Value) : List LBlk → (List Value → List LBlk) → Prop where
  | head {L : List LBlk} : InL b T cs ((b, T, cs) :: L) (fun c => (b, T, c) :: L)
  | tail {L : List LBlk} {f : List Value → List LBlk} (x : LBlk) (h : InL b T cs L f) : InL b T cs (x :: L) (fun c => x :: f c)

theorem InL.mem {b T cs L f} (h : InL b T cs L f) : (b, T, cs) ∈ L := by
  induction h with
  | head => exact List.mem_cons_self
  | tail x _ ih => exact List.mem_cons_of_mem _ ih

theorem InL.ids {b T cs L f} (h : InL b T cs L f) (c : List Value) : (f c).map (·.1) = L.map (·.1) := by
  induction h with
  | head => rfl
  | tail x _ ih => simp [ih]

theorem InL.memf {b T cs L f} (h : InL b T cs L f) (c : List Value) (hn : (L.map (·.1)).Nodup) {e : LBlk} (he : e ∈ f c) : e = (b, T, c) ∨ (e ∈ L ∧ e.1 ≠ b) := by
  induction h with
  | @head L =>
    rcases List.mem_cons.1 he with rfl | he
    · exact .inl rfl
    · simp only [List.map_cons, List.nodup_cons] at hn
      exact .inr ⟨List.mem_cons_of_mem _ he, fun hb => hn.1 (List.mem_map.2 ⟨e, he, hb⟩)⟩
  | tail x h ih =>
    simp only [List.map_cons, List.nodup_cons] at hn
    rcases List.mem_cons.1 he with rfl | he
    · exact .inr ⟨List.mem_cons_self, fun hb => hn.1 (List.mem_map.2 ⟨_, h.mem, hb.symm⟩)⟩
    · rcases ih hn.2 he with h1 | ⟨h1, h2⟩
      · exact .inl h1
      · exact .inr ⟨List.mem_cons_of_mem _ h1, h2⟩

theorem Loc.only {w0 w : World} {L D b T cs f} (h : Loc w0 w L D) (hm : InL b T cs L f) : Loc w0 w [(b, T, cs)] [] :=
  ⟨h.below, by simp, fun e he => by rw [List.mem_singleton.1 he]; exact h.ids _ hm.mem, fun e he => by rw [List.mem_singleton.1 he]; exact h.cells _ hm.mem, by simp⟩
theorem Loc.conv {w0 w : World} {L L' D} (h : Loc w0 w L D) (e : L = L') : Loc w0 w L' D := e ▸ h
theorem Loc.heap {w0 w : World} {L D b T cs f} (h : Loc w0 w L D) (hm : InL b T cs L f) : w.heap[b]? = some (.cells cs.toArray T (0, 0)) := h.cells _ hm.mem
theorem Loc.cell {w0 w : World} {L D b T cs f} (h : Loc w0 w L D) (hm : InL b T cs L f) (j : Nat) : w.cell? ⟨b, j, none⟩ = cs[j]? := by
  simp [World.cell?, h.heap hm]

theorem Loc.all {w0 w : World} {L D} (h : Loc w0 w L D) : ∀ e ∈ L, ∀ j, w.cell? ⟨e.1, j, none⟩ = e.2.2[j]? := fun e he j => by
  simp [World.cell?, h.cells e he]

/-- A block that has come since is known. -/
theorem Loc.gain {w0 w w1 : World} {L D} (h : Loc w0 w L D) (hb : Below w.heap.size w w1) {b : Nat} {T : TypeId} {cs : List Value} (hw : w.heap.size ≤ b) (hc : w1.heap[b]? = some (.cells cs.toArray T (0, 0))) : Loc w0 w1 ((b, T, cs) :: L) D := by
  have h1 := h.grow hb
  refine ⟨h1.below, ?_, ?_, ?_, ?_⟩
  · simp only [List.map_cons, List.nodup_cons]
    refine ⟨fun hm => ?_, h.nodup⟩
    obtain ⟨e, he, hee⟩ := List.mem_map.1 hm
    have := heap_lt (h.cells e he); omega
  · intro e he
    rcases List.mem_cons.1 he with rfl | he
    · exact Nat.le_trans h.size hw
    · exact h.ids e he
  · intro e he
    rcases List.mem_cons.1 he with rfl | he
    · exact hc
    · exact h1.cells e he
  · intro S hS
    obtain ⟨X, hX, hO⟩ := h.data S hS
    refine ⟨X, fun k hx => ⟨Nat.lt_of_lt_of_le (hX k hx).1 hb.size, fun e he => ?_⟩, fun w' hw' => hO w' fun k hx => ?_⟩
    · rcases List.mem_cons.1 he with rfl | he
      · have := (hX k hx).1; show b ≠ k; omega
      · exact (hX k hx).2 e he
    · rw [hw' k hx, hb.block _ (hX k hx).1]

/-- For a region that draws its order: a condition on worlds that what the region does keeps. -/
def Held (S : World → Prop) (w : World) : Prop := S w
theorem Loc.hold {w0 w : World} {L D} (h : Loc w0 w L D) : ∃ S : World → Prop, (∀ w', Held S w' → ∀ e ∈ L, ∀ j, w'.cell? ⟨e.1, j, none⟩ = e.2.2[j]?) ∧ (∀ w', Held S w' → Loc w0 w' L D) ∧
    (∀ w', Below w.heap.size w w' → Held S w') :=
  ⟨fun w' => Below w.heap.size w w', fun _ hb => (h.grow hb).all, fun _ hb => h.grow hb, fun _ h => h⟩

/-- The cells of one block are others. -/
theorem Loc.put {w0 w w1 : World} {L D b T cs f} (h : Loc w0 w L D) (hm : InL b T cs L f) (c : List Value) (hos : w1.os = w.os) (ht : w1.tape = w.tape) (ho : w1.output = w.output)
    (hs : w.heap.size ≤ w1.heap.size) (hb : w1.heap[b]? = some (.cells c.toArray T (0, 0))) (hr : ∀ k, k < w.heap.size → k ≠ b → w1.heap[k]? = w.heap[k]?) : Loc w0 w1 (f c) D := by
  have hid : w0.heap.size ≤ b := h.ids _ hm.mem
  refine ⟨⟨hos.trans h.below.os, ht.trans h.below.tape, ho.trans h.below.output, Nat.le_trans h.size hs, fun k hk => ?_⟩, by rw [hm.ids]; exact h.nodup, fun e he => ?_, fun e he => ?_, fun S hS => ?_⟩
  · rw [hr k (Nat.lt_of_lt_of_le hk h.size) (by omega)]; exact h.below.block k hk
  · rcases hm.memf c h.nodup he with rfl | ⟨h1, _⟩
    · exact hid
    · exact h.ids e h1
  · rcases hm.memf c h.nodup he with rfl | ⟨h1, h2⟩
    · exact hb
    · rw [hr _ (heap_lt (h.cells e h1)) h2]; exact h.cells e h1
  · obtain ⟨X, hX, hO⟩ := h.data S hS
    refine ⟨X, fun k hx => ⟨Nat.lt_of_lt_of_le (hX k hx).1 hs, fun e he => ?_⟩, fun w' hw' => hO w' fun k hx => ?_⟩
    · rcases hm.memf c h.nodup he with rfl | ⟨h1, _⟩
      · exact (hX k hx).2 (b, T, cs) hm.mem
      · exact (hX k hx).2 e h1
    · rw [hw' k hx, hr k (hX k hx).1 (fun hk => (hX k hx).2 _ hm.mem hk.symm)]
end Go.Proofs.Ytodamdjnbnkmdaa
