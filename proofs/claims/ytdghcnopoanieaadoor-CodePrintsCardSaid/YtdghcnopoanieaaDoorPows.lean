/- The library's table of powers of ten, and Itoa over it. Conditions: the table reads as it is laid. -/
import Derived.Test.YtdghcnopoanieaaDoorCod
import Derived.Test.YtdghcnopoanieaaDoorShelfP2
set_option linter.unusedSimpArgs false
set_option linter.unusedVariables false
namespace Go.Proofs.YtdghcnopoanieaaDoor
open Go.RowKit

theorem below_grow' (w : World) (k : Nat) (os : Array Obj) : Below w.heap.size w (Sort.grow (w.drewN k) os) := by
  refine ⟨rfl, rfl, rfl, by simp [Sort.grow], fun b hb => ?_⟩
  show ((w.drewN k).heap ++ os)[b]? = w.heap[b]?
  have : (w.drewN k).heap = w.heap := rfl
  rw [this, Array.getElem?_append_left hb]
/-- The library's table of powers of ten reads as it is laid. -/
def Pows (w : World) : Prop := Lib.TabIs Tryd.prog w "internal/strconv.uint64pow10" .u64 Lib.pow10Tab
theorem Pows.grow {w w' : World} (h : Pows w) (hb : Below w.heap.size w w') : Pows w' := by
  unfold Pows Lib.TabIs World.var? at *
  obtain ⟨g, hg, hc⟩ := Option.bind_eq_some_iff.1 h
  refine Option.bind_eq_some_iff.2 ⟨g, hg, ?_⟩
  cases hh : w.heap[g]? with
  | none => rw [hh] at hc; cases hc
  | some o => rw [hb.block _ (heap_lt hh)]; exact hc
end Go.Proofs.YtdghcnopoanieaaDoor
