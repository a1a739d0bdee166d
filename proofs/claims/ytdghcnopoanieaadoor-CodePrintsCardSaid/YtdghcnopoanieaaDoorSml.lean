/- The small program of the laws. Conditions: none. -/
import Derived.Test.YtdghcnopoanieaaDoorPrg
set_option linter.unusedSimpArgs false
set_option linter.unusedVariables false
namespace Go.Proofs.YtdghcnopoanieaaDoor
open Go.RowKit
def smallIs (k : Nat) : Ins := if k = 0 then ⟨1, 0, 0, 0, 5, 0⟩ else ⟨18, 0, 0, 0, 0, 0⟩
abbrev smallC : List Value := [.int .i64 1, .int .i64 0, .int .i64 0, .int .i64 0, .int .i64 5, .int .i64 0, .int .i64 18, .int .i64 0, .int .i64 0, .int .i64 0, .int .i64 0, .int .i64 0]
abbrev smallP (b : Nat) : Pg := ⟨1, 0, some ⟨b, 0, none⟩, 2, 2⟩
theorem small_code {w : World} {b : Nat} (h : w.heap[b]? = some (.cells smallC.toArray 47 (0, 0))) : CodeAt w (smallP b) smallIs := by
  refine ⟨b, 0, fun _ => rfl, fun k hk => ⟨heap_lt h, fun j v hj => ?_⟩⟩
  have hk2 : k < 2 := hk
  have hj6 : j < 6 := (List.getElem?_eq_some_iff.1 hj).1
  have e : w.cell? ⟨b, 0 + k * 6 + j, none⟩ = smallC[k * 6 + j]? := by simp [World.cell?, h]
  rw [e, ← hj]
  obtain rfl | rfl : k = 0 ∨ k = 1 := by omega
  all_goals
    obtain rfl | rfl | rfl | rfl | rfl | rfl : j = 0 ∨ j = 1 ∨ j = 2 ∨ j = 3 ∨ j = 4 ∨ j = 5 := by omega
    all_goals rfl
theorem small_right (b : Nat) : checkProg (smallP b) smallIs = 0 := rfl

set_option maxRecDepth 100000 in
set_option maxHeartbeats 400000 in
theorem small_any (w : World) :
    Calls Tryd.prog 23 #[] w fun e w' => ∃ b, e = .returned (smallP b).v ∧ w.heap.size ≤ b ∧ w'.heap[b]? = some (.cells smallC.toArray 47 (0, 0)) ∧ Below w.heap.size w w' := by
  have hL := Loc.start w
  go_enter Tryd.func23, Tryd.ntmps23
  go_wp2_with (first | (with_reducible first | refine lld hL ?_ | ((first | refine lbx hL ?_ | refine lal hL ?_ | refine lbs hL ?_); clear hL; intro bl w1 hL) | (refine lst' hL ?_; clear hL; intro w1 hL)))
  (try simp only [Exit.inBlock, Exit.then]); refine rt1 ?_

  exact ⟨_, rfl, hL.ids _ List.mem_cons_self, hL.cells _ List.mem_cons_self, hL.below⟩
def SmR (B : Nat) : Value → World → Prop := fun v w => ∃ b, B ≤ b ∧ v = (smallP b).v ∧ w.heap[b]? = some (.cells smallC.toArray 47 (0, 0))
theorem SmR.stable {B : Nat} : Stable (SmR B) := by
  rintro v w w' hb ⟨b, h1, h2, h3⟩; exact ⟨b, h1, h2, by rw [hb.block _ (heap_lt h3)]; exact h3⟩
end Go.Proofs.YtdghcnopoanieaaDoor
