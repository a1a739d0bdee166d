/- A program that is read: its code is within its room. Conditions: none. -/
import Derived.Test.YtdghcnopoanieaaDoorOpn
set_option linter.unusedSimpArgs false
set_option linter.unusedVariables false
namespace Go.Proofs.YtdghcnopoanieaaDoor
open Go.ChangeShapes Go.WideShapes Go.ChangeAt Go.RowKit Go.Deep Go.Joins
section
variable {H : Type} {enc : TypeId × Value → H} {w : World} {base : Nat} {spare : Nat → Bool} {held : Bool}
theorem prog_cap {fuel : Nat} {cs : List Value} {x : DataW H × List MemPlace} {v f : Int} {p : Option Addr} {n cap : Nat} (h : DataW.trod enc Tryd.prog w base spare held fuel 24 cs = some x)
    (e : cs = [.int .i64 v, .int .i64 f, .slice p n cap]) : n ≤ cap := by
  obtain ⟨parts, ys, m, rfl, hpl, -, -, hf⟩ := open_struct Tryd.underlying24 (by kernel_rfl) h
  obtain ⟨a, b, c, rfl⟩ := list_len3 hpl
  obtain ⟨_, y0, p0, -, t0⟩ := hf 0 _ rfl
  obtain ⟨_, y1, p1, -, t1⟩ := hf 1 _ rfl
  obtain ⟨_, y2, p2, -, t2⟩ := hf 2 _ rfl
  cases p0; cases p1; cases p2
  obtain ⟨k0, rfl, -, -⟩ := DataW.trod_int Tryd.underlying3 t0
  obtain ⟨k1, rfl, -, -⟩ := DataW.trod_int Tryd.underlying3 t1
  rcases open_slice Tryd.underlying22 t2 with ⟨rfl, -⟩ | ⟨⟨B, O, S⟩, len, cp, mm, nn, D, Pl, rfl, -, hlc, -⟩
  · simp at e
    omega
  · simp at e
    omega
end
end Go.Proofs.YtdghcnopoanieaaDoor
