/- What a reading says of guesses. Conditions: none. -/
import Derived.Test.YteimpfplgdhclaaGreatOpn
import Derived.Test.YteimpfplgdhclaaGreatGuessA
set_option linter.unusedSimpArgs false
set_option linter.unusedVariables false
namespace Go.Proofs.YteimpfplgdhclaaGreat
open Go.ChangeShapes Go.WideShapes Go.ChangeAt Go.RowKit Go.Deep Go.Joins

section
variable {H : Type} {enc : TypeId × Value → H} {w : World} {base : Nat} {spare : Nat → Bool} {held : Bool}
theorem ListC.intsAt {w : World} {s : Sl} {g : Nat → Int} (hn : s.n ≤ 9223372036854775807) (h : ListC w 1 s.p s.n (fun k => [.int .i64 (g k)])) : IntsAt w s ((List.range s.n).map g) := by
  obtain ⟨b, o, h1, h2⟩ := h.ex
  refine ⟨by simp, by simpa using hn, b, o, by simpa using h1, fun k hk => ?_⟩
  have hk' : k < s.n := by simpa using hk
  refine ⟨(h2 k hk').1, fun j v hj => (h2 k hk').2 j v ?_⟩
  simpa [List.getD_eq_getElem?_getD, hk'] using hj
theorem open_span {fuel : Nat} {cs : List Value} {x : DataW H × List MemPlace} (h : DataW.trod enc Tryz.prog w base spare held fuel 26 cs = some x) : ∃ s : Span, cs = [.bool s.none, .int .i64 s.lo, .int .i64 s.hi] := by
  obtain ⟨parts, ys, n, rfl, hpl, -, -, hf⟩ := open_struct Tryz.underlying26 (by kernel_rfl) h
  obtain ⟨a, b, c, rfl⟩ := list_len3 hpl
  obtain ⟨_, y0, p0, -, t0⟩ := hf 0 _ rfl
  obtain ⟨_, y1, p1, -, t1⟩ := hf 1 _ rfl
  obtain ⟨_, y2, p2, -, t2⟩ := hf 2 _ rfl
  cases p0; cases p1; cases p2
  obtain ⟨k0, rfl, -⟩ := DataW.trod_bool Tryz.underlying4 t0
  obtain ⟨k1, rfl, -, -⟩ := DataW.trod_int Tryz.underlying3 t1
  obtain ⟨k2, rfl, -, -⟩ := DataW.trod_int Tryz.underlying3 t2
  exact ⟨⟨k0, k1, k2⟩, rfl⟩
theorem open_guess {fuel : Nat} {cs : List Value} {x : DataW H × List MemPlace} (h : DataW.trod enc Tryz.prog w base spare held fuel 29 cs = some x) : ∃ (g : Gu) (l : List Int), cs = g.cells ∧ IntsAt w g.s l := by
  obtain ⟨parts, ys, n, rfl, hpl, -, -, hf⟩ := open_struct Tryz.underlying29 (by kernel_rfl) h
  obtain ⟨a, b, c, d, e, rfl⟩ := list_len5 hpl
  obtain ⟨_, y0, p0, -, t0⟩ := hf 0 _ rfl
  obtain ⟨_, y1, p1, -, t1⟩ := hf 1 _ rfl
  obtain ⟨_, y2, p2, -, t2⟩ := hf 2 _ rfl
  obtain ⟨_, y3, p3, -, t3⟩ := hf 3 _ rfl
  obtain ⟨_, y4, p4, -, t4⟩ := hf 4 _ rfl
  cases p0; cases p1; cases p2; cases p3; cases p4
  obtain ⟨k0, rfl, -⟩ := DataW.trod_bool Tryz.underlying4 t0
  obtain ⟨s, rfl⟩ := open_span t1
  obtain ⟨k2, rfl, -⟩ := DataW.trod_bool Tryz.underlying4 t2
  obtain ⟨k3, rfl, -⟩ := DataW.trod_bool Tryz.underlying4 t3
  obtain ⟨sl, g, rfl, hn, hl⟩ := open_inputs t4
  exact ⟨⟨k0, s, k2, k3, sl⟩, _, rfl, hl.intsAt hn⟩
end
end Go.Proofs.YteimpfplgdhclaaGreat
