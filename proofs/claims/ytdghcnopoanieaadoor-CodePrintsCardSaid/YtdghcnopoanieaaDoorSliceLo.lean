/- 'x[lo:]' and 'x[:hi]' of a slice. Over any program. Conditions: the bounds. -/
import Derived.Test.YtdghcnopoanieaaDoorGua
set_option linter.unusedSimpArgs false
set_option linter.unusedVariables false
namespace Go.Proofs.YtdghcnopoanieaaDoor
open Go.RowKit
section
variable {P : Program} {ops : Array Oper} {Q : Exit → Act → World → Prop} {a : Act} {w0 w : World} {rest : List Oper} {L : List LBlk} {D : List Datum}
  {d : Option Tmp} {ty : TypeId} {pos : String} {after : Array Edge} {g : Option (Nat × Bool)}

/-- 'x[lo:]', lo within the length. -/
theorem loc_sliceLo {T E : TypeId} {z : List Value} {x lo : Operand} {ad q : Addr} {n c l : Nat} {k : IntKind} (hw : Region.wanted ⟨d, .slice T x (some lo) none none, ty, pos, after, g⟩ (yielded ops a.tmps) = true) (hT : SliceT P T E z)
    (hx : a.eval x = .slice (some ad) n c) (hlo : a.eval lo = .int k (l : Int)) (h1 : l ≤ n) (h2 : l < c) (hq : ad.add (l * z.length) = q)
    (h : wpList P ops Q rest (a.put d (.slice (some q) (n - l) (c - l))) w) : wpList P ops Q (⟨d, .slice T x (some lo) none none, ty, pos, after, g⟩ :: rest) a w :=
  wpList_val (o := ⟨d, .slice T x (some lo) none none, ty, pos, after, g⟩) (v := .slice (some q) (n - l) (c - l)) (w' := w) hw (by
    subst hq
    have h3 : c ≠ l := by omega
    have h4 : (l : Int) ≤ n := by omega
    simp [execOp, hx, hlo, Instr.sliceAt, Instr.slice, Instr.sliceBounds, Instr.sliceBound, asIntOf, Sem.run_bind, run_underlying hT.und, run_sizeOf_of hT.size.size, h3, h4]; omega) h
/-- 'x[:hi]', hi within the room. -/
theorem loc_sliceHi {T E : TypeId} {z : List Value} {x hi : Operand} {b off : Nat} {n c l : Nat} {k : IntKind} (hw : Region.wanted ⟨d, .slice T x none (some hi) none, ty, pos, after, g⟩ (yielded ops a.tmps) = true) (hT : SliceT P T E z)
    (hx : a.eval x = .slice (some ⟨b, off, none⟩) n c) (hhi : a.eval hi = .int k (l : Int)) (h1 : l ≤ c)
    (h : wpList P ops Q rest (a.put d (.slice (some ⟨b, off, none⟩) l c)) w) : wpList P ops Q (⟨d, .slice T x none (some hi) none, ty, pos, after, g⟩ :: rest) a w :=
  wpList_val (o := ⟨d, .slice T x none (some hi) none, ty, pos, after, g⟩) (v := .slice (some ⟨b, off, none⟩) l c) (w' := w) hw (by
    have h4 : (l : Int) ≤ c := by omega
    simp [execOp, hx, hhi, Instr.sliceAt, Instr.slice, Instr.sliceBounds, Instr.sliceBound, asIntOf, Sem.run_bind, run_underlying hT.und, run_sizeOf_of hT.size.size, h4, add_addr]; omega) h
end
end Go.Proofs.YtdghcnopoanieaaDoor
