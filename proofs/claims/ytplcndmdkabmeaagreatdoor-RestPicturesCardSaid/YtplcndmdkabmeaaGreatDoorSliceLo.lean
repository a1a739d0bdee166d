/- 'x[lo:]' and 'x[:hi]' of a slice. Over any program. Conditions: the bounds. -/
import Derived.Test.YtplcndmdkabmeaaGreatDoorGua
set_option linter.unusedSimpArgs false
set_option linter.unusedVariables false
set_option maxRecDepth 100000
namespace Go.Proofs.YtplcndmdkabmeaaGreatDoor
open Go.Proofs.Tryz
open Go.RowKit
section
variable {P : Program} {ops : Array Oper} {Q : Exit -> Act -> World -> Prop} {a : Act} {w0 w : World} {rest : List Oper} {L : List zg} {D : List zl}
 {d:Option Tmp} {ty:TypeId} {pos:String} {after:Array Edge} {g:Option (Nat × Bool)}
theorem Us {T E:TypeId}{z:List Value}{x lo:Operand}{ad q:Addr}{n c l:Nat}{k:IntKind}(C:Region.wanted ⟨d,.slice T x (some lo) none none,ty,pos,after,g⟩ (yielded ops a.tmps)=true) (hT:q5 P T E z)
  (I:a.eval x=.slice (some ad) n c) (p:a.eval lo=.int k (l:Int)) (R:l<=n) (U:l<c) (t:ad.add (l*z.length)=q)
  (h:wpList P ops Q rest (a.put d (.slice (some q) (n - l) (c - l))) w):wpList P ops Q (⟨d,.slice T x (some lo) none none,ty,pos,after,g⟩::rest) a w:=
 qp (o:=⟨d,.slice T x (some lo) none none,ty,pos,after,g⟩) (v:=.slice (some q) (n - l) (c - l)) (w':=w) C (by
  subst t;have i:c≠l:=by omega
  have j:(l:Int)<=n:=by omega
  simp[execOp,I,p,Instr.sliceAt,Instr.slice,Instr.sliceBounds,Instr.sliceBound,asIntOf,Sem.run_bind,run_underlying hT.und,qH hT.size.size,i,j];omega) h
theorem Ut {T E:TypeId}{z:List Value}{x hi:Operand}{b off:Nat}{n c l:Nat}{k:IntKind}(p:Region.wanted ⟨d,.slice T x none (some hi) none,ty,pos,after,g⟩ (yielded ops a.tmps)=true) (hT:q5 P T E z)
  (t:a.eval x=.slice (some ⟨b,off,none⟩) n c) (j:a.eval hi=.int k (l:Int)) (C:l<=c)
  (h:wpList P ops Q rest (a.put d (.slice (some ⟨b,off,none⟩) l c)) w):wpList P ops Q (⟨d,.slice T x none (some hi) none,ty,pos,after,g⟩::rest) a w:=
 qp (o:=⟨d,.slice T x none (some hi) none,ty,pos,after,g⟩) (v:=.slice (some ⟨b,off,none⟩) l c) (w':=w) p (by
  have i:(l:Int)<=c:=by omega
  simp[execOp,t,j,Instr.sliceAt,Instr.slice,Instr.sliceBounds,Instr.sliceBound,asIntOf,Sem.run_bind,run_underlying hT.und,qH hT.size.size,i,zG];omega) h
end
end Go.Proofs.YtplcndmdkabmeaaGreatDoor
