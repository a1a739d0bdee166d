/- A range over a map of the call's own that is only read, beside 'Loc'. Over any program. Conditions: none. -/
import Derived.Maps.RangeRun
import Derived.Test.YtplcndmdkabmeaaGreatDoorLib
set_option linter.unusedSimpArgs false
set_option linter.unusedVariables false
set_option maxRecDepth 100000
namespace Go.Proofs.YtplcndmdkabmeaaGreatDoor
open Go.RowKit
open Go.ChangeMaps (setBlock)
def yb (r bm since:Nat) (seen:Array Nat) (c:Nat):zw:=fun w=>w.heap[r]? = some (.mapIter (some bm) since seen c)
theorem yb.seen {r bm since:Nat}{seen:Array Nat}{c:Nat}{w:World}(h:yb r bm since seen c w):w.iterSeen r=seen:=by
 unfold World.iterSeen
 rw[show w.heap[r]? = _ from h]
theorem JZ (w:World) (r:Nat) (o:Obj) (h:r<w.heap.size):(setBlock w r o).heap[r]? = some o:=by
 simp[setBlock,h]
theorem yx (w:World) (r k:Nat) (o:Obj) (h:k≠r):(setBlock w r o).heap[k]? = w.heap[k]? :=by
 simp[setBlock,Array.getElem?_setIfInBounds,Ne.symm h]
theorem Loc.iter {w0 w w1:World}{L:List zj}{bm r since c:Nat}{seen:Array Nat}{es:Array MapEntry}{k:Nat}(h:Loc w0 w L [yb r bm since seen c,Qc bm es k]) (hw1:w1=w∨w1=w.drew) (seen' : Array Nat) (c' : Nat):
  Loc w0 (setBlock w1 r (.mapIter (some bm) since seen' c')) L [yb r bm since seen' c',Qc bm es k]:=by
 have hI:yb r bm since seen c w:=h.get List.mem_cons_self
 have hM:Qc bm es k w:=h.get (List.mem_cons_of_mem _ List.mem_cons_self)
 have hlt:=zL (show w.heap[r]? = _ from hI)
 have hne:bm≠r:=by
  rintro rfl
  have h1:w.heap[bm]? = _:=hI
  have h2:w.heap[bm]? = _:=hM
  rw[h1]at h2;cases h2
 have h1:Loc w0 w1 L [yb r bm since seen c,Qc bm es k]:=by
  rcases hw1 with rfl|rfl
  ·exact h
  ·exact h.drew
 have hh:w1.heap=w.heap:=by rcases hw1 with rfl|rfl<;>rfl
 have hge:w0.heap.size≤r∧∀ e∈L,e.1≠r:=by
  obtain⟨X,hX,hO⟩:=h1.data _ List.mem_cons_self
  have hXr:X r:=by
   refine Classical.byContradiction fun hn=>?_
   have h3:(setBlock w1 r (.cells #[] 0 (0,0))).heap[r]? = some (.mapIter (some bm) since seen c):=hO _ (fun b hb=>yx _ _ _ _ (by rintro rfl;exact hn hb))
   rw[JZ _ _ _ (by rw[hh];exact hlt)]at h3
   cases h3
  exact⟨(hX r hXr).1.2,(hX r hXr).2⟩
 have hsz:(setBlock w1 r (.mapIter (some bm) since seen' c')).heap.size=w1.heap.size:=by simp[setBlock]
 refine⟨⟨h1.below.os,h1.below.tape,h1.below.output,by rw[hsz];exact h1.below.size,fun b hb=>?_⟩,h1.nodup,h1.ids,fun e he=>?_,fun S hS=>?_⟩
 ·rw[yx _ _ _ _ (by omega)];exact h1.below.block b hb
 ·rw[yx _ _ _ _ (hge.2 e he)];exact h1.cells e he
 ·rcases List.mem_cons.1 hS with rfl|hS
  ·exact⟨fun b=>b=r,fun b hb=>by subst hb;exact⟨⟨by rw[hsz,hh];exact hlt,hge.1⟩,hge.2⟩,fun w' hw'=>by show w'.heap[r]? = _;rw[hw' r rfl];exact JZ _ _ _ (by rw[hh];exact hlt)⟩
  ·have hS':=List.mem_singleton.1 hS
   subst hS'
   obtain⟨X,hX,hO⟩:=h1.data _ (List.mem_cons_of_mem _ List.mem_cons_self)
   have hXb:X bm:=by
    refine Classical.byContradiction fun hn=>?_
    have h3:(setBlock w1 bm (.cells #[] 0 (0,0))).heap[bm]? = some (.map es k):=hO _ (fun b hb=>yx _ _ _ _ (by rintro rfl;exact hn hb))
    rw[JZ _ _ _ (by rw[hh];exact zL (show w.heap[bm]? = _ from hM))]at h3
    cases h3
   refine⟨fun b=>b=bm,fun b hb=>by subst hb;exact⟨⟨by rw[hsz];exact(hX b hXb).1.1,(hX b hXb).1.2⟩,(hX b hXb).2⟩,fun w' hw'=>?_⟩
   show w'.heap[bm]? = _
   rw[hw' bm rfl,yx _ _ _ _ hne,hh]
   exact hM
section
variable {P : Program} {ops : Array Oper} {Q : Exit → Act → World → Prop} {a : Act} {w0 w : World} {rest : List Oper} {L : List zj} {d : Option Tmp} {ty : TypeId} {pos : String} {after : Array Edge}
theorem zcZ {T K V:TypeId}{x:Operand}{bm k:Nat}{es:Array MapEntry}(hT:za0 P T K V) (hL:Loc w0 w L [Qc bm es k]) (hx:a.eval x=.map (some bm))
  (h:∀ r w',Loc w0 w' L [yb r bm k #[] k,Qc bm es k]→wpList P ops Q rest (a.put d (.pointer (some ⟨r,0,none⟩))) w'):wpList P ops Q (⟨d,.range T x,ty,pos,after,none⟩::rest) a w:=by
 have hM:Qc bm es k w:=hL.get List.mem_cons_self
 refine z8 (o:=⟨d,.range T x,ty,pos,after,none⟩) (v:=.pointer (some ⟨w.heap.size,0,none⟩)) (w':=w.alloc (.mapIter (some bm) k #[] k)) rfl ?_ (h _ _ (hL.more ((Below.refl _ _).alloc (Nat.le_refl _) _) ⟨fun b=>b=w.heap.size,fun b hb=>?_,fun w' hw'=>?_⟩))
 ·simp only[execOp,hx]
  rw[Sem.run_bind,run_range_map w T K V bm es k hT.und hM]
  rfl
 ·subst hb
  exact⟨Nat.le_refl _,by show _<(w.heap.push _).size;simp⟩
 ·show w'.heap[w.heap.size]? = _
  rw[hw' _ rfl]
  exact heap_alloc_new w _
theorem G4 {x:Operand}{r bm k:Nat}{seen:Array Nat}{es:Array MapEntry}(hL:Loc w0 w L [yb r bm k seen k,Qc bm es k]) (hold:∀ e∈es.toList,e.born<k) (hx:a.eval x=.pointer (some ⟨r,0,none⟩))
  (h0:(leftOf es seen).size=0→wpList P ops Q rest (a.put d (.tuple #[.bool false])) w)
  (h1:∀ e w',e∈(leftOf es seen).toList→Loc w0 w' L [yb r bm k (seen.push e.born) k,Qc bm es k]→wpList P ops Q rest (a.put d (.tuple #[.bool true,e.key,e.val])) w'):
  wpList P ops Q (⟨d,.next x false,ty,pos,after,none⟩::rest) a w:=by
 have hI:yb r bm k seen k w:=hL.get List.mem_cons_self
 have hM:Qc bm es k w:=hL.get (List.mem_cons_of_mem _ List.mem_cons_self)
 rcases run_next_at (P:=P) w ty r bm k k seen es k hI hM hold (Nat.le_refl _) with⟨hz,hrun⟩|⟨e,he,w1,hw1,hrun⟩
 ·refine z8 (o:=⟨d,.next x false,ty,pos,after,none⟩) (v:=.tuple #[.bool false]) (w':=w) rfl ?_ (h0 hz)
  simp only[execOp,hx]
  rw[Sem.run_bind,hrun]
  rfl
 ·refine z8 (o:=⟨d,.next x false,ty,pos,after,none⟩) (v:=.tuple #[.bool true,e.key,e.val]) (w':=setBlock w1 r (.mapIter (some bm) k (seen.push e.born) k)) rfl ?_ (h1 e _ he (hL.iter hw1 _ _))
  simp only[execOp,hx]
  rw[Sem.run_bind,hrun]
  rfl
theorem zc0 {x:Operand}{r bm k:Nat}{seen:Array Nat}{es:Array MapEntry}(hz:(leftOf es seen).size=0) (hL:Loc w0 w L [yb r bm k seen k,Qc bm es k]) (hold:∀ e∈es.toList,e.born<k) (hx:a.eval x=.pointer (some ⟨r,0,none⟩))
  (h:wpList P ops Q rest (a.put d (.tuple #[.bool false])) w):wpList P ops Q (⟨d,.next x false,ty,pos,after,none⟩::rest) a w:=
 G4 hL hold hx (fun _=>h) (fun e w' he _=>by rw[Array.eq_empty_of_size_eq_zero hz]at he;simp at he)
theorem zc1 {x:Operand}{r bm k:Nat}{seen:Array Nat}{es:Array MapEntry}(hz:¬(leftOf es seen).size=0) (hL:Loc w0 w L [yb r bm k seen k,Qc bm es k]) (hold:∀ e∈es.toList,e.born<k) (hx:a.eval x=.pointer (some ⟨r,0,none⟩))
  (h:∀ e w',e∈(leftOf es seen).toList→Loc w0 w' L [yb r bm k (seen.push e.born) k,Qc bm es k]→wpList P ops Q rest (a.put d (.tuple #[.bool true,e.key,e.val])) w'):
  wpList P ops Q (⟨d,.next x false,ty,pos,after,none⟩::rest) a w:=
 G4 hL hold hx (fun h0=>absurd h0 hz) h
theorem zc2 {x:Operand}{r bm k:Nat}{seen:Array Nat}{es:Array MapEntry}{e:MapEntry}(hL:Loc w0 w L [yb r bm k (seen.push e.born) k,Qc bm es k]) (he:e∈es.toList) (hn:(es.toList.map (·.born)).Nodup) (hx:a.eval x=.pointer (some ⟨r,0,none⟩))
  (h:wpList P ops Q rest (a.put d (.tuple #[e.key,e.val])) w):wpList P ops Q (⟨d,.entry x,ty,pos,after,none⟩::rest) a w:=by
 have hI:yb r bm k (seen.push e.born) k w:=hL.get List.mem_cons_self
 have hM:Qc bm es k w:=hL.get (List.mem_cons_of_mem _ List.mem_cons_self)
 refine z8 (o:=⟨d,.entry x,ty,pos,after,none⟩) (v:=.tuple #[e.key,e.val]) (w':=w) rfl ?_ h
 simp only[execOp,hx]
 rw[Sem.run_bind,run_entry_at w r bm k seen es k e hI hM he hn]
 rfl
end
end Go.Proofs.YtplcndmdkabmeaaGreatDoor
