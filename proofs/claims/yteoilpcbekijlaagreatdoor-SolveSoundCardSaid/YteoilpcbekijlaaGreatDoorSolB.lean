import Derived.Test.YteoilpcbekijlaaGreatDoorSolA
set_option linter.unusedSimpArgs false
set_option linter.unusedVariables false
set_option maxRecDepth 100000
namespace Go.Proofs.YteoilpcbekijlaaGreatDoor
open Go.RowKit
theorem lenP3 (x:Pv):x.cells.length=3:=rfl
def zeroPv:Pv:=⟨false,nilSl,nilSl⟩
def PicsD (xs:List Pv) (l:List Pd):Datum:=fun w=>∀ k,k<l.length→PicIs w (xs.getD k zeroPv) (l.getD k nonePd)
theorem PicsD.on {xs:List Pv}{l:List Pd}{w w' : World}{X:Nat→Prop}(h:On w X (PicsD xs l)) (hw:∀ b,X b→IsCells w b→w'.heap[b]? = w.heap[b]?):PicsD xs l w':=
 fun k hk=>PicIs.on (X:=X) (fun w2 h2=>h w2 h2 k hk) hw
theorem PicsD.set {xs:List Pv}{l:List Pd}{w:World}(h:PicsD xs l w) (hl:xs.length=l.length) {t:Nat}{r:Pv}{d:Pd}(hr:PicIs w r d):PicsD (xs.set t r) (l.set t d) w:=by
 intro k hk
 rw[List.length_set]at hk
 by_cases h1:k=t
 ·subst h1
  rw[getD_set _ _ _ _ _ (by omega),if_pos rfl,getD_set _ _ _ _ _ hk,if_pos rfl]
  exact hr
 ·by_cases ht:t<l.length
  ·rw[getD_set _ _ _ _ _ (by omega),if_neg h1,getD_set _ _ _ _ _ ht,if_neg h1]
   exact h k hk
  ·rw[List.set_eq_of_length_le (by omega),List.set_eq_of_length_le (by omega)]
   exact h k hk
theorem Loc.turnL {w0 w:World}{L:List LBlk}{xs:List Pv}{l:List Pd}(h:Loc w0 w L [PicsD xs l]) {r:Nat}(hr:w0.heap.size≤r) {o' : Obj}(ho:¬ IsCells w r):Loc w0 (w.putObj r o') L [PicsD xs l]:=by
 have hoth:∀ b,b≠r→(w.putObj r o').heap[b]? = w.heap[b]? :=fun b hb=>World.putObj_heap_other hb
 have hsz:(w.putObj r o').heap.size=w.heap.size:=by simp[World.putObj]
 refine⟨⟨h.below.os,h.below.tape,h.below.output,by rw[hsz];exact h.below.size,fun k hk=>(hoth k (by omega)).trans (h.below.block k hk)⟩,h.nodup,h.ids,fun e he=>?_,fun S hS=>?_⟩
 ·have h1:=h.cells e he
  rw[hoth _ (fun e2=>by rw[e2]at h1;exact ho ⟨_,_,_,h1⟩)]
  exact h1
 ·rw[List.mem_singleton]at hS
  subst hS
  obtain⟨X,hX,hO⟩:=h.data _ List.mem_cons_self
  refine⟨fun b=>X b∧IsCells w b,fun b hb=>⟨⟨by rw[hsz];exact(hX b hb.1).1.1,(hX b hb.1).1.2⟩,(hX b hb.1).2⟩,fun w' hw'=>?_⟩
  refine PicsD.on hO (fun b hx hc=>?_)
  rw[hw' b ⟨hx,hc⟩,hoth b (fun e2=>by subst e2;exact ho hc)]
def SolM (w0:World) (p:Pg) (bs:Nat) (s0:Sl) (A:List LBlk) (l:List Pd) (w:World):Prop:=
 ∃ (xs:List Pv) (R:List LBlk),xs.length=l.length∧RowS 54 3 s0.p s0.n s0.cap (xs.flatMap Pv.cells) R∧Loc w0 w ((bs,116,[.int .i64 p.vars,.int .i64 p.fields,.slice p.pc p.n p.cap,.slice s0.p s0.n s0.cap])::(R++A)) [PicsD xs l]
structure PicsOk (p:Pg) (is:Nat→Ins) (l:List Pd):Prop where
 len:l.length=p.n+1
 r:∀ k,k≤p.n→rightP p is (l.getD k nonePd)=0
theorem SolM.at' {w0 w:World}{p:Pg}{is:Nat→Ins}{bs:Nat}{s0:Sl}{A:List LBlk}{l:List Pd}(h:SolM w0 p bs s0 A l w) (hc:CodeAt w0 p is) (ho:PicsOk p is l):SolvAt p is bs s0 l w:=by
 obtain⟨xs,R,hl,hR,hL⟩:=h
 have hn:=hR.flatlen lenP3 (by decide)
 have ho2:Own w0.heap.size w R:=⟨by
  have h1:=hL.nodup
  rw[List.map_cons,List.map_append]at h1
  exact(List.nodup_append.1 (List.nodup_cons.1 h1).2).1,fun e he=>⟨hL.ids e (List.mem_cons_of_mem _ (List.mem_append_left _ he)),hL.cells e (List.mem_cons_of_mem _ (List.mem_append_left _ he))⟩⟩
 obtain⟨_,h2⟩:=hR.listC lenP3 zeroPv (by decide) ho2
 have hp:=hL.get (S:=PicsD xs l) List.mem_cons_self
 exact⟨hL.cells _ List.mem_cons_self,hc.grow hL.below,by rw[hn,hl,ho.len],ho.len,⟨fun k=>xs.getD k zeroPv,h2,fun k hk=>hp k (by omega)⟩,ho.r⟩
theorem SolM.grow {w0 w w' : World}{p:Pg}{bs:Nat}{s0:Sl}{A:List LBlk}{l:List Pd}(h:SolM w0 p bs s0 A l w) (hb:Below w.heap.size w w'):SolM w0 p bs s0 A l w':=by
 obtain⟨xs,R,hl,hR,hL⟩:=h
 exact⟨xs,R,hl,hR,hL.grow hb⟩
theorem SolM.turn {w0 w:World}{p:Pg}{bs:Nat}{s0:Sl}{A:List LBlk}{l:List Pd}(h:SolM w0 p bs s0 A l w) {r:Nat}(hr:w0.heap.size≤r) {o' : Obj}(ho:¬ IsCells w r):SolM w0 p bs s0 A l (w.putObj r o'):=by
 obtain⟨xs,R,hl,hR,hL⟩:=h
 exact⟨xs,R,hl,hR,hL.turnL hr ho⟩
def nxtS (nb:Bool) (i:Nat) (x:Int × Pd) (s:List Pd × Bool):List Pd × Bool:=
 if insideP x.2 (s.1.getD x.1.toNat nonePd)=true then s
 else (s.1.set x.1.toNat (bothP (if (nb&&decide (x.1≤i))=true then wider else both) (s.1.getD x.1.toNat nonePd) x.2),true)
theorem PicsOk.next {p:Pg}{is:Nat→Ins}(hp:checkProg p is=0) {nb:Bool}{i:Nat}{x:Int × Pd}{s:List Pd × Bool}(h:PicsOk p is s.1) (h1:rightP p is x.2=0) (h2:0≤x.1∧x.1≤p.n):PicsOk p is (nxtS nb i x s).1:=by
 unfold nxtS
 by_cases hi:insideP x.2 (s.1.getD x.1.toNat nonePd)=true
 ·rw[if_pos hi];exact h
 ·rw[if_neg hi]
  refine⟨by simp only[List.length_set];exact h.len,fun k hk=>?_⟩
  dsimp only
  rw[getD_set _ _ _ _ _ (by have:=h.len;omega)]
  by_cases hkt:k=x.1.toNat
  ·rw[if_pos hkt]
   subst hkt
   refine right_both ?_ hp (h.r _ hk) h1
   split
   ·exact puts_wider
   ·exact puts_both
  ·rw[if_neg hkt]
   exact h.r k hk
end Go.Proofs.YteoilpcbekijlaaGreatDoor
