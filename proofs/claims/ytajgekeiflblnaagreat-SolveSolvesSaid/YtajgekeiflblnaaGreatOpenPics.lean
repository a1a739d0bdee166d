import Derived.Test.YtajgekeiflblnaaGreatOpp
import Derived.Test.YtajgekeiflblnaaGreatSolG
set_option linter.unusedSimpArgs false
set_option linter.unusedVariables false
set_option maxRecDepth 100000
namespace Go.Proofs.YtajgekeiflblnaaGreat
open Go.RowKit
open Go.ChangeShapes Go.WideShapes Go.ChangeAt Go.RowKit Go.Deep Go.Joins
section
variable {H:Type}{enc:TypeId × Value→H}{w:World}{base:Nat}{spare:Nat→Bool}{held:Bool}{P:Program}
theorem open_listW {t e:TypeId}{α:Type} [Inhabited α] (f:α→List Value) (good:α→DataW H→Prop) {fuel:Nat}{cs:List Value}{x:DataW H × List MemPlace}(ht:P.underlying t=some (.slice e)) (hpos:0<P.cellsOf e)
  (hel:∀ n cs y,DataW.trod enc P w base spare held n e cs=some y→∃ a,cs=f a∧good a y.1) (h:DataW.trod enc P w base spare held fuel t cs=some x):
  ∃ (p:Option Addr) (n cap:Nat) (g:Nat→α),cs=[.slice p n cap]∧n≤9223372036854775807∧ListC w (P.cellsOf e) p n (fun k=>f (g k))∧((n=0)∨∃ es sp,x.1=.slice es sp∧∀ k,k<n→∃ y,y∈es∧good (g k) y):=by
 rcases open_slice ht h with⟨rfl,rfl⟩|⟨⟨B,O,S⟩,len,cap,m,nn,D,Pl,rfl,_,hlc,hcm,hm,rfl,hi⟩
 ·exact⟨none,0,0,fun _=>default,rfl,by decide,⟨0,0,fun h=>absurd h (Nat.lt_irrefl 0),fun k hk=>absurd hk (Nat.not_lt_zero k)⟩,.inl rfl⟩
 ·have hlm:len≤m:=by rw[hm];split<;>omega
  have h1:∀ i,i<len→∃ a:α,(∀ j u,(f a)[j]? = some u→w.cell? ((⟨B,O,S⟩:Addr).add (i*P.cellsOf e+j))=some u)∧(f a).length=P.cellsOf e∧good a (D i):=fun i hi'=>by
   obtain⟨cs',hc,htr⟩:=hi i (by omega)
   obtain⟨_,hcl,hat⟩:=World.cells?_some hc
   obtain⟨a,rfl,hg⟩:=hel _ _ _ htr
   refine⟨a,fun j u hj=>?_,hcl,hg⟩
   have hjl:j<P.cellsOf e:=by rw[← hcl];exact(List.getElem?_eq_some_iff.1 hj).1
   rw[← Go.Deep.add_add,hat j hjl,hj]
  obtain⟨g,hg⟩:=choose_fn h1
  have hS:0<len→S=none:=fun h0=>by
   have hl:=(hg 0 h0).2.1
   have h2:=(hg 0 h0).1 0 ((f (g 0))[0]'(by omega)) (List.getElem?_eq_getElem _)
   rw[Nat.zero_mul]at h2
   exact spot_none' (b:=B) (o:=O) (by simpa [Addr.add] using h2)
  refine⟨some ⟨B,O,S⟩,len,cap,g,rfl,by unfold maxLen at hcm;omega,⟨B,O,fun h0=>by rw[hS h0],fun k hk=>?_⟩,.inr ⟨_,_,rfl,fun k hk=>⟨D k,List.mem_map.2 ⟨k,List.mem_range.2 hk,rfl⟩,(hg k hk).2.2⟩⟩⟩
  have hk2:∀ j u,(f (g k))[j]? = some u→w.cell? ⟨B,O+k*P.cellsOf e+j,none⟩=some u:=fun j u hj=>by
   have h2:=(hg k hk).1 j u hj
   rw[hS (by omega),add_addr,← Nat.add_assoc]at h2
   exact h2
  have hl:=(hg k hk).2.1
  exact⟨cell_lt' (hk2 0 ((f (g k))[0]'(by omega)) (List.getElem?_eq_getElem _)),hk2⟩
theorem weights_all {e:TypeId}:∀ {es:List (DataW H)}{y:DataW H},y∈es→∀ x∈y.weights P e,x∈DataW.weightsAll P e es
 | [],_,h=>by cases h
 | d::r,y,h=>fun x hx=>by
  rw[DataW.weightsAll]
  rcases List.mem_cons.1 h with rfl|h
  ·exact List.mem_append_left _ hx
  ·exact List.mem_append_right _ (weights_all h x hx)
instance : Inhabited (Pv × Pd):=⟨(zeroP,zeroPd)⟩
abbrev PicTop (x:Pv) (dd:DataW H):Prop:=∃ ys:List (DataW H),dd=.agg ys∧(∃ y,ys[1]? = some y∧TopS y x.vars.n)∧∃ y,ys[2]? = some y∧TopS y x.fields.n
theorem open_pics {fuel:Nat}{cs:List Value}{x:DataW H × List MemPlace}(h:DataW.trod enc Tryz.prog w base spare held fuel 34 cs=some x) (hb:∀ z∈x.1.weights Tryz.prog 34,z≤reachBytes):
  ∃ (s:Sl) (l:List Pd),cs=[.slice s.p s.n s.cap]∧PicsL w s l:=by
 obtain⟨p,n,cap,g,h1,h2,h3,h4⟩:=open_listW (fun a:Pv × Pd=>Pv.cells a.1) (fun a y=>PicPre w a.1 a.2∧PicTop a.1 y) Tryz.underlying34 (by rw[show Tryz.prog.cellsOf 28=3 by kernel_rfl];decide) (fun n cs y hy=>by
  obtain⟨y1,y2⟩:=y
  obtain⟨px,pd,e1,e2,e3⟩:=open_pic hy
  exact⟨(px,pd),e1,e2,e3⟩) h
 rw[show Tryz.prog.cellsOf 28=3 by kernel_rfl]at h3
 have hg:∀ k,k<n→((List.range n).map fun k=>(g k).2).getD k nonePd=(g k).2:=fun k hk=>getD_map_range _ _ _ _ hk
 refine⟨⟨p,n,cap⟩,(List.range n).map fun k=>(g k).2,h1,by simp,h2,fun k=>(g k).1,h3,fun k hk=>?_⟩
 have hkn:k<n:=hk
 rw[hg k hkn]
 rcases h4 with h4|⟨es,sp,h5,h6⟩
 ·omega
 ·obtain⟨y,hy,hp,ys,rfl,⟨y1,e1,top1⟩,y2,e2,top2⟩:=h6 k hkn
  have hall:∀ z∈(DataW.agg ys).weights Tryz.prog 28,z≤reachBytes:=fun z hz=>hb z (by
   rw[h5,DataW.weights,Tryz.underlying34]
   exact List.mem_cons_of_mem _ (List.mem_append_left _ (weights_all hy z hz)))
  have q1:=top_bound (P:=Tryz.prog) (B:=reachBytes) (l:=(DataW.agg ys).weights Tryz.prog 28) Tryz.underlying25 top1 (fun z hz=>by rw[weights_struct Tryz.underlying28];exact weights_at (j:=1) (t:=25) (d:=y1) (by rfl) e1 z hz) (List.all_eq_true.2 fun z hz=>by simpa using hall z hz)
  have q2:=top_bound (P:=Tryz.prog) (B:=reachBytes) (l:=(DataW.agg ys).weights Tryz.prog 28) Tryz.underlying26 top2 (fun z hz=>by rw[weights_struct Tryz.underlying28];exact weights_at (j:=2) (t:=26) (d:=y2) (by rfl) e2 z hz) (List.all_eq_true.2 fun z hz=>by simpa using hall z hz)
  rw[show Tryz.prog.bytesOf 59=64 by kernel_rfl]at q1
  rw[show Tryz.prog.bytesOf 25=24 by kernel_rfl]at q2
  have hr:reachBytes=140737488351232:=rfl
  exact⟨hp.e,hp.vars,hp.fields,show (g k).1.vars.n+(g k).1.fields.n≤9223372036854775807 by omega⟩
end
theorem pics_arg {H:Type}{enc:TypeId × Value→H}{w:World}{base:Nat}{spare:Nat→Bool}{held:Bool}{v:Value}{dd:DataW H}{pl:List MemPlace}{b0:Nat}{r:Reach}(hv:Value.okWide Tryz.prog w r b0 34 v) (h:DataW.Trod enc Tryz.prog w base spare held 34 v dd pl)
  {ts vt:List TypeId}{ds gs:List (DataW H)}{j:Nat}(hz:(DataW.weightsEach Tryz.prog (ts++vt) (ds++gs)).all (·≤reachBytes)=true) (ht:ts[j]? = some 34) (hd:ds[j]? = some dd):
  ∃ (s:Sl) (l:List Pd),v=.slice s.p s.n s.cap∧PicsL w s l:=by
 obtain⟨fuel,hf⟩:=h
 obtain⟨s,l,hcs,hl⟩:=open_pics hf (fun z hz2=>by
  have h1:=weights_at (P:=Tryz.prog) (ts:=ts++vt) (ds:=ds++gs) (j:=j) (t:=34) (d:=dd) (by rw[List.getElem?_append_left (by rw[List.getElem?_eq_some_iff]at ht;exact ht.1)];exact ht) (by rw[List.getElem?_append_left (by rw[List.getElem?_eq_some_iff]at hd;exact hd.1)];exact hd) z hz2
  exact of_decide_eq_true (List.all_eq_true.1 hz z h1))
 obtain⟨pp,len,cap,rfl⟩:=okWide_slice Tryz.underlying34 hv
 exact⟨s,l,by simpa [Value.cells] using hcs,hl⟩
end Go.Proofs.YtajgekeiflblnaaGreat
