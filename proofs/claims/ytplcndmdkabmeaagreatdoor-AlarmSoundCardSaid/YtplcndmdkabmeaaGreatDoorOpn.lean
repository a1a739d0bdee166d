import Derived.Test.YtplcndmdkabmeaaGreatDoorRows
import Derived.WalkKit
import Derived.ProofKit
import Derived.OpenShut
import Derived.Below
import Derived.ChangeSame
import Derived.WideKeyArgs
import Derived.Lib.SmallJoins
import Derived.Deep.Slices
import Derived.Deep.Fields
import Derived.Test.YtplcndmdkabmeaaGreatDoorVal
import Derived.Test.YtplcndmdkabmeaaGreatDoorPrg
set_option linter.unusedSimpArgs false
set_option linter.unusedVariables false
set_option maxRecDepth 100000
namespace Go.Proofs.YtplcndmdkabmeaaGreatDoor
open Go.RowKit
open Go.ChangeShapes Go.WideShapes Go.ChangeAt Go.RowKit Go.Deep Go.Joins
section
variable {H : Type} {enc : TypeId × Value → H} {P : Program}
theorem post_of_below {f:Func}{s:ChangeSpec}{apart fresh handsOn again:Bool}{W W' : World}{args:Array Value}{v:Value}{ds gs:List (DataW H)}{before pa pv:List MemPlace}
  (hW:DataW.Whole enc P f.params.toList s.vars apart W args.toList ds gs before)
  (hres:∀ (b:Nat) (sp:Nat→Bool) (hd:Bool),DataW.TrodAll enc P W' b sp hd f.resultTypes.toList (v.resultList f.resultTypes.size) (s.fn H (ds++gs)).results [])
  (hargs:∀ sp:Nat→Bool,(∀ p∈before,sp p.block=true)→DataW.TrodAll enc P W' 0 sp true f.params.toList args.toList (s.fn H (ds++gs)).args pa)
  (hvars:∀ sp:Nat→Bool,(∀ p∈before,sp p.block=true)→DataW.TrodVars enc P W' sp s.vars (s.fn H (ds++gs)).vars pv)
  (hps:before=pa++pv) (hb:Below W.heap.size W W')
  (hok:∀ (j:Nat) (t:TypeId) (r:Value),f.resultTypes[j]? = some t→(v.resultList f.resultTypes.size)[j]? = some r→Value.okWide P W' .any 0 t r):
  s.post enc P f apart fresh handsOn again W args v W':=by
 have hlt:∀ p∈before,p.block<W.heap.size:=fun p hp=>hW.lt p hp
 have hold:∀ p∈before,(fun b=>decide (b<W.heap.size)) p.block=true:=fun p hp=>by simpa using hlt p hp
 refine⟨ds,gs,before,[],pa,pv,hW,hres _ _ _,hargs _ hold,hvars _ hold,World.keptBut_mono (fun p hp=>⟨hp,?_⟩) (hb.frame (·∈before)),fun _=>?_⟩
 ·rw[hps,List.mem_append]at hp
  exact Or.inr hp
 ·obtain⟨_,_,_,_,_,hz,hn⟩:=hW
  refine⟨hok,_,_,([]++pa)++pv,⟨[]++pa,pv,trodAll_append (hargs _ (fun _ _=>rfl)) (hres _ _ _),hvars _ (fun _ _=>rfl),rfl,?_,?_⟩,?_⟩
  ·intro b off hp
   have hin:MemPlace.cell b off∈before:=by rw[hps];simpa using hp
   rw[hb.frozen (hlt _ hin)]
   exact hz b off hin
  ·intro ha
   have:=hn ha
   rw[hps]at this
   simpa using this
  ·intro p hp _
   rw[hps]
   simpa using hp
theorem trodAll_stays (hl:laidOutB P=true) {base:Nat}{W W' : World}{sp' : Nat→Bool}:∀ (ts:List TypeId) (vs:List Value) (ds:List (DataW H)) (ps:List MemPlace),ts.all (fun t=>P.readableRec t&&decide (t<P.types.size))=true→
  DataW.TrodAll enc P W base (fun _=>true) true ts vs ds ps→(∀ p∈ps,W.sameAt W' p)→(∀ p∈ps,sp' p.block=true)→DataW.TrodAll enc P W' base sp' true ts vs ds ps
 | [],vs,ds,ps,_,h,_,_=>by
  cases vs<;>cases ds<;>simp[DataW.TrodAll]at h ⊢
  exact h
 | t::ts,vs,ds,ps,hr,h,hs,hp=>by
  simp only[List.all_cons,Bool.and_eq_true,decide_eq_true_eq]at hr
  obtain⟨v,vs',d,ds',p,q,rfl,rfl,rfl,h1,h2⟩:=trodAll_cons h
  have e1:=WideElems.Trod_stays hl hr.1.1 hr.1.2 h1 (fun x hx=>hs x (List.mem_append_left _ hx)) (fun x hx=>hp x (List.mem_append_left _ hx))
  have e2:=trodAll_stays hl ts vs' ds' q (by simpa using hr.2) h2 (fun x hx=>hs x (List.mem_append_right _ hx)) (fun x hx=>hp x (List.mem_append_right _ hx))
  exact trodAll_cons_mk e1 e2
end
section
variable {H : Type} {enc : TypeId × Value → H} {P : Program} {w : World} {base : Nat} {spare : Nat → Bool} {held : Bool}
end
end Go.Proofs.YtplcndmdkabmeaaGreatDoor
set_option linter.unusedSimpArgs false
set_option linter.unusedVariables false
namespace Go.Proofs.YtplcndmdkabmeaaGreatDoor
open Go.RowKit
open Go.ChangeShapes Go.WideShapes Go.ChangeAt Go.RowKit Go.Deep Go.Joins
section
variable {H : Type} {enc : TypeId × Value → H} {P : Program} {w : World} {base : Nat} {spare : Nat → Bool} {held : Bool}
theorem list_len3 {α:Type}{l:List α}(h:l.length=3):∃ a b c,l=[a,b,c]:=by
 match l,h with|[a,b,c],_=>exact⟨a,b,c,rfl⟩
theorem list_len6 {α:Type}{l:List α}(h:l.length=6):∃ a b c d e f,l=[a,b,c,d,e,f]:=by
 match l,h with|[a,b,c,d,e,f],_=>exact⟨a,b,c,d,e,f,rfl⟩
def layL (P:Program):List Field→Nat→Option Nat
 | [],o=>some o
 | f::r,o=>if f.offset=o then layL P r (o+P.cellsOf f.type) else none
theorem lay_parts {cs:List Value}:∀ (fl:List Field) (o:Nat),layL P fl o=some cs.length→
  ∃ parts:List (List Value),cs.drop o=parts.flatten∧parts.length=fl.length∧∀ (j:Nat) (f:Field),fl[j]? = some f→parts[j]? = some ((cs.drop f.offset).take (P.cellsOf f.type))
 | [],o,h=>by
  have h' : o=cs.length:=by simpa [layL] using h
  exact⟨[],by simp[h'],rfl,fun j f hj=>by simp at hj⟩
 | f::r,o,h=>by
  unfold layL at h
  split at h
  ·rename_i ho
   subst ho
   obtain⟨ps,h1,h2,h3⟩:=lay_parts r _ h
   refine⟨(cs.drop f.offset).take (P.cellsOf f.type)::ps,?_,by simp[h2],fun j g hj=>?_⟩
   ·rw[List.flatten_cons,← h1,← List.drop_drop,List.take_append_drop]
   ·cases j with
    | zero=>simp at hj;subst hj;rfl
    | succ j=>exact h3 j g (by simpa using hj)
  ·cases h
theorem open_struct {t:TypeId}{fs:Array Field}{fuel:Nat}{cs:List Value}{x:DataW H × List MemPlace}(ht:P.underlying t=some (.struct fs)) (hl:layL P fs.toList 0=some (P.cellsOf t)) (h:DataW.trod enc P w base spare held fuel t cs=some x):
  ∃ (parts:List (List Value)) (ys:List (DataW H × List MemPlace)) (n:Nat),cs=parts.flatten∧parts.length=fs.size∧x.1=.agg (ys.map (·.1))∧ys.length=fs.size∧
   ∀ (j:Nat) (f:Field),fs[j]? = some f→∃ c y,parts[j]? = some c∧ys[j]? = some y∧DataW.trod enc P w base spare held n f.type c=some y:=by
 obtain⟨ys,n,-,rfl,hcl,hyl,hf⟩:=DataW.trod_struct ht h
 rw[← hcl]at hl
 obtain⟨ps,h1,h2,h3⟩:=lay_parts _ _ hl
 refine⟨ps,ys,n,by simpa using h1,by simpa using h2,rfl,hyl,fun j f hj=>?_⟩
 have hj' : j<ys.length:=by rw[hyl];exact(Array.getElem?_eq_some_iff.1 hj).1
 exact⟨_,ys[j],h3 j f (by simpa using hj),List.getElem?_eq_getElem hj',(hf j f hj).trans (List.getElem?_eq_getElem hj')⟩
theorem spot_none' {b o:Nat}{S:Option Nat}{v:Value}(h:w.cell? ⟨b,o,S⟩=some v):S=none:=by
 unfold World.cell? at h
 split at h
 ·split at h
  ·cases h
  ·rename_i hs;simpa using hs
 ·cases h
theorem cell_lt' {b o:Nat}{v:Value}(h:w.cell? ⟨b,o,none⟩=some v):b<w.heap.size:=by
 rcases Nat.lt_or_ge b w.heap.size with h1|h1
 ·exact h1
 ·simp[World.cell?,Array.getElem?_eq_none h1]at h
theorem choose_fn {α:Type} [Inhabited α] {n:Nat}{Q:Nat→α→Prop}(h:∀ i,i<n→∃ a,Q i a):∃ g:Nat→α,∀ i,i<n→Q i (g i):=by
 have h2:∀ i,∃ a:α,i<n→Q i a:=fun i=>by
  by_cases hi:i<n
  ·obtain⟨a,ha⟩:=h i hi;exact⟨a,fun _=>ha⟩
  ·exact⟨default,fun h=>absurd h hi⟩
 exact⟨fun i=>Classical.choose (h2 i),fun i hi=>Classical.choose_spec (h2 i) hi⟩
def TopS (d:DataW H) (n:Nat):Prop:=(d=.nil∧n=0)∨∃ es sp,d=.slice es sp∧es.length=n
theorem open_list {t e:TypeId}{α:Type} [Inhabited α] (f:α→List Value) (good:α→Prop) {fuel:Nat}{cs:List Value}{x:DataW H × List MemPlace}(ht:P.underlying t=some (.slice e)) (hpos:0<P.cellsOf e)
  (hel:∀ n cs y,DataW.trod enc P w base spare held n e cs=some y→∃ a,cs=f a∧good a) (h:DataW.trod enc P w base spare held fuel t cs=some x):
  ∃ (p:Option Addr) (n cap:Nat) (g:Nat→α),cs=[.slice p n cap]∧n≤9223372036854775807∧ListC w (P.cellsOf e) p n (fun k=>f (g k))∧(∀ k,k<n→good (g k))∧TopS x.1 n:=by
 rcases open_slice ht h with⟨rfl,rfl⟩|⟨⟨B,O,S⟩,len,cap,m,nn,D,Pl,rfl,_,hlc,hcm,hm,rfl,hi⟩
 ·exact⟨none,0,0,fun _=>default,rfl,by decide,⟨0,0,fun h=>absurd h (Nat.lt_irrefl 0),fun k hk=>absurd hk (Nat.not_lt_zero k)⟩,fun k hk=>absurd hk (Nat.not_lt_zero k),.inl ⟨rfl,rfl⟩⟩
 ·have hlm:len≤m:=by rw[hm];split<;>omega
  have h1:∀ i,i<len→∃ a:α,(∀ j u,(f a)[j]? = some u→w.cell? ((⟨B,O,S⟩:Addr).add (i*P.cellsOf e+j))=some u)∧(f a).length=P.cellsOf e∧good a:=fun i hi'=>by
   obtain⟨cs',hc,htr⟩:=hi i (by omega)
   obtain⟨_,hcl,hat⟩:=World.cells?_some hc
   obtain⟨a,rfl,hg⟩:=hel _ _ _ htr
   refine⟨a,fun j u hj=>?_,hcl,hg⟩
   have hjl:j<P.cellsOf e:=by rw[← hcl];exact(List.getElem?_eq_some_iff.1 hj).1
   rw[← Go.Deep.add_add,hat j hjl,hj]
  obtain⟨g,hg⟩:=choose_fn h1
  have hS:0<len→S=none:=fun h0=>by
   have hl:=(hg 0 h0).2.1
   have h2:=(hg 0 h0).1 0 ((f (g 0))[0]'(by omega)) (List.getElem?_eq_getElem _)
   rw[Nat.zero_mul]at h2
   exact spot_none' (b:=B) (o:=O) (by simpa [Addr.add] using h2)
  refine⟨some ⟨B,O,S⟩,len,cap,g,rfl,by unfold maxLen at hcm;omega,⟨B,O,fun h0=>by rw[hS h0],fun k hk=>?_⟩,fun k hk=>(hg k hk).2.2,.inr ⟨_,_,rfl,by simp⟩⟩
  have hk2:∀ j u,(f (g k))[j]? = some u→w.cell? ⟨B,O+k*P.cellsOf e+j,none⟩=some u:=fun j u hj=>by
   have h2:=(hg k hk).1 j u hj
   rw[hS (by omega),add_addr,← Nat.add_assoc]at h2
   exact h2
  have hl:=(hg k hk).2.1
  exact⟨cell_lt' (hk2 0 ((f (g k))[0]'(by omega)) (List.getElem?_eq_getElem _)),hk2⟩
theorem open_structT {r:Reach}{b0:Nat}{t:TypeId}{fs:Array Field}{v:Value}{d:DataW H}{p:List MemPlace}(hs:P.underlying t=some (.struct fs)) (hv:Value.okWide P w r b0 t v) (h:DataW.Trod enc P w base spare held t v d p):
  ∃ cs fuel,v=.agg cs∧DataW.trod enc P w base spare held fuel t cs.toList=some (d,p):=by
 obtain⟨cs,rfl,hsz⟩:=okWide_struct hs hv
 obtain⟨fuel,hf⟩:=h
 exact⟨cs,fuel,rfl,hf⟩
end
end Go.Proofs.YtplcndmdkabmeaaGreatDoor
set_option linter.unusedSimpArgs false
set_option linter.unusedVariables false
namespace Go.Proofs.YtplcndmdkabmeaaGreatDoor
open Go.RowKit
open Go.ChangeShapes Go.WideShapes Go.ChangeAt Go.RowKit Go.Deep Go.Joins
section
variable {H : Type} {enc : TypeId × Value → H} {w : World} {base : Nat} {spare : Nat → Bool} {held : Bool}
instance : Inhabited Ins := ⟨⟨0, 0, 0, 0, 0, 0⟩⟩
instance : Inhabited Vl := ⟨⟨0, 0⟩⟩
theorem open_instr {fuel:Nat}{cs:List Value}{x:DataW H × List MemPlace}(h:DataW.trod enc Tryz.prog w base spare held fuel 86 cs=some x):∃ i:Ins,cs=i.cells∧True:=by
 obtain⟨parts,ys,n,rfl,hpl,-,-,hf⟩:=open_struct Tryz.underlying86 (by kernel_rfl) h
 obtain⟨a,b,c,d,e,f,rfl⟩:=list_len6 hpl
 obtain⟨_,y0,p0,-,t0⟩:=hf 0 _ rfl
 obtain⟨_,y1,p1,-,t1⟩:=hf 1 _ rfl
 obtain⟨_,y2,p2,-,t2⟩:=hf 2 _ rfl
 obtain⟨_,y3,p3,-,t3⟩:=hf 3 _ rfl
 obtain⟨_,y4,p4,-,t4⟩:=hf 4 _ rfl
 obtain⟨_,y5,p5,-,t5⟩:=hf 5 _ rfl
 cases p0;cases p1;cases p2;cases p3;cases p4;cases p5
 obtain⟨k0,rfl,-,-⟩:=DataW.trod_int Tryz.underlying3 t0
 obtain⟨k1,rfl,-,-⟩:=DataW.trod_int Tryz.underlying3 t1
 obtain⟨k2,rfl,-,-⟩:=DataW.trod_int Tryz.underlying3 t2
 obtain⟨k3,rfl,-,-⟩:=DataW.trod_int Tryz.underlying3 t3
 obtain⟨k4,rfl,-,-⟩:=DataW.trod_int Tryz.underlying3 t4
 obtain⟨k5,rfl,-,-⟩:=DataW.trod_int Tryz.underlying3 t5
 exact⟨⟨k0,k1,k2,k3,k4,k5⟩,rfl,trivial⟩
instance : Inhabited ByteArray := ⟨ByteArray.empty⟩
theorem open_prog {fuel:Nat}{cs:List Value}{x:DataW H × List MemPlace}(h:DataW.trod enc Tryz.prog w base spare held fuel 27 cs=some x):
  ∃ (p:Pg) (is:Nat→Ins),cs=[.int .i64 p.vars,.int .i64 p.fields,.slice p.pc p.n p.cap]∧p.n≤9223372036854775807∧CodeAt w p is:=by
 obtain⟨parts,ys,n,rfl,hpl,-,-,hf⟩:=open_struct Tryz.underlying27 (by kernel_rfl) h
 obtain⟨a,b,c,rfl⟩:=list_len3 hpl
 obtain⟨_,y0,p0,-,t0⟩:=hf 0 _ rfl
 obtain⟨_,y1,p1,-,t1⟩:=hf 1 _ rfl
 obtain⟨_,y2,p2,-,t2⟩:=hf 2 _ rfl
 cases p0;cases p1;cases p2
 obtain⟨k0,rfl,-,-⟩:=DataW.trod_int Tryz.underlying3 t0
 obtain⟨k1,rfl,-,-⟩:=DataW.trod_int Tryz.underlying3 t1
 obtain⟨p,m,cap,g,rfl,h2,h3,-,-⟩:=open_list Ins.cells (fun _=>True) Tryz.underlying25 (by rw[show Tryz.prog.cellsOf 86=6 by kernel_rfl];decide) (fun n cs y hy=>open_instr hy) t2
 rw[show Tryz.prog.cellsOf 86=6 by kernel_rfl]at h3
 exact⟨⟨k0,k1,p,m,cap⟩,g,rfl,h2,h3.ex⟩
theorem open_inputs {fuel:Nat}{cs:List Value}{x:DataW H × List MemPlace}(h:DataW.trod enc Tryz.prog w base spare held fuel 37 cs=some x):
  ∃ (s:Sl) (g:Nat→Int),cs=[.slice s.p s.n s.cap]∧s.n≤9223372036854775807∧ListC w 1 s.p s.n (fun k=>[.int .i64 (g k)]):=by
 obtain⟨p,n,cap,g,h1,h2,h3,-,-⟩:=open_list (fun k:Int=>[Value.int .i64 k]) (fun _=>True) Tryz.underlying37 (by rw[show Tryz.prog.cellsOf 3=1 by kernel_rfl];decide) (fun n cs y hy=>by
  obtain⟨k,h1,-,-⟩:=DataW.trod_int Tryz.underlying3 hy
  exact⟨k,h1,trivial⟩) h
 rw[show Tryz.prog.cellsOf 3=1 by kernel_rfl]at h3
 exact⟨⟨p,n,cap⟩,g,h1,h2,h3⟩
end
end Go.Proofs.YtplcndmdkabmeaaGreatDoor
set_option linter.unusedSimpArgs false
set_option linter.unusedVariables false
namespace Go.Proofs.YtplcndmdkabmeaaGreatDoor
open Go.RowKit
open Go.ChangeShapes Go.WideShapes Go.ChangeAt Go.RowKit Go.Deep Go.Joins
section
variable {H : Type}
end
end Go.Proofs.YtplcndmdkabmeaaGreatDoor
