/- The row's reach, said of slices at the top. Over any program. Conditions: none. -/
import Derived.Test.YtplcndmdkabmeaaGreatDoorRows
import Derived.WalkKit
import Derived.ProofKit
import Derived.OpenShut
import Derived.Below
import Derived.ChangeSame
import Derived.WideKeyArgs
import Derived.Lib.SmallJoins
import Derived.Deep.Slices
import Derived.Deep.Fields
import Derived.Test.YtplcndmdkabmeaaGreatDoorVal
import Derived.Test.YtplcndmdkabmeaaGreatDoorCop
set_option linter.unusedSimpArgs false
set_option linter.unusedVariables false
set_option maxRecDepth 100000
namespace Go.Proofs.YtplcndmdkabmeaaGreatDoor
open Go.Proofs.Tryz
open Go.RowKit
open Go.ChangeShapes Go.WideShapes Go.ChangeAt Go.RowKit Go.Deep Go.Joins
section
variable {H : Type} {enc : TypeId × Value -> H} {P : Program}
theorem Xj {f:Func}{s:ChangeSpec}{apart fresh af ad:Bool}{W o : World}{args:Array Value}{v:Value}{ds p:List (DataW H)}{before pa pv:List MemPlace}
  (C:DataW.Whole enc P f.params.toList s.vars apart W args.toList ds p before)
  (U:∀ (b:Nat) (sp:Nat->Bool) (ag:Bool),DataW.TrodAll enc P o b sp ag f.resultTypes.toList (v.resultList f.resultTypes.size) (s.fn H (ds++p)).results [])
  (I:∀ sp:Nat->Bool,(∀ g∈before,sp g.block=true)->DataW.TrodAll enc P o 0 sp true f.params.toList args.toList (s.fn H (ds++p)).args pa)
  (aa:∀ sp:Nat->Bool,(∀ g∈before,sp g.block=true)->DataW.TrodVars enc P o sp s.vars (s.fn H (ds++p)).vars pv)
  (hps:before=pa++pv) (hb:Below W.heap.size W o)
  (ai:∀ (j:Nat) (t:TypeId) (r:Value),f.resultTypes[j]? = some t->(v.resultList f.resultTypes.size)[j]? = some r->Value.okWide P o .any 0 t r):
  s.post enc P f apart fresh af ad W args v o:=by
 have T:∀ g∈before,g.block<W.heap.size:=fun g i=>C.lt g i
 have hold:∀ g∈before,(fun b=>decide (b<W.heap.size)) g.block=true:=fun g i=>by simpa using T g i
 refine⟨ds,p,before,[],pa,pv,C,U _ _ _,I _ hold,aa _ hold,World.keptBut_mono (fun g i=>⟨i,?_⟩) (hb.frame (·∈before)),fun _=>?_⟩
 ·rw[hps,List.mem_append]at i
  exact Or.inr i
 ·obtain⟨_,_,_,_,_,aj,ah⟩:=C
  refine⟨ai,_,_,([]++pa)++pv,⟨[]++pa,pv,trodAll_append (I _ (fun _ _=>rfl)) (U _ _ _),aa _ (fun _ _=>rfl),rfl,?_,?_⟩,?_⟩
  ·intro b off i
   have R:MemPlace.cell b off∈before:=by rw[hps];simpa using i
   rw[hb.frozen (T _ R)];exact aj b off R
  ·intro ae
   have:=ah ae;rw[hps]at this;simpa using this
  ·intro g i _
   rw[hps];simpa using i
theorem Yk (R:laidOutB P=true) {base:Nat}{W I : World}{T : Nat->Bool}:∀ (o:List TypeId) (p:List Value) (j:List (DataW H)) (i:List MemPlace),o.all (fun C=>P.readableRec C&&decide (C<P.types.size))=true->
  DataW.TrodAll enc P W base (fun _=>true) true o p j i->(∀ t∈i,W.sameAt I t)->(∀ t∈i,T t.block=true)->DataW.TrodAll enc P I base T true o p j i
 | [],p,j,i,_,h,_,_=>by
  cases p<;>cases j<;>simp[DataW.TrodAll]at h ⊢
  exact h
 | C::o,p,j,i,hr,h,hs,hp=>by
  simp only[List.all_cons,Bool.and_eq_true,decide_eq_true_eq]at hr;obtain⟨v,ae,d,U,t,q,rfl,rfl,rfl,ac,ad⟩:=trodAll_cons h;have aa:=WideElems.Trod_stays R hr.1.1 hr.1.2 ac (fun x g=>hs x (List.mem_append_left _ g)) (fun x g=>hp x (List.mem_append_left _ g));have ab:=Yk R o ae U q (by simpa using hr.2) ad (fun x g=>hs x (List.mem_append_right _ g)) (fun x g=>hp x (List.mem_append_right _ g));exact trodAll_cons_mk aa ab
end
section
variable {H : Type} {enc : TypeId × Value -> H} {P : Program} {w : World} {base : Nat} {spare : Nat -> Bool} {held : Bool}
end
section
variable {H : Type} {enc : TypeId × Value -> H} {P : Program} {w : World} {base : Nat} {spare : Nat -> Bool} {held : Bool}
theorem Xw {g:Type}{l:List g}(h:l.length=2):∃ a b,l=[a,b]:=by
 match l,h with|[a,b],_=>exact⟨a,b,rfl⟩
theorem KX {g:Type}{l:List g}(h:l.length=3):∃ a b c,l=[a,b,c]:=by
 match l,h with|[a,b,c],_=>exact⟨a,b,c,rfl⟩
theorem zdw {g:Type}{l:List g}(h:l.length=5):∃ a b c d e,l=[a,b,c,d,e]:=by
 match l,h with|[a,b,c,d,e],_=>exact⟨a,b,c,d,e,rfl⟩
theorem Xx {g:Type}{l:List g}(h:l.length=6):∃ a b c d e f,l=[a,b,c,d,e,f]:=by
 match l,h with|[a,b,c,d,e,f],_=>exact⟨a,b,c,d,e,f,rfl⟩
def zdx (P:Program):List Field->Nat->Option Nat
 | [],o=>some o
 | f::r,o=>if f.offset=o then zdx P r (o+P.cellsOf f.type) else none
theorem KY {i:List Value}:∀ (p:List Field) (o:Nat),zdx P p o=some i.length->
  ∃ parts:List (List Value),i.drop o=parts.flatten∧parts.length=p.length∧∀ (g:Nat) (f:Field),p[g]? = some f->parts[g]? = some ((i.drop f.offset).take (P.cellsOf f.type))
 | [],o,h=>by
  have C : o=i.length:=by simpa [zdx] using h
  exact⟨[],by simp[C],rfl,fun g f j=>by simp at j⟩
 | f::r,o,h=>by
  unfold zdx at h;split at h
  ·rename_i U
   subst U;obtain⟨aa,I,R,T⟩:=KY r _ h;refine⟨(i.drop f.offset).take (P.cellsOf f.type)::aa,?_,by simp[R],fun g t j=>?_⟩
   ·rw[List.flatten_cons,<- I,<- List.drop_drop,List.take_append_drop]
   ·cases g with
    | zero=>simp at j;subst j;rfl
    | succ g=>exact T g t (by simpa using j)
  ·cases h
theorem Jl {t:TypeId}{j:Array Field}{fuel:Nat}{p:List Value}{x:DataW H × List MemPlace}(ht:P.underlying t=some (.struct j)) (I:zdx P j.toList 0=some (P.cellsOf t)) (h:DataW.trod enc P w base spare held fuel t p=some x):
  ∃ (parts:List (List Value)) (i:List (DataW H × List MemPlace)) (n:Nat),p=parts.flatten∧parts.length=j.size∧x.1=.agg (i.map (·.1))∧i.length=j.size∧
   ∀ (g:Nat) (f:Field),j[g]? = some f->∃ c y,parts[g]? = some c∧i[g]? = some y∧DataW.trod enc P w base spare held n f.type c=some y:=by
 obtain⟨i,n,-,rfl,ab,R,ac⟩:=DataW.trod_struct ht h;rw[<- ab]at I;obtain⟨ad,T,U,aa⟩:=KY _ _ I;refine⟨ad,i,n,by simpa using T,by simpa using U,rfl,R,fun g f o=>?_⟩;have C : g<i.length:=by rw[R];exact(Array.getElem?_eq_some_iff.1 o).1
 exact⟨_,i[g],aa g f (by simpa using o),List.getElem?_eq_getElem C,(ac g f o).trans (List.getElem?_eq_getElem C)⟩
theorem Vd {b o:Nat}{S:Option Nat}{v:Value}(h:w.cell? ⟨b,o,S⟩=some v):S=none:=by
 unfold World.cell? at h;split at h
 ·split at h
  ·cases h
  ·rename_i g;simpa using g
 ·cases h
theorem Ve {b o:Nat}{v:Value}(h:w.cell? ⟨b,o,none⟩=some v):b<w.heap.size:=by
 rcases Nat.lt_or_ge b w.heap.size with g|g
 ·exact g
 ·simp[World.cell?,Array.getElem?_eq_none g]at h
theorem KZ {j:Type} [Inhabited j] {n:Nat}{Q:Nat->j->Prop}(h:∀ g,g<n->∃ a,Q g a):∃ p:Nat->j,∀ g,g<n->Q g (p g):=by
 have o:∀ g,∃ a:j,g<n->Q g a:=fun g=>by
  by_cases i:g<n
  ·obtain⟨a,t⟩:=h g i;exact⟨a,fun _=>t⟩
  ·exact⟨default,fun h=>absurd h i⟩
 exact⟨fun g=>Classical.choose (o g),fun g i=>Classical.choose_spec (o g) i⟩
def zi4 (d:DataW H) (n:Nat):Prop:=(d=.nil∧n=0)∨∃ g sp,d=.slice g sp∧g.length=n
theorem zbD {t e:TypeId}{R:Type} [Inhabited R] (f:R->List Value) (ab:R->Prop) {fuel:Nat}{C:List Value}{x:DataW H × List MemPlace}(ht:P.underlying t=some (.slice e)) (az:0<P.cellsOf e)
  (ak:∀ n C y,DataW.trod enc P w base spare held n e C=some y->∃ a,C=f a∧ab a) (h:DataW.trod enc P w base spare held fuel t C=some x):
  ∃ (p:Option Addr) (n cap:Nat) (j:Nat->R),C=[.slice p n cap]∧n<=9223372036854775807∧(∃ b o:Nat,(0<n->p=some ⟨b,o,none⟩)∧∀ k,k<n->b<w.heap.size∧∀ g v,(f (j k))[g]? = some v->w.cell? ⟨b,o+k*P.cellsOf e+g,none⟩=some v)∧(∀ k,k<n->ab (j k))∧zi4 x.1 n:=by
 rcases open_slice ht h with⟨rfl,rfl⟩|⟨⟨B,O,S⟩,len,cap,m,a0,D,au,rfl,_,ax,aj,aq,rfl,al⟩
 ·exact⟨none,0,0,fun _=>default,rfl,by decide,⟨0,0,fun h=>absurd h (Nat.lt_irrefl 0),fun k hk=>absurd hk (Nat.not_lt_zero k)⟩,fun k hk=>absurd hk (Nat.not_lt_zero k),.inl ⟨rfl,rfl⟩⟩
 ·have ay:len<=m:=by rw[aq];split<;>omega
  have ag:∀ i,i<len->∃ a:R,(∀ g u,(f a)[g]? = some u->w.cell? ((⟨B,O,S⟩:Addr).add (i*P.cellsOf e+g))=some u)∧(f a).length=P.cellsOf e∧ab a:=fun i aw=>by
   obtain⟨av,ai,ar⟩:=al i (by omega);obtain⟨_,ad,ah⟩:=World.cells?_some ai;obtain⟨a,rfl,hg⟩:=ak _ _ _ ar;refine⟨a,fun g u U=>?_,ad,hg⟩;have an:g<P.cellsOf e:=by rw[<- ad];exact(List.getElem?_eq_some_iff.1 U).1
   rw[<- Go.Deep.add_add,ah g an,U]
  obtain⟨j,hg⟩:=KZ ag;have ac:0<len->S=none:=fun T=>by
   have ao:=(hg 0 T).2.1;have I:=(hg 0 T).1 0 ((f (j 0))[0]'(by omega)) (List.getElem?_eq_getElem _);rw[Nat.zero_mul]at I;exact Vd (b:=B) (o:=O) (by simpa [Addr.add] using I)
  refine⟨some ⟨B,O,S⟩,len,cap,j,rfl,by unfold maxLen at aj;omega,⟨B,O,fun T=>by rw[ac T],fun k hk=>?_⟩,fun k hk=>(hg k hk).2.2,.inr ⟨_,_,rfl,by simp⟩⟩;have ae:∀ g u,(f (j k))[g]? = some u->w.cell? ⟨B,O+k*P.cellsOf e+g,none⟩=some u:=fun g u U=>by
   have I:=(hg k hk).1 g u U;rw[ac (by omega),zG,<- Nat.add_assoc]at I;exact I
  have ao:=(hg k hk).2.1;exact⟨Ve (ae 0 ((f (j k))[0]'(by omega)) (List.getElem?_eq_getElem _)),ae⟩
structure Qp (w:World) (P:Program) (B:Nat) (t:TypeId) (x:DataW H × List MemPlace):Prop where
 fz:w.noneFrozen x.2
 sz:∀ y∈x.1.weights P t,y<=B
theorem zac {i:List TypeId}{ds:List (DataW H)}{j:Nat}{t:TypeId}{d:DataW H}(ht:i[j]? = some t) (g:ds[j]? = some d):∀ n∈d.weights P t,n∈DataW.weightsEach P i ds:=by
 induction i generalizing ds j with
 | nil=>simp at ht
 | cons t0 i ih=>
  cases ds with
  | nil=>simp at g
  | cons d0 ds=>
   intro n o;rw[DataW.weightsEach];cases j with
   | zero=>
    simp at ht g;subst ht;subst g;exact List.mem_append_left _ o
   | succ j=>exact List.mem_append_right _ (ih (by simpa using ht) (by simpa using g) n o)
theorem zgh {e:TypeId}{ds:List (DataW H)}{d:DataW H}(g:d∈ds):∀ n∈d.weights P e,n∈DataW.weightsAll P e ds:=by
 induction ds with
 | nil=>cases g
 | cons d0 ds ih=>
  intro n i;rw[DataW.weightsAll];rcases List.mem_cons.1 g with rfl|g
  ·exact List.mem_append_left _ i
  ·exact List.mem_append_right _ (ih g n i)
theorem Qp.part {B:Nat}{t:TypeId}{i:Array Field}{g:List (DataW H × List MemPlace)}{j:Nat}{f:Field}{y:DataW H × List MemPlace}(ht:P.underlying t=some (.struct i)) (h:Qp w P B t (.agg (g.map (·.1)),g.flatMap (·.2))) (hf:i[j]? = some f) (o:g[j]? = some y):Qp w P B f.type y:=by
 refine⟨fun b off p=>h.fz b off (List.mem_flatMap.2 ⟨y,List.mem_of_getElem? o,p⟩),fun n C=>h.sz n ?_⟩;rw[DataW.weights,ht];exact zac (j:=j) (by simpa using congrArg (Option.map Field.type) hf) (by simpa using congrArg (Option.map Prod.fst) o) n C
theorem QG {B:Nat}{t:TypeId}{i:Array Field}{fuel:Nat}{p:List Value}{x:DataW H × List MemPlace}(ht:P.underlying t=some (.struct i)) (I:zdx P i.toList 0=some (P.cellsOf t)) (h:DataW.trod enc P w base spare held fuel t p=some x) (aa:Qp w P B t x):
  ∃ (parts:List (List Value)) (o:List (DataW H × List MemPlace)) (n:Nat),p=parts.flatten∧parts.length=i.size∧
   ∀ (g:Nat) (f:Field),i[g]? = some f->∃ c y,parts[g]? = some c∧Qp w P B f.type y∧DataW.trod enc P w base spare held n f.type c=some y:=by
 obtain⟨o,n,-,rfl,ab,ad,ac⟩:=DataW.trod_struct ht h;rw[<- ab]at I;obtain⟨ae,R,T,U⟩:=KY _ _ I;refine⟨ae,o,n,by simpa using R,by simpa using T,fun g f j=>?_⟩;have C : g<o.length:=by rw[ad];exact(Array.getElem?_eq_some_iff.1 j).1
 exact⟨_,o[g],U g f (by simpa using j),aa.part ht j (List.getElem?_eq_getElem C),(ac g f j).trans (List.getElem?_eq_getElem C)⟩
theorem QS {B:Nat}{t e:TypeId}{U:Type} [Inhabited U] (f:U->List Value) (ad:U->Prop) {fuel:Nat}{R:List Value}{x:DataW H × List MemPlace}(ht:P.underlying t=some (.slice e)) (a7:0<P.cellsOf e)
  (au:∀ n R y,DataW.trod enc P w base spare held n e R=some y->Qp w P B e y->∃ a,R=f a∧ad a) (h:DataW.trod enc P w base spare held fuel t R=some x) (ab:Qp w P B t x):
  ∃ (p:Option Addr) (n cap:Nat) (g:Nat->U),R=[.slice p n cap]∧n<=9223372036854775807∧zZ w (P.cellsOf e) p n (fun k=>f (g k))∧(∀ k,k<n->ad (g k))∧n*P.bytesOf e<=B:=by
 rcases open_slice ht h with⟨rfl,rfl⟩|⟨⟨I,O,S⟩,len,cap,m,a8,D,aj,rfl,_,a6,ar,a1,rfl,av⟩
 ·exact⟨none,0,0,fun _=>default,rfl,by decide,⟨yo rfl,0,0,fun h=>absurd h (Nat.lt_irrefl 0),fun k hk=>absurd hk (Nat.not_lt_zero k)⟩,fun k hk=>absurd hk (Nat.not_lt_zero k),by simp⟩
 ·have a0:len<=m:=by rw[a1];split<;>omega
  have ak:∀ i,i<len->∃ a:U,(∀ j u,(f a)[j]? = some u->w.cell? ((⟨I,O,S⟩:Addr).add (i*P.cellsOf e+j))=some u)∧(f a).length=P.cellsOf e∧ad a:=fun i aw=>by
   obtain⟨a5,aq,a4⟩:=av i (by omega);obtain⟨_,af,ao⟩:=World.cells?_some aq;have an:Qp w P B e (D i,aj i):=by
    refine⟨fun b off a2=>ab.fz b off (List.mem_append_right _ (List.mem_flatMap.2 ⟨i,List.mem_range.2 (by omega),a2⟩)),fun n a3=>ab.sz n ?_⟩;rw[DataW.weights,ht];exact List.mem_cons_of_mem _ (List.mem_append_left _ (zgh (List.mem_map.2 ⟨i,List.mem_range.2 aw,rfl⟩) n a3))
   obtain⟨a,rfl,C⟩:=au _ _ _ a4 an;refine⟨a,fun j u ac=>?_,af,C⟩;have ay:j<P.cellsOf e:=by rw[<- af];exact(List.getElem?_eq_some_iff.1 ac).1
   rw[<- Go.Deep.add_add,ao j ay,ac]
  obtain⟨g,C⟩:=KZ ak;have ae:0<len->S=none:=fun aa=>by
   have az:=(C 0 aa).2.1;have T:=(C 0 aa).1 0 ((f (g 0))[0]'(by omega)) (List.getElem?_eq_getElem _);rw[Nat.zero_mul]at T;exact Vd (b:=I) (o:=O) (by simpa [Addr.add] using T)
  refine⟨some ⟨I,O,S⟩,len,cap,g,rfl,by unfold maxLen at ar;omega,⟨fun b o ah i ax=>?_,I,O,fun aa=>by rw[ae aa],fun k hk=>?_⟩,fun k hk=>(C k hk).2.2,?_⟩
  ·simp only[Option.some.injEq,Addr.mk.injEq]at ah
   obtain⟨rfl,rfl,-⟩:=ah;refine ab.fz _ _ (List.mem_append_left _ (List.mem_map.2 ⟨i,List.mem_range.2 ?_,rfl⟩));exact Nat.lt_of_lt_of_le ax (Nat.mul_le_mul_right _ a0)
  ·have ag:∀ j u,(f (g k))[j]? = some u->w.cell? ⟨I,O+k*P.cellsOf e+j,none⟩=some u:=fun j u ac=>by
    have T:=(C k hk).1 j u ac;rw[ae (by omega),zG,<- Nat.add_assoc]at T;exact T
   have az:=(C k hk).2.1;exact⟨Ve (ag 0 ((f (g k))[0]'(by omega)) (List.getElem?_eq_getElem _)),ag⟩
  ·have al:=ab.sz ((((List.range len).map D).length+((List.range (m - len)).map fun j=>D (len+j)).length)*P.bytesOf e) (by rw[DataW.weights,ht];exact List.mem_cons_self)
   refine Nat.le_trans (Nat.mul_le_mul_right _ ?_) al;simp
theorem QH {r:Reach}{j:Nat}{t:TypeId}{o:Array Field}{v:Value}{d:DataW H}{p:List MemPlace}(I:P.underlying t=some (.struct o)) (hv:Value.okWide P w r j t v) (h:DataW.Trod enc P w base spare held t v d p):
  ∃ g i,v=.agg g∧DataW.trod enc P w base spare held i t g.toList=some (d,p):=by
 obtain⟨g,rfl,R⟩:=okWide_struct I hv;obtain⟨i,C⟩:=h;exact⟨g,i,rfl,C⟩
end
section
variable {H : Type} {enc : TypeId × Value -> H} {w : World} {base : Nat} {spare : Nat -> Bool} {held : Bool}
instance : Inhabited Ins := ⟨⟨0, 0, 0, 0, 0, 0⟩⟩
instance : Inhabited Vl := ⟨⟨0, 0⟩⟩
theorem zbE {fuel:Nat}{i:List Value}{x:DataW H × List MemPlace}(h:DataW.trod enc prog w base spare held fuel 86 i=some x):∃ o:Ins,i=o.cells∧True:=by
 obtain⟨parts,ak,n,rfl,j,-,-,g⟩:=Jl underlying86 (by kernel_rfl) h;obtain⟨a,b,c,d,e,f,rfl⟩:=Xx j;obtain⟨_,ae,T,-,t0⟩:=g 0 _ rfl;obtain⟨_,af,U,-,t1⟩:=g 1 _ rfl;obtain⟨_,ag,aa,-,t2⟩:=g 2 _ rfl;obtain⟨_,ah,ab,-,t3⟩:=g 3 _ rfl;obtain⟨_,ai,ac,-,t4⟩:=g 4 _ rfl;obtain⟨_,aj,ad,-,t5⟩:=g 5 _ rfl;cases T;cases U;cases aa;cases ab;cases ac;cases ad;obtain⟨k0,rfl,-,-⟩:=DataW.trod_int underlying3 t0;obtain⟨p,rfl,-,-⟩:=DataW.trod_int underlying3 t1;obtain⟨t,rfl,-,-⟩:=DataW.trod_int underlying3 t2;obtain⟨C,rfl,-,-⟩:=DataW.trod_int underlying3 t3;obtain⟨I,rfl,-,-⟩:=DataW.trod_int underlying3 t4;obtain⟨R,rfl,-,-⟩:=DataW.trod_int underlying3 t5;exact⟨⟨k0,p,t,C,I,R⟩,rfl,trivial⟩
theorem zbF {fuel:Nat}{g:List Value}{x:DataW H × List MemPlace}(h:DataW.trod enc prog w base spare held fuel 77 g=some x):∃ v:Vl,g=v.cells∧True:=by
 obtain⟨parts,R,n,rfl,j,-,-,i⟩:=Jl underlying77 (by kernel_rfl) h;obtain⟨a,b,rfl⟩:=Xw j;obtain⟨_,C,p,-,t0⟩:=i 0 _ rfl;obtain⟨_,I,t,-,t1⟩:=i 1 _ rfl;cases p;cases t;obtain⟨k0,rfl,-,-⟩:=DataW.trod_int underlying3 t0;obtain⟨o,rfl,-,-⟩:=DataW.trod_int underlying3 t1;exact⟨⟨k0,o⟩,rfl,trivial⟩
instance : Inhabited ByteArray := ⟨ByteArray.empty⟩
theorem zad {fuel:Nat}{g:List Value}{x:DataW H × List MemPlace}(h:DataW.trod enc prog w base spare held fuel 9 g=some x):∃ s:ByteArray,g=[.string s]∧s.size<=maxLen:=by
 obtain⟨s,i,_,j⟩:=DataW.trod_string underlying9 h;exact⟨s,i,j⟩
theorem zdy {fuel:Nat}{i:List Value}{x:DataW H × List MemPlace}(h:DataW.trod enc prog w base spare held fuel 27 i=some x):
  ∃ (g:Pg) (is:Nat->Ins),i=[.int .i64 g.vars,.int .i64 g.fields,.slice g.pc g.n g.cap]∧g.n<=9223372036854775807∧zy w g is:=by
 obtain⟨parts,ae,n,rfl,C,-,-,j⟩:=Jl underlying27 (by kernel_rfl) h;obtain⟨a,b,c,rfl⟩:=KX C;obtain⟨_,ab,T,-,t0⟩:=j 0 _ rfl;obtain⟨_,ac,U,-,t1⟩:=j 1 _ rfl;obtain⟨_,ad,aa,-,t2⟩:=j 2 _ rfl;cases T;cases U;cases aa;obtain⟨k0,rfl,-,-⟩:=DataW.trod_int underlying3 t0;obtain⟨R,rfl,-,-⟩:=DataW.trod_int underlying3 t1;obtain⟨g,m,cap,p,rfl,t,o,-,-⟩:=zbD Ins.cells (fun _=>True) underlying25 (by rw[show prog.cellsOf 86=6 by kernel_rfl];decide) (fun n i y I=>zbE I) t2;rw[show prog.cellsOf 86=6 by kernel_rfl]at o;exact⟨⟨k0,R,g,m,cap⟩,p,rfl,t,o⟩
theorem zae {B fuel:Nat}{g:List Value}{x:DataW H × List MemPlace}(h:DataW.trod enc prog w base spare held fuel 37 g=some x) (C:Qp w prog B 37 x):
  ∃ (s:Sl) (i:Nat->Int),g=[.slice s.p s.n s.cap]∧s.n<=9223372036854775807∧zZ w 1 s.p s.n (fun k=>[.int .i64 (i k)])∧s.n*8<=B:=by
 obtain⟨R,n,cap,i,j,t,o,-,p⟩:=QS (fun k:Int=>[Value.int .i64 k]) (fun _=>True) underlying37 (by rw[show prog.cellsOf 3=1 by kernel_rfl];decide) (fun n g y I _=>by
  obtain⟨k,j,-,-⟩:=DataW.trod_int underlying3 I;exact⟨k,j,trivial⟩) h C
 rw[show prog.cellsOf 3=1 by kernel_rfl]at o;rw[show prog.bytesOf 3=8 by kernel_rfl]at p;exact⟨⟨R,n,cap⟩,i,j,t,o,p⟩
end
section
variable {H : Type}
end
end Go.Proofs.YtplcndmdkabmeaaGreatDoor
