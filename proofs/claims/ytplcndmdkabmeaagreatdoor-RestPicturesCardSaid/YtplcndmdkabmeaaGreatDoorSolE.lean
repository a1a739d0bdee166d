/- How high pictures are: each edge that changes one makes it higher, so solving ends. Plain. Conditions: right pictures of a right program. -/
import Derived.Test.YtplcndmdkabmeaaGreatDoorSolB
set_option linter.unusedSimpArgs false
set_option linter.unusedVariables false
set_option maxRecDepth 100000
namespace Go.Proofs.YtplcndmdkabmeaaGreatDoor
open Go.Proofs.Tryz
open Go.RowKit
def Je (f:Nat->Nat):Nat->Nat
 | 0=>0
 | n+1=>Je f n+f n
theorem ZX {f g:Nat->Nat}:∀ {n:Nat},(∀ k,k<n->f k<=g k)->Je f n<=Je g n
 | 0,_=>Nat.le_refl _
 | n+1,h=>Nat.add_le_add (ZX fun k i=>h k (by omega)) (h n (by omega))
theorem U0 {f g:Nat->Nat}{j:Nat}(p:f j<g j):∀ {n:Nat},(∀ k,k<n->f k<=g k)->j<n->Je f n<Je g n
 | 0,_,hj=>absurd hj (Nat.not_lt_zero j)
 | n+1,h,hj=>by
  show Je f n+f n<Je g n+g n
  have t:=h n (by omega);by_cases e:j=n
  ·subst e
   have i:=ZX (f:=f) (g:=g) (n:=j) fun k o=>h k (by omega)
   omega
  ·have i:=U0 p (n:=n) (fun k o=>h k (by omega)) (by omega)
   omega
theorem Y5 {f:Nat->Nat}{m:Nat}:∀ {n:Nat},(∀ k,k<n->f k<=m)->Je f n<=n*m
 | 0,_=>by simp[Je]
 | n+1,h=>by
  have g:=h n (by omega);have i:=Y5 (f:=f) (m:=m) (n:=n) fun k j=>h k (by omega)
  show Je f n+f n<=_
  rw[Nat.add_mul];omega
theorem zcU {f g:Nat->Nat}{n:Nat}(h:∀ k,k<n->f k=g k):Je f n=Je g n:=
 Nat.le_antisymm (ZX fun k i=>Nat.le_of_eq (h k i)) (ZX fun k i=>Nat.le_of_eq (h k i).symm)
def Y6 (b:Bool):Nat:=if b=true then 1 else 0
def JI (s:zm):Nat:=if s.none=true then 0 else (s.hi - s.lo+1).toNat
def QV (d:Res):Nat:=Y6 d.null+Y6 d.tr+Y6 d.fa+d.l.length+JI d.span
def qK (ds:List Res):Nat:=Je (fun k=>QV (ds.getD k zo)) ds.length
def Ji (d:Pd):Nat:=if d.none=true then 0 else 1+(qK d.vars+Je (fun k=>qK (d.row k)) d.fields.length)
def Y7 (l:List Pd):Nat:=Je (fun k=>Ji (l.getD k zC)) l.length
theorem Gj (a b:Bool):Y6 a<=Y6 (a || b):=by cases a<;>cases b<;>decide
theorem Gk {a b:Bool}(h:(!b || a)=false):Y6 a<Y6 (a || b):=by revert h;cases a<;>cases b<;>decide
theorem U8 (a:Bool):Y6 a<=1:=by cases a<;>decide
structure Zs (f:zm->zm->zm):Prop extends Puts f where
 stay:∀ s t,zh s=0->zh t=0->yt t s=true->f s t=s
theorem YC {s t:zm}:yt s t=true↔s.none=true∨(t.none=false∧t.lo<=s.lo∧s.hi<=t.hi):=by
 simp[yt,Bool.or_eq_true,Bool.and_eq_true,and_assoc]
theorem J3:Zs both:=by
 refine⟨Qi,fun s C o p h=>?_⟩;obtain⟨-,T,i⟩:=zu o;obtain⟨-,U,j⟩:=zu p;obtain⟨g,sl,t⟩:=s;obtain⟨R,P,I⟩:=C;dsimp only at *;rw[YC]at h;dsimp only at h;unfold both;cases R with
 | true=>
  obtain⟨rfl,rfl⟩:=j rfl;cases g with
  | true=>obtain⟨rfl,rfl⟩:=i rfl;rfl
  | false=>rfl
 | false=>
  obtain⟨rfl,aa,ab⟩:g=false∧sl<=P∧I<=t:=by simpa using h
  simp only[Bool.false_eq_true,if_false,zm.mk.injEq,true_and];omega
theorem Zt:Zs jf:=by
 refine⟨Y2,fun s g o p h=>?_⟩;have i:=J3.stay s g o p h;unfold jf;split
 ·exact i
 ·rename_i j
  obtain⟨C,sl,t⟩:=s;obtain⟨R,P,I⟩:=g;dsimp only at *;obtain⟨rfl,rfl⟩:C=false∧R=false:=by simpa using j
  rw[YC]at h;obtain⟨-,T,U⟩:false=false∧sl<=P∧I<=t:=by simpa using h
  simp only[zm.mk.injEq,true_and];rw[if_neg (by omega),if_neg (by omega)];omega
theorem zeJ {s t:zm}(o:zh s=0) (h:∀ a,jE s a=true->jE t a=true):JI s<=JI t:=by
 obtain⟨-,g,-⟩:=zu o;unfold JI;cases i:s.none with
 | true=>simp
 | false=>
  have j:=(qo t s.lo).1 (h s.lo ((qo _ _).2 ⟨i,Int.le_refl _,g⟩));have p:=(qo t s.hi).1 (h s.hi ((qo _ _).2 ⟨i,g,Int.le_refl _⟩));rw[j.1];simp only[Bool.false_eq_true,if_false];omega
theorem zeK {f:zm->zm->zm}(hf:Puts f) {s t:zm}(g:zh s=0) (ht:zh t=0) (h:yt t s=false):JI s<JI (f s t):=by
 obtain⟨-,j,-⟩:=zu g;obtain⟨-,o,-⟩:=zu ht;have p:¬ (t.none=true∨(s.none=false∧s.lo<=t.lo∧t.hi<=s.hi)):=fun e=>by rw[YC.2 e]at h;cases h
 have C:t.none=false:=by cases e:t.none with
  | false=>rfl
  | true=>exact absurd (.inl e) p
 have I:=(qo (f s t) t.lo).1 (hf.inr s t t.lo g ht ((qo _ _).2 ⟨C,Int.le_refl _,o⟩));have P:=(qo (f s t) t.hi).1 (hf.inr s t t.hi g ht ((qo _ _).2 ⟨C,o,Int.le_refl _⟩));unfold JI;rw[I.1];simp only[Bool.false_eq_true,if_false];cases i:s.none with
 | true=>simp only[if_true];omega
 | false=>
  have R:=(qo (f s t) s.lo).1 (hf.inl s t s.lo g ht ((qo _ _).2 ⟨i,Int.le_refl _,j⟩));have T:=(qo (f s t) s.hi).1 (hf.inl s t s.hi g ht ((qo _ _).2 ⟨i,j,Int.le_refl _⟩));have U:¬ (s.lo<=t.lo∧t.hi<=s.hi):=fun e=>p (.inr ⟨i,e⟩)
  simp only[Bool.false_eq_true,if_false];omega
theorem zdo {s:zm}(g:zh s=0):JI s<=4294967296:=by
 obtain⟨⟨i,j,o,p⟩,t,-⟩:=zu g;unfold JI;split<;>omega
theorem YD {g:Type}{p q:g->Bool}:∀ {l:List g},(∀ x∈l,p x=true->q x=true)->(l.filter p).length<=(l.filter q).length
 | [],_=>Nat.le_refl _
 | x::l,h=>by
  have ih:=YD (p:=p) (q:=q) (l:=l) fun y o=>h y (List.mem_cons_of_mem _ o)
  have j:=h x List.mem_cons_self;rw[List.filter_cons,List.filter_cons];cases i:p x with
  | true=>rw[j i];simpa using ih
  | false=>
   cases t:q x with
   | true=>simp only[Bool.false_eq_true,if_false,if_true,List.length_cons];omega
   | false=>simpa using ih
theorem Uo {i:Type}{p q:i->Bool}{y:i}(o:p y=false) (t:q y=true):∀ {l:List i},(∀ x∈l,p x=true->q x=true)->y∈l->(l.filter p).length<(l.filter q).length
 | [],_,g=>by cases g
 | x::l,h,g=>by
  have j:∀ z∈l,p z=true->q z=true:=fun z P=>h z (List.mem_cons_of_mem _ P)
  have I:=h x List.mem_cons_self;rw[List.filter_cons,List.filter_cons];rcases List.mem_cons.1 g with rfl|g
  ·rw[o,t]
   have:=YD j;simp only[Bool.false_eq_true,if_false,if_true,List.length_cons];omega
  ·have ih:=Uo o t j g
   cases C:p x with
   | true=>rw[I C];simpa using ih
   | false=>
    cases R:q x with
    | true=>simp only[Bool.false_eq_true,if_false,if_true,List.length_cons];omega
    | false=>simpa using ih
theorem zdp {l:List Int}(h:Zr l) (hi:inS l):l=ZT l []:=by rw[<- Ya hi (fun x g=>by cases g),U7 h]
theorem zgf {l m:List Int}(h:Zr l) (j:inS l) (o:inS m):l.length<=(yQ l m).length∧(Yr m l=true->l.length<(yQ l m).length):=by
 have t:l.length=(ZT l []).length:=congrArg List.length (zdp h j);rw[Ya j o,t];have g:∀ x∈(List.range 60).map (fun k:Nat=>(k:Int)),(jO l x || jO [] x)=true->(jO l x || jO m x)=true:=fun x _ p=>by
  rw[Bool.or_eq_true]at p ⊢;exact .inl (p.elim id (fun h=>by rw[JY]at h;cases h))
 refine⟨YD g,fun R=>?_⟩;obtain⟨k,P,C⟩:=KO.1 (show qa _ _=true from R);have i:m.getD k 0∈m:=qX P;have I:jO l (m.getD k 0)=false:=by simpa using C
 have T:=o _ i;refine Uo (y:=m.getD k 0) ?_ ?_ g ?_
 ·rw[I,Bool.false_or]
  cases e:jO [] (m.getD k 0) with
  | false=>rfl
  | true=>rw[JY]at e;cases e
 ·rw[Bool.or_eq_true];exact .inr (JY.2 i)
 ·rw[List.mem_map];exact⟨(m.getD k 0).toNat,List.mem_range.2 (by omega),by omega⟩
theorem zhx {l m:List Int}(h:Zr l) (j:Yr m l=false):yQ l m=l:=by
 refine KP (Qn l m).1 h fun x=>?_
 rw[(Qn l m).2];refine⟨fun g=>g.elim id fun g=>?_,.inl⟩;obtain⟨k,i,rfl⟩:=List.mem_iff_getElem.1 g;cases e:jO l (m.getD k 0) with
 | true=>
  have:=JY.1 e;rwa [List.getD_eq_getElem?_getD,List.getElem?_eq_getElem i]at this
 | false=>rw[Yr,qg i (by rw[e];rfl)]at j;cases j
theorem Up {d e:Res}:QN e d=true↔(!e.null || d.null)=true∧(!e.tr || d.tr)=true∧(!e.fa || d.fa)=true∧yt e.span d.span=true∧Yr e.l d.l=false:=by
 show ((!e.null || d.null)&&(!e.tr || d.tr)&&(!e.fa || d.fa)&&yt e.span d.span && !Yr e.l d.l)=true↔_
 simp only[Bool.and_eq_true,Bool.not_eq_true',and_assoc]
theorem YE {f:zm->zm->zm}(hf:Zs f) {d e:Res}(g:jN d) (C:jN e):QV d<=QV (qx f d e)∧(QN e d=false->QV d<QV (qx f d e))∧(QN e d=true->qx f d e=d):=by
 have ab:=Gj d.null e.null;have ac:=Gj d.tr e.tr;have ad:=Gj d.fa e.fa;obtain⟨ae,U⟩:=zgf g.asc g.ins C.ins;have af:JI d.span<=JI (f d.span e.span):=zeJ g.span fun a aa=>hf.inl _ _ a g.span C.span aa
 refine⟨?_,fun I=>?_,fun I=>?_⟩
 ·show QV d<=Y6 (d.null || e.null)+Y6 (d.tr || e.tr)+Y6 (d.fa || e.fa)+(yQ d.l e.l).length+JI (f d.span e.span)
  unfold QV;omega
 ·show QV d<Y6 (d.null || e.null)+Y6 (d.tr || e.tr)+Y6 (d.fa || e.fa)+(yQ d.l e.l).length+JI (f d.span e.span)
  unfold QV;by_cases i:(!e.null || d.null)=true
  ·by_cases j:(!e.tr || d.tr)=true
   ·by_cases o:(!e.fa || d.fa)=true
    ·by_cases p:yt e.span d.span=true
     ·by_cases t:Yr e.l d.l=true
      ·have:=U t;omega
      ·rw[Up.2 ⟨i,j,o,p,by simpa using t⟩]at I;cases I
     ·have:=zeK hf.toPuts g.span C.span (by simpa using p);omega
    ·have:=Gk (a:=d.fa) (b:=e.fa) (by simpa using o);omega
   ·have:=Gk (a:=d.tr) (b:=e.tr) (by simpa using j);omega
  ·have:=Gk (a:=d.null) (b:=e.null) (by simpa using i);omega
 ·obtain⟨i,j,o,p,t⟩:=Up.1 I
  have R:=hf.stay _ _ g.span C.span p;have T:=zhx g.asc t;have P:∀ a b:Bool,(!b || a)=true->(a || b)=a:=by decide
  show (⟨d.null || e.null,f d.span e.span,d.tr || e.tr,d.fa || e.fa,yQ d.l e.l⟩:Res)=d
  rw[R,T,P _ _ i,P _ _ j,P _ _ o]
theorem zdq {d:Res}(h:jN d):QV d<=4294967359:=by
 have g:=U8 d.null;have i:=U8 d.tr;have j:=U8 d.fa;have o:=h.le;have p:=zdo h.span;unfold QV;omega
theorem Uq (f:zm->zm->zm) (ds es:List Res) {k n:Nat}(hk:k<n):(j4 f ds es n).getD k zo=qx f (ds.getD k zo) (es.getD k zo):=Um f ds es k n hk
theorem U9 {a:Nat}(q:Nat->Bool):qT a a q=!qa (fun k=>!q k) a:=by simp[qT]
theorem Y8 {f:zm->zm->zm}(hf:Zs f) {ds es:List Res}(hn:es.length=ds.length) (t:∀ k,k<ds.length->jN (ds.getD k zo)) (C:∀ k,k<ds.length->jN (es.getD k zo)):
  qK ds<=qK (qz f ds es)∧(qF es ds=false->qK ds<qK (qz f ds es))∧(qF es ds=true->qz f ds es=ds):=by
 have R:(qz f ds es).length=ds.length:=YT _ _ _ _;have ad:qK (qz f ds es)=Je (fun k=>QV (qx f (ds.getD k zo) (es.getD k zo))) ds.length:=by
  unfold qK;rw[R];exact zcU fun k i=>by rw[Uq f ds es i]
 have P:∀ k,k<ds.length->QV (ds.getD k zo)<=QV (qx f (ds.getD k zo) (es.getD k zo)):=fun k i=>(YE hf (t k i) (C k i)).1
 rw[ad];refine⟨ZX P,fun g=>?_,fun g=>?_⟩
 ·have o:¬ ∀ k,k<ds.length->QN (es.getD k zo) (ds.getD k zo)=true:=fun U=>by
   unfold qF at g;rw[hn,Jd U]at g;cases g
  obtain⟨T,aa⟩:=Classical.not_forall.1 o;obtain⟨I,ab⟩:=Classical.not_imp.1 aa;exact U0 ((YE hf (t T I) (C T I)).2.1 (by simpa using ab)) P I
 ·unfold qF at g
  rw[hn,U9]at g;have o:∀ k,k<ds.length->QN (es.getD k zo) (ds.getD k zo)=true:=fun k i=>by
   have:=J2 (q:=fun k=>!QN (es.getD k zo) (ds.getD k zo)) (by simpa using g) k i;simpa using this
  apply List.ext_getElem R;intro k ac j;have p:=Uq f ds es j;rw[(YE hf (t k j) (C k j)).2.2 (o k j)]at p;rw[List.getD_eq_getElem?_getD,List.getD_eq_getElem?_getD,List.getElem?_eq_getElem j,List.getElem?_eq_getElem (show k<(j4 f ds es ds.length).length from ac)]at p;simpa using p
theorem Ur {ds:List Res}{n:Nat}(hn:ds.length<=n) (j:∀ k,k<ds.length->jN (ds.getD k zo)):qK ds<=n*4294967359:=by
 have g:=Y5 (f:=fun k=>QV (ds.getD k zo)) (m:=4294967359) (n:=ds.length) fun k o=>zdq (j k o)
 have i:ds.length*4294967359<=n*4294967359:=Nat.mul_le_mul_right _ hn;exact Nat.le_trans g i
theorem zdr {p:Pg}{f:zm->zm->zm}(hf:Zs f) {d e:Pd}(P:zS p d) (R:zS p e) (ae:d.none=false) (af:e.none=false):
  Ji d<=Ji (zW f d e)∧(qt e d=false->Ji d<Ji (zW f d e))∧(qt e d=true->zW f d e=d):=by
 obtain⟨a3,o,i⟩:=d;obtain⟨a6,t,j⟩:=e;dsimp only at ae af;subst ae af;have a0:=P.vars;have a1:=R.vars;have ar:=P.fields;have au:=R.fields;dsimp only at a0 a1 ar au;have ag:j.length=i.length:=by omega
 obtain⟨a2,ak,al⟩:=Y8 hf (ds:=o) (es:=t) (by omega) P.vg (fun k C=>R.vg k (by show k<t.length;omega));have aa:∀ k,k<i.length->qK (i.getD k [])<=qK (qz f (i.getD k []) (j.getD k []))∧(qF (j.getD k []) (i.getD k [])=false->qK (i.getD k [])<qK (qz f (i.getD k []) (j.getD k [])))∧(qF (j.getD k []) (i.getD k [])=true->qz f (i.getD k []) (j.getD k [])=i.getD k []):=fun k C=>by
  have a4:((i.getD k []).length:Int)=p.fields:=P.rows k C;have a5:((j.getD k []).length:Int)=p.fields:=R.rows k (by show k<j.length;omega);exact Y8 hf (by omega) (fun I T=>P.fg k I C T) (fun I T=>R.fg k I (by show k<j.length;omega) (by show I<(j.getD k []).length;omega))
 have aj:(qB f ⟨false,o,i⟩ ⟨false,t,j⟩ i.length).length=i.length:=by simp[qB]
 have az:Je (fun k=>qK ((zW f ⟨false,o,i⟩ ⟨false,t,j⟩).row k)) (zW f ⟨false,o,i⟩ ⟨false,t,j⟩).fields.length=Je (fun k=>qK (qz f (i.getD k []) (j.getD k []))) i.length:=by
  show Je (fun k=>qK ((qB f ⟨false,o,i⟩ ⟨false,t,j⟩ i.length).getD k [])) (qB f ⟨false,o,i⟩ ⟨false,t,j⟩ i.length).length=_
  rw[aj];exact zcU fun k C=>by rw[ZW _ _ _ _ _ C]
 have ax:Ji (zW f ⟨false,o,i⟩ ⟨false,t,j⟩)=1+(qK (qz f o t)+Je (fun k=>qK (qz f (i.getD k []) (j.getD k []))) i.length):=by
  rw[<- az];rfl
 have ay:Ji ⟨false,o,i⟩=1+(qK o+Je (fun k=>qK (i.getD k [])) i.length):=rfl;rw[ax,ay];have a7:=ZX (f:=fun k=>qK (i.getD k [])) (g:=fun k=>qK (qz f (i.getD k []) (j.getD k []))) (n:=i.length) fun k C=>(aa k C).1
 have ah:qt ⟨false,t,j⟩ ⟨false,o,i⟩=(qF t o&&yP j i):=rfl;refine⟨by omega,fun h=>?_,fun h=>?_⟩
 ·rw[ah,Bool.and_eq_false_iff]at h
  rcases h with h|h
  ·have:=ak h;omega
  ·have ab:¬ ∀ k,k<i.length->qF (j.getD k []) (i.getD k [])=true:=fun aq=>by
    unfold yP at h;rw[ag,Jd aq]at h;cases h
   obtain⟨I,T⟩:=Classical.not_forall.1 ab;obtain⟨ai,av⟩:=Classical.not_imp.1 T;have:=U0 (f:=fun k=>qK (i.getD k [])) (g:=fun k=>qK (qz f (i.getD k []) (j.getD k []))) ((aa I ai).2.1 (by simpa using av)) (n:=i.length) (fun k C=>(aa k C).1) ai;omega
 ·rw[ah,Bool.and_eq_true]at h
  have ab:=al h.1;have an:qB f ⟨false,o,i⟩ ⟨false,t,j⟩ i.length=i:=by
   have ac:=h.2;unfold yP at ac;rw[ag,U9]at ac;have ao:∀ k,k<i.length->qF (j.getD k []) (i.getD k [])=true:=fun k C=>by
    have:=J2 (q:=fun k=>!qF (j.getD k []) (i.getD k [])) (by simpa using ac) k C;simpa using this
   apply List.ext_getElem aj;intro k aw U;have ad:=ZW f ⟨false,o,i⟩ ⟨false,t,j⟩ k _ U;rw[show qz f (Pd.row ⟨false,o,i⟩ k) (Pd.row ⟨false,t,j⟩ k)=i.getD k [] from (aa k U).2.2 (ao k U)]at ad;rw[List.getD_eq_getElem?_getD,List.getD_eq_getElem?_getD,List.getElem?_eq_getElem U,List.getElem?_eq_getElem aw]at ad;simpa using ad
  show (⟨false,qz f o t,qB f ⟨false,o,i⟩ ⟨false,t,j⟩ i.length⟩:Pd)=_
  rw[ab,an]
theorem Va {p:Pg}{is:Nat->Ins}(C:zf p is=0) {f:zm->zm->zm}(hf:Zs f) {d e:Pd}(j:zE p is d=0) (o:zE p is e=0):
  (qt e d=false->Ji d<Ji (jM f d e))∧(qt e d=true->jM f d e=d):=by
 rw[Jw C j o];unfold Qx;cases g:d.none with
 | true=>
  rw[if_pos rfl];have I:=zS.none j g;have i:qt e d=e.none:=by unfold qt;rw[g,Bool.or_true,if_pos rfl]
  rw[i];refine⟨fun h=>?_,fun h=>?_⟩
  ·rw[I]
   show 0<Ji e
   unfold Ji;rw[if_neg (by rw[h];decide)];omega
  ·rw[I];exact zS.none o h
 | false=>
  rw[if_neg (by decide)];cases t:e.none with
  | true=>
   have i:qt e d=true:=by unfold qt;rw[g,t];rfl
   rw[if_pos rfl,i];exact⟨fun h=>(by cases h),fun _=>rfl⟩
  | false=>
   rw[if_neg (by decide)];exact(zdr hf (zS.of j C g) (zS.of o C t) g t).2
theorem zds {p:Pg}{is:Nat->Ins}(j:zf p is=0) {d:Pd}(I:zE p is d=0):Ji d<=188*4294967359+1:=by
 unfold Ji;cases P:d.none with
 | true=>simp
 | false=>
  rw[if_neg (by decide)];have h:=zS.of I j P;have g:=(zp j).1;have U:=g.v2;have aa:=g.n1;have ab:=g.f2;have ac:=h.vars;have ad:=h.fields;have o:=Ur (ds:=d.vars) (n:=8) (by omega) h.vg;have t:Je (fun k=>qK (d.row k)) d.fields.length<=d.fields.length*(3*4294967359):=Y5 fun k i=>Ur (by have:=h.rows k i;omega) (fun T R=>h.fg k T i R)
  have C:d.fields.length*(3*4294967359)<=60*(3*4294967359):=Nat.mul_le_mul_right _ (by omega);exact Nat.le_trans (Nat.add_le_add_left (Nat.add_le_add o (Nat.le_trans t C)) 1) (by decide)
theorem zdt {p:Pg}{is:Nat->Ins}(g:zf p is=0) {l:List Pd}(h:qE p is l):Y7 l<=61*(188*4294967359+1):=by
 have o:=(zp g).1.n1;have t:=h.len;have i:=Y5 (f:=fun k=>Ji (l.getD k zC)) (m:=188*4294967359+1) (n:=l.length) fun k C=>zds g (h.r k (by omega))
 have j:l.length*(188*4294967359+1)<=61*(188*4294967359+1):=Nat.mul_le_mul_right _ (by omega);exact Nat.le_trans i j
theorem zdu {p:Pg}{is:Nat->Ins}(C:zf p is=0) {nb:Bool}{i:Nat}{x:Int × Pd}{s:List Pd × Bool}(h:qE p is s.1) (t:zE p is x.2=0) (P:0<=x.1∧x.1<=p.n):
  q3 nb i x s=s∨((q3 nb i x s).2=true∧Y7 s.1<Y7 (q3 nb i x s).1):=by
 unfold q3;by_cases g:qt x.2 (s.1.getD x.1.toNat zC)=true
 ·exact .inl (if_pos g)
 ·rw[if_neg g]
  refine .inr ⟨rfl,?_⟩;have T:=h.len;have I:Zs (if (nb&&decide (x.1<=i))=true then jf else both):=by
   split
   ·exact Zt
   ·exact J3
  have o:=(Va C I (h.r x.1.toNat (by omega)) t).1 (by simpa using g);dsimp only;generalize jM (if (nb&&decide (x.1<=i))=true then jf else both) (s.1.getD x.1.toNat zC) x.2=r at o;unfold Y7;rw[List.length_set];refine U0 (j:=x.1.toNat) ?_ (fun k R=>?_) (by omega)
  ·rw[qs _ _ _ _ _ (by omega),if_pos rfl]
   exact o
  ·rw[qs _ _ _ _ _ (by omega)]
   split
   ·rename_i e;rw[e];omega
   ·exact Nat.le_refl _
theorem KV {p:Pg}{is:Nat->Ins}(j:zf p is=0) {nb:Bool}{i:Nat}:∀ (g:List (Int × Pd)) (s:List Pd × Bool),qE p is s.1->(∀ x∈g,(0<=x.1∧x.1<=p.n)∧zE p is x.2=0)->
  qE p is (g.foldl (fun s d=>q3 nb i d s) s).1∧(g.foldl (fun s d=>q3 nb i d s) s=s∨((g.foldl (fun s d=>q3 nb i d s) s).2=true∧Y7 s.1<Y7 (g.foldl (fun s d=>q3 nb i d s) s).1))
 | [],s,h,_=>⟨h,.inl rfl⟩
 | x::g,s,h,he=>by
  obtain⟨I,C⟩:=he x List.mem_cons_self;have U:=qE.next j (nb:=nb) (i:=i) h C I;obtain⟨ab,o⟩:=KV j g (q3 nb i x s) U fun y aa=>he y (List.mem_cons_of_mem _ aa)
  rw[List.foldl_cons];refine⟨ab,?_⟩;rcases zdu j (nb:=nb) (i:=i) h C I with e|⟨P,t⟩
  ·rw[e]at o ⊢;exact o
  ·rcases o with e|⟨R,T⟩
   ·rw[e];exact .inr ⟨P,t⟩
   ·exact .inr ⟨R,Nat.lt_trans t T⟩
theorem KW {p:Pg}{is:Nat->Ins}(C:zf p is=0) {d:Pd}(I:zE p is d=0) {i:Nat}(hi:i<p.n):∀ x∈(Qo is i d).es,(0<=x.1∧x.1<=p.n)∧zE p is x.2=0:=by
 intro x g;unfold Qo at g;by_cases j:d.none=true
 ·rw[if_pos j]at g;cases g
 ·rw[if_neg j]at g
  obtain⟨o,t⟩:=zbv C (q2.of I (by simpa using j)) hi _ g;exact⟨o,t.right⟩
theorem J4 {p:Pg}{is:Nat->Ins}(g:zf p is=0) {nb:Bool}{s:List Pd × Bool}(h:qE p is s.1):∀ k,k<=p.n->
  qE p is (z8 is (q3 nb) Prod.fst k s).1∧(z8 is (q3 nb) Prod.fst k s=s∨((z8 is (q3 nb) Prod.fst k s).2=true∧Y7 s.1<Y7 (z8 is (q3 nb) Prod.fst k s).1))
 | 0,_=>⟨h,.inl rfl⟩
 | k+1,hk=>by
  obtain⟨t,R⟩:=J4 g h k (by omega);rw[Qm];unfold Uk KL;obtain⟨T,j⟩:=KV g (nb:=nb) (i:=k) (Qo is k ((z8 is (q3 nb) Prod.fst k s).1.getD k zC)).es (z8 is (q3 nb) Prod.fst k s) t (KW g (t.r k (by omega)) (by omega));refine⟨T,?_⟩;rcases R with e|⟨C,o⟩
  ·rw[e]at j ⊢;exact j
  ·rcases j with e|⟨I,P⟩
   ·rw[e];exact .inr ⟨C,o⟩
   ·exact .inr ⟨I,Nat.lt_trans o P⟩
def zbB (is:Nat->Ins) (g n:Nat) (l:List Pd):List Pd × Bool:=z8 is (q3 (decide (3<n))) Prod.fst g (l,false)
def y5 (is:Nat->Ins) (g:Nat) (l:List Pd):Nat->List Pd
 | 0=>l
 | k+1=>(zbB is g (k+1) (y5 is g l k)).1
def Zu (is:Nat->Ins) (g:Nat) (l:List Pd) (k:Nat):Bool:=(zbB is g (k+1) (y5 is g l k)).2
def Yi (is:Nat->Ins) (i:Nat) (l:List Pd) (k:Nat):Prop:=Zu is i l k=false∧∀ g,g<k->Zu is i l g=true
theorem Yi.one {is:Nat->Ins}{i:Nat}{l:List Pd}{k m:Nat}(h:Yi is i l k) (g : Yi is i l m):k=m:=by
 rcases Nat.lt_trichotomy k m with e|e|e
 ·have:=g.2 k e;rw[h.1]at this;cases this
 ·exact e
 ·have:=h.2 m e;rw[g.1]at this;cases this
theorem Jj {p:Pg}{is:Nat->Ins}(g:zf p is=0) {l:List Pd}(h:qE p is l):∀ k,qE p is (y5 is p.n l k)
 | 0=>h
 | k+1=>(J4 g (nb:=decide (3<k+1)) (s:=(y5 is p.n l k,false)) (Jj g h k) p.n (Nat.le_refl _)).1
theorem Xu {p:Pg}{is:Nat->Ins}(j:zf p is=0) {l:List Pd}(h:qE p is l):∀ k,(∀ g,g<k->Zu is p.n l g=true)->k<=Y7 (y5 is p.n l k)
 | 0,_=>Nat.zero_le _
 | k+1,hc=>by
  have ih:=Xu j h k fun g o=>hc g (by omega)
  have i:=hc k (by omega);rcases (J4 j (nb:=decide (3<k+1)) (s:=(y5 is p.n l k,false)) (Jj j h k) p.n (Nat.le_refl _)).2 with e|⟨_,e⟩
  ·unfold Zu zbB at i
   rw[e]at i;cases i
  ·exact Nat.lt_of_le_of_lt ih e
theorem Vb {p:Pg}{is:Nat->Ins}(g:zf p is=0) {l:List Pd}(h:qE p is l) {k:Nat}(hc:∀ i,i<k->Zu is p.n l i=true):k<=50000000000000:=
 Nat.le_trans (Nat.le_trans (Xu g h k hc) (zdt g (Jj g h k))) (by decide)
theorem zgg {p:Pg}{is:Nat->Ins}(C:zf p is=0) {l:List Pd}(h:qE p is l):∃ k,Yi is p.n l k:=by
 apply Classical.byContradiction;intro t;have j:∀ k,∀ g,g<k->Zu is p.n l g=true:=by
  intro k;induction k with
  | zero=>intro g i;exact absurd i (Nat.not_lt_zero g)
  | succ k ih=>
   intro g i;by_cases e:g=k
   ·subst e
    cases o:Zu is p.n l g with
    | true=>rfl
    | false=>exact absurd ⟨g,o,ih⟩ t
   ·exact ih g (by omega)
 have:=Vb C h (j 50000000000001);omega
end Go.Proofs.YtplcndmdkabmeaaGreatDoor
