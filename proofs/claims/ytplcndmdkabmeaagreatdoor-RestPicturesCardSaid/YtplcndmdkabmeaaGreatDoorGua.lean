/- More short words for the walks: loads of what was there, and of blocks whose cells are not written out. Over any program. Conditions: none. -/
import Derived.Test.YtplcndmdkabmeaaGreatDoorCod
import Derived.Test.YtplcndmdkabmeaaGreatDoorSpn
import Derived.Test.YtplcndmdkabmeaaGreatDoorLib
set_option linter.unusedSimpArgs false
set_option linter.unusedVariables false
set_option maxRecDepth 100000
set_option maxHeartbeats 8000000
namespace Go.Proofs.YtplcndmdkabmeaaGreatDoor
open Go.Proofs.Tryz
open Go.RowKit
structure Gu where
 null:Bool
 span:zm
 tr:Bool
 fa:Bool
 s:Sl
abbrev Gu.cells (g:Gu):List Value:=[.bool g.null,.bool g.span.none,.int .i64 g.span.lo,.int .i64 g.span.hi,.bool g.tr,.bool g.fa,.slice g.s.p g.s.n g.s.cap]
abbrev Gu.v (g:Gu):Value:=.agg #[.bool g.null,.bool g.span.none,.int .i64 g.span.lo,.int .i64 g.span.hi,.bool g.tr,.bool g.fa,.slice g.s.p g.s.n g.s.cap]
abbrev qn:Gu:=⟨false,zA,false,false,zi⟩
def qb (g:Gu):Bool:=!g.null&&g.span.none && !g.tr && !g.fa&&(g.s.n:Int)==0
def yw (g:Gu):Bool:=g.null || g.tr || g.fa || decide (0<g.s.n)
def Jf (g:Gu):Bool:=(!g.span.none && !(g.span.lo==0&&g.span.hi==0)) || g.tr || decide (0<g.s.n)
def noG (g:Gu):Bool:=g.null || g.fa || jE g.span 0
theorem ja (w:World):Calls prog 136 #[] w fun e j=>e=.returned qn.v∧Below w.heap.size w j:=by
 have J:=Loc.start w;go_enter func136,ntmps136;go_wp2_with (first|((with_reducible refine lal J ?_);clear J;intro p w1 J)|(refine zc J ?_;clear J;intro w1 J)|(go_at_call 181;refine cg J (JW _) ?_;clear J;intro w1 J;dsimp only));refine rt1 ?_;exact⟨rfl,J.below⟩
theorem zt (w:World):Calls prog 78 #[] w fun e j=>e=.returned qn.v∧Below w.heap.size w j:=by
 have J:=Loc.start w;go_enter func78,ntmps78;go_wp2_with (first|((with_reducible refine lal J ?_);clear J;intro p w1 J)|(refine zc J ?_;clear J;intro w1 J));refine rt1 ?_;exact⟨rfl,J.below⟩
theorem j1 (g:Gu) (w:World):Calls prog 147 #[g.v] w fun e j=>e=.returned (.bool (qb g))∧Below w.heap.size w j:=by
 have J:=Loc.start w;go_enter func147,ntmps147;go_upto_region 1 with(with_reducible refine lbx J ?_;clear J;intro p w1 J)
 refine zx [3,4,5,6,7,8,9,10,11,12,13,14,15,16,17,18,19,20,21,22,23,24,25,26,2] ?_
 iterate 25 refine qda ?_
 refine dns J ?_;clear J;intro C J;simp only[zr,sTa,sTb];go_wp2;refine rt1 ?_;exact⟨by rfl,J.below⟩
theorem zK (g:Gu) (w:World):Calls prog 83 #[g.v] w fun e j=>e=.returned (.bool (qb g))∧Below w.heap.size w j:=by
 have J:=Loc.start w;go_enter func83,ntmps83;go_upto_region 1 with(with_reducible refine lbx J ?_;clear J;intro p w1 J)
 refine zx [3,4,5,6,7,8,9,10,11,12,13,14,15,16,17,18,19,20,21,22,23,24,25,26,2] ?_
 iterate 25 refine qda ?_
 refine dns J ?_;clear J;intro C J;simp only[zr,sTa,sTb];go_wp2;refine rt1 ?_;exact⟨by rfl,J.below⟩
theorem X8 (g:Gu) (w:World):Calls prog 207 #[g.v] w fun e j=>e=.returned (.bool (yw g))∧Below w.heap.size w j:=by
 have J:=Loc.start w;go_enter func207,ntmps207;go_upto_region 1 with(with_reducible refine lbx J ?_;clear J;intro p w1 J)
 refine zx [3,4,5,6,7,8,9,10,11,12,13,14,15,16,17,18,2] ?_
 iterate 17 refine qda ?_
 refine dns J ?_;clear J;intro C J;simp only[zr,sTa,sTb];go_wp2;refine rt1 ?_;exact⟨by rfl,J.below⟩
theorem Ql (g:Gu) (w:World):Calls prog 123 #[g.v] w fun e j=>e=.returned (.bool (yw g))∧Below w.heap.size w j:=by
 have J:=Loc.start w;go_enter func123,ntmps123;go_upto_region 1 with(with_reducible refine lbx J ?_;clear J;intro p w1 J)
 refine zx [3,4,5,6,7,8,9,10,11,12,13,14,15,16,17,18,2] ?_
 iterate 17 refine qda ?_
 refine dns J ?_;clear J;intro C J;simp only[zr,sTa,sTb];go_wp2;refine rt1 ?_;exact⟨by rfl,J.below⟩
def jO (l:List Int) (v:Int):Bool:=qa (fun k=>l.getD k 0==v) l.length
theorem JY {l:List Int}{v:Int}:jO l v=true↔v∈l:=by
 unfold jO;rw[KO];constructor
 ·rintro⟨k,j,h⟩
  rw[List.getD_eq_getElem?_getD,List.getElem?_eq_getElem j]at h;have:l[k]=v:=by simpa using h
  exact this▸List.getElem_mem j
 ·intro h
  obtain⟨k,j,h⟩:=List.mem_iff_getElem.1 h;exact⟨k,j,by rw[List.getD_eq_getElem?_getD,List.getElem?_eq_getElem j];simp[h]⟩
def Zn (l m:List Int):Bool:=(l.length==m.length) && !qa (fun k=>l.getD k 0 != m.getD k 0) l.length
theorem VY (l:List Int):Zn l l=true:=by
 unfold Zn;rw[qu (fun k _=>by simp)];simp
theorem zcz (s:Sl) (l:List Int) (v:Int) (w:World) (C:zk w s l):
  Calls prog 225 #[s.v,.int .i64 v] w fun e ao=>∃ r:Int,e=.returned (.int .i64 r)∧decide (0<=r)=jO l v∧Below w.heap.size w ao:=by
 obtain⟨b,o,T,R⟩:=C.reads y2;have af:=C.n;have an:=C.m;obtain⟨p,n,cap⟩:=s;dsimp only at T R af an;subst af;dsimp only[Sl.v];have ak:=za T;have ai:=za R;clear T R C;have J:=Loc.start w;go_enter func225,ntmps225;go_wp2;go_loopw [8] (fun x wr=>∃ k:Nat,k<=l.length∧x=.int .i64 k∧(∀ j,j<k->(l.getD j 0==v)=false)∧Loc w wr [] []) (fun x _=>l.length - (intOf x).toNat)
 case atStart=>exact⟨0,Nat.zero_le _,rfl,fun j ad=>absurd ad (by omega),J⟩
 case round=>
  clear J;obtain⟨k,aq,rfl,ag,J⟩:=hrel;have U:=za ag;clear ag;by_cases ae:k<l.length
  ·have al:=za (ak.out (by omega))
   have aa:=za (ai.out k ae);generalize ah:l.getD k 0=x at aa;have ab:=za ah;clear ah;go_upto_region 4 with(fail)
   refine zx [11,12,13,14,15,16] ?_
   iterate 3 refine qdv ?_
   refine qdx al.out ?_;refine qdl aa.out ?_;refine qdv ?_;refine dns J ?_;clear J;intro au J;simp only[zr,sTa,sTb];by_cases he:x=v
   ·subst he
    have I:=za (show jO l x=true from qg ae (by show (l.getD k 0==x)=true;rw[ab.out];exact beq_self_eq_true x));go_wp2;go_ret;exact⟨_,rfl,by rw[I.out];simp,J.below⟩
   ·have ac:(v==x)=false:=beq_eq_false_iff_ne.2 (fun h=>he h.symm)
    have aj:=za he;clear he;simp only[ac];clear ac;go_wp2;go_roundw
    case rel=>
     refine⟨k+1,by omega,by go_num,fun j ad=>?_,J⟩;rcases Nat.lt_or_ge j k with h|h
     ·exact U.out j h
     ·obtain rfl:j=k:=by omega
      rw[ab.out];exact beq_eq_false_iff_ne.2 aj.out
    case measure=>simp[intOf];omega
  ·obtain rfl:k=l.length:=by omega
   have I:=za (show jO l v=false from qu U.out);go_wp2;go_ret;exact⟨_,rfl,by rw[I.out];rfl,J.below⟩
theorem JF (s:Sl) (l:List Int) (v:Int) (w:World) (j:zk w s l):
  Calls prog 183 #[s.v,.int .i64 v] w fun e R=>e=.returned (.bool (jO l v))∧Below w.heap.size w R:=by
 have p:=za (zcz s l v w j);clear j;go_enter func183,ntmps183;go_wp2_with (go_at_call 225;refine p.out.mono ?_;rintro e w1 ⟨r,rfl,I,C⟩;dsimp only);go_ret;exact⟨by rw[<- I];rfl,C⟩
theorem VZ (s:Sl) (l:List Int) (v:Int) (w:World) (I:zk w s l):
  Calls prog 120 #[s.v,.int .i64 v] w fun e ao=>e=.returned (.bool (jO l v))∧Below w.heap.size w ao:=by
 obtain⟨b,o,T,R⟩:=I.reads y2;have af:=I.n;have an:=I.m;obtain⟨p,n,cap⟩:=s;dsimp only at T R af an;subst af;dsimp only[Sl.v];have ak:=za T;have ai:=za R;clear T R I;have J:=Loc.start w;go_enter func120,ntmps120;go_wp2;go_loopw [5] (fun x wr=>∃ k:Nat,k<=l.length∧x=.int .i64 k∧(∀ j,j<k->(l.getD j 0==v)=false)∧Loc w wr [] []) (fun x _=>l.length - (intOf x).toNat)
 case atStart=>exact⟨0,Nat.zero_le _,rfl,fun j ad=>absurd ad (by omega),J⟩
 case round=>
  clear J;obtain⟨k,aq,rfl,ag,J⟩:=hrel;have U:=za ag;clear ag;by_cases ae:k<l.length
  ·have al:=za (ak.out (by omega))
   have aa:=za (ai.out k ae);generalize ah:l.getD k 0=x at aa;have ab:=za ah;clear ah;go_upto_region 4 with(fail)
   refine zx [12,13,14,15,16,17] ?_
   iterate 2 refine qdv ?_
   refine qdx al.out ?_;refine qdl aa.out ?_
   iterate 2 refine qdv ?_
   refine dns J ?_;clear J;intro au J;simp only[zr,sTa,sTb];by_cases C:x=v
   ·subst C
    have HA:=za (show jO l x=true from qg ae (by show (l.getD k 0==x)=true;rw[ab.out];exact beq_self_eq_true x));go_wp2;go_ret;exact⟨by first|(rw[HA.out];done)|(rw[HA.out];rfl),J.below⟩
   ·have ac:(x==v)=false:=beq_eq_false_iff_ne.2 C
    have aj:=za C;clear C;simp only[ac];clear ac;go_wp2;go_roundw
    case rel=>
     refine⟨k+1,by omega,by go_num,fun j ad=>?_,J⟩;rcases Nat.lt_or_ge j k with h|h
     ·exact U.out j h
     ·obtain rfl:j=k:=by omega
      rw[ab.out];exact beq_eq_false_iff_ne.2 aj.out
    case measure=>simp[intOf];omega
  ·obtain rfl:k=l.length:=by omega
   have HA:=za (show jO l v=false from qu U.out);go_wp2;go_ret;exact⟨by first|(rw[HA.out];done)|(rw[HA.out];rfl),J.below⟩
theorem KF (s t:Sl) (l m:List Int) (w:World) (R:zk w s l) (U:zk w t m):
  Calls prog 167 #[s.v,t.v] w fun e a8=>e=.returned (.bool (Zn l m))∧Below w.heap.size w a8:=by
 obtain⟨b,o,af,ab⟩:=R.reads y2;obtain⟨a9,aD,ag,ac⟩:=U.reads y2;have ao:=R.n;have a6:=R.m;have aq:=U.n;have a7:=U.m;obtain⟨p,n,cap⟩:=s;obtain⟨aF,aC,aA⟩:=t;dsimp only at af ab ao a6 ag ac aq a7;subst ao;subst aq;dsimp only[Sl.v];have a0:=za af;have aw:=za ab;have a1:=za ag;have ax:=za ac;clear af ab R ag ac U;have J:=Loc.start w;by_cases T:(l.length:Int)=m.length
 ·have ad : l.length=m.length:=by omega
  have a4:((l.length:Int) != (m.length:Int))=false:=by simp[T]
  have C:=za (show Zn l m=!qa (fun k=>l.getD k 0 != m.getD k 0) l.length by simp[Zn,ad]);have az:=za ad;clear T ad;go_enter func167,ntmps167;go_wp2;go_loopw [5] (fun x wr=>∃ k:Nat,k<=l.length∧x=.int .i64 k∧(∀ j,j<k->(l.getD j 0 != m.getD j 0)=false)∧Loc w wr [] []) (fun x _=>l.length - (intOf x).toNat)
  case atStart=>exact⟨0,Nat.zero_le _,rfl,fun j an=>absurd an (by omega),J⟩
  case round=>
   clear J;obtain⟨k,aB,rfl,ar,J⟩:=hrel;have ah:=za ar;clear ar;by_cases ae:k<l.length
   ·have a5:k<m.length:=by rw[<- az.out];exact ae
    have a2:=za (a0.out (by omega));have a3:=za (a1.out (by omega));have ai:=za (aw.out k ae);have aj:=za (ax.out k a5);generalize au:l.getD k 0=x at ai;generalize av:m.getD k 0=y at aj;have ak:=za au;have al:=za av;clear au av;go_upto_region 6 with(fail)
    refine zb [17,18,19,20,21,22,23,24,25] ?_
    iterate 2 refine qdv ?_
    refine qdx a2.out ?_;refine qdl ai.out ?_
    iterate 2 refine qdv ?_
    refine qdx a3.out ?_;refine qdl aj.out ?_;refine qdv ?_;refine dnd J ?_;clear J;intro aH J;simp only[zr,sTa,sTb];by_cases I:x=y
    ·have h1:(x != y)=false:=by simp[I]
     have ay:=za h1;simp only[h1];clear h1 I;go_wp2;go_roundw
     case rel=>
      refine⟨k+1,by omega,by go_num,fun j an=>?_,J⟩;rcases Nat.lt_or_ge j k with h|h
      ·exact ah.out j h
      ·obtain rfl:j=k:=by omega
       rw[ak.out,al.out];exact ay.out
     case measure=>simp[intOf];omega
    ·have h1:(x != y)=true:=by simp[I]
     have aa:=za (qg (q:=fun k=>l.getD k 0 != m.getD k 0) ae (by show (l.getD k 0 != m.getD k 0)=true;rw[ak.out,al.out];exact h1));simp only[h1];clear h1 I;go_wp2;go_ret;exact⟨by rw[C.out,aa.out];rfl,J.below⟩
   ·obtain rfl:k=l.length:=by omega
    have aa:=za (qu ah.out);go_wp2;go_ret;exact⟨by rw[C.out,aa.out];rfl,J.below⟩
 ·have a4:((l.length:Int) != (m.length:Int))=true:=by simpa using T
  have C:=za (show Zn l m=false by
   have:¬ l.length=m.length:=by omega
   simp[Zn,this])
  clear T;go_enter func167,ntmps167;go_wp2;go_ret;exact⟨by first|(rw[C.out];done)|(rw[C.out];rfl),J.below⟩
section
variable {P : Program} {ops : Array Oper} {Q : Exit -> Act -> World -> Prop}
variable {t : List Value} {df : List Deferred} {ds : List Nat} {xs : List Yld} {w0 w1 : World} {CL : Array Bool -> List zg} {D : List zl} {l : Array Bool} {g : Nat -> Value} {w : World} {i : Nat} {o : Oper}
structure zeu (xs:List Yld) (w0:World) (CL:Array Bool->List zg) (D:List zl) (l:Array Bool) (g:Nat->Value) (w:World):Prop where
 loc:Loc w0 w (CL l) D
 vals:∀ e∈xs,lst l e.1=true->g e.2.1=e.2.2
def za6 (t:List Value) (df:List Deferred) (ds:List Nat) (xs:List Yld) (w0:World) (CL:Array Bool->List zg) (D:List zl) (l:Array Bool) (a:Act) (w:World):Prop:=
 ∃ g,a=⟨(zv t ds g).toArray,df⟩∧zeu xs w0 CL D l g w
def zdg (ds:List Nat) (xs:List Yld):Bool:=decide (xs.map (·.1)).Nodup&&decide (xs.map (·.2.1)).Nodup&&xs.all (fun e=>ds.contains e.2.1)
theorem zX {d:Nat}{x:Value}(hk:zdg ds xs=true) (I:(i,d,x)∈xs) (R:zeu xs w0 CL D l g w) (ab:CL (l.setIfInBounds i true)=CL l)
  (h:wpList P ops (z7 ⟨(zv t ds g).toArray,df⟩ d w (fun v _=>v=x)) [o] ⟨(zv t ds g).toArray,df⟩ w):
  wpList P ops (q6 (za6 t df ds xs w0 CL D (l.setIfInBounds i true))) [o] ⟨(zv t ds g).toArray,df⟩ w:=by
 simp only[zdg,Bool.and_eq_true,decide_eq_true_eq]at hk;obtain⟨⟨af,ag⟩,ah⟩:=hk;have ad:d∈ds:=by
  have:=List.all_eq_true.1 ah (i,d,x) I;simpa using this
 refine Qs (rest:=[]) (fun _ _ _ h=>by cases h.1) (fun _ _ h=>by cases h.1) (fun U ai j=>?_) h;show q6 _ .normal U ai
 obtain⟨_,v,rfl,aa,rfl⟩:=j;refine⟨rfl,upd g d v,Ke ad,by rw[ab];exact R.loc.grow aa,fun e j T=>?_⟩;by_cases C:e.1=i
 ·have p:e=(i,d,v):=qI af e j _ I C
  subst p;simp[upd]
 ·rw[ze C]at T
  have ae:e.2.1≠d:=fun ac=>by
   have p:e=(i,d,v):=qI ag e j _ I ac;exact C (congrArg Prod.fst p)
  simp only[upd,if_neg ae];exact R.vals e j T
theorem zg7 (I:zeu xs w0 CL D l g w) (U:xs.all (fun e=>!(e.1==i))=true) {w' : World}{L:List zg}(J:Loc w0 w' L D) (R:CL (l.setIfInBounds i true)=L):
  wpList P ops (q6 (za6 t df ds xs w0 CL D (l.setIfInBounds i true))) [] ⟨(zv t ds g).toArray,df⟩ w':=by
 show q6 _ .normal _ _
 refine⟨rfl,g,rfl,by rw[R];exact J,fun e j p=>?_⟩;have C:=List.all_eq_true.1 U e j;have T:e.1≠i:=by simpa using C
 rw[ze T]at p;exact I.vals e j p
theorem Z9 (C:zeu xs w0 CL D l g w) (T:xs.all (fun e=>!(e.1==i))=true) {L:List zg}(I:CL (l.setIfInBounds i true)=L)
  (h:wpList P ops (fun e j p=>e=.normal∧j=⟨(zv t ds g).toArray,df⟩∧Loc w0 p L D) [o] ⟨(zv t ds g).toArray,df⟩ w):
  wpList P ops (q6 (za6 t df ds xs w0 CL D (l.setIfInBounds i true))) [o] ⟨(zv t ds g).toArray,df⟩ w:=by
 refine Qs (rest:=[]) (fun _ _ _ h=>by cases h.1) (fun _ _ h=>by cases h.1) (fun j p R=>?_) h;obtain⟨_,rfl,J⟩:=R;exact zg7 C T J I
def zht (P:Program) (ops:Array Oper) (t:List Value) (df:List Deferred) (ds:List Nat) (xs:List Yld) (w0:World) (CL:Array Bool->List zg) (D:List zl) (i:Nat) (o:Oper):Prop:=
 ∀ l g w,i<l.size->zeu xs w0 CL D l g w->(∀ j∈zD o,lst l j=true)->
  wpList P ops (q6 (za6 t df ds xs w0 CL D (l.setIfInBounds i true))) [o] ⟨(zv t ds g).toArray,df⟩ w
theorem YZ {id:Nat}{j:List Oper}(ds:List Nat) (xs:List Yld) (CL:Array Bool->List zg) (ae:P.follows .mixedOrders=true) (af:Region.orderB j.toArray=true) (U:Loc w0 w1 (CL (Array.replicate j.toArray.size false)) D)
  (ag:JP (zht P j.toArray t df ds xs w0 CL D) 0 j)
  (ac:∀ g w l,(∀ i,i<j.length->lst l i=true)->Loc w0 w (CL l) D->(∀ e∈xs,e.1<j.length->g e.2.1=e.2.2)->wpList P j.toArray Q [] ⟨(zv t ds g).toArray,df⟩ w):
  (Code.region id j.toArray true).wp P Q ⟨t.toArray,df⟩ w1:=by
 refine Vi (Inv:=za6 t df ds xs w0 CL D) ae af ?_ ?_ ?_
 ·refine⟨fun d=>t.getD d undef,by rw[yb],U.drew,fun e _ R=>?_⟩
  unfold lst at R;rw[getD_replicate_false]at R;cases R
 ·intro i o p l a w ah I ai V
  obtain⟨g,rfl,C⟩:=I;have ad : i<j.toArray.size:=(Array.getElem?_eq_some_iff.1 p).1;have:=Z0 (K:=zht P j.toArray t df ds xs w0 CL D) (k:=0) (i:=i) (o:=o) ag (by simpa using p);rw[Nat.zero_add]at this;exact this l g w (by rw[ah.size];exact ad) C V
 ·intro l a w I aa
  obtain⟨g,rfl,C⟩:=I;have T : ∀ i,i<j.length->lst l i=true:=fun i p=>aa i (by simpa using p)
  exact ac g w l T C.loc (fun e ab p=>C.vals e ab (T _ p))
theorem KG (n k:Nat):lst (Array.replicate n false) k=false:=getD_replicate_false _ _
end
theorem zfN (a b:zm) (w:World):(binOp .neq 106 (.agg #[.bool a.none,.int .i64 a.lo,.int .i64 a.hi]) (.agg #[.bool b.none,.int .i64 b.lo,.int .i64 b.hi])).run prog w=.ok (.bool (!(a.none==b.none&&a.lo==b.lo&&a.hi==b.hi))) w:=by
 cases j:(a.none==b.none)<;>cases p:(a.lo==b.lo)<;>cases C:(a.hi==b.hi)
 all_goals
  go_simp
  try simp_all
theorem zcA (x y:Operand) (a b:zm) (w:World):(eqGuard .neq 106 x y (.agg #[.bool a.none,.int .i64 a.lo,.int .i64 a.hi]) (.agg #[.bool b.none,.int .i64 b.lo,.int .i64 b.hi])).run prog w=.ok () w:=by
 go_simp
theorem UH {ops:Array Oper}{Q:Exit->Act->World->Prop}{j:Act}{w:World}{rest:List Oper}{d:Option Tmp}{ty u:TypeId}{pos:String}{after:Array Edge}{x y:Operand}{a b:zm}{r:Bool}(ha:j.eval x=a.v) (hb:j.eval y=b.v) (p:(!(a.none==b.none&&a.lo==b.lo&&a.hi==b.hi))=r)
  (h:wpList prog ops Q rest (j.put d (.bool r)) w):wpList prog ops Q (⟨d,.binOp .neq 106 x y u,ty,pos,after,none⟩::rest) j w:=by
 subst p;refine YK (w':=w) ?_ ?_ h
 ·rw[ha,hb];exact zcA x y a b w
 ·rw[ha,hb];exact zfN a b w
theorem GR {a b c d:Bool}(j:a=c) (p:b=d):Ending.returned (.tuple #[.bool a,.bool b])=.returned (.tuple #[.bool c,.bool d]):=by rw[j,p]
theorem ZN (g:Gu) (w:World):Calls prog 158 #[g.v] w fun e U=>e=.returned (.tuple #[.bool (Jf g),.bool (noG g)])∧Below w.heap.size w U:=by
 obtain⟨ad,⟨p,R,I⟩,ag,ac,⟨sp,ae,af⟩⟩:=g;have J:=Loc.start w;go_enter func158,ntmps158;go_upto_region 2 with(first|(with_reducible first|refine lld J ?_|(refine lbx J ?_;clear J;intro ab w1 J))|(go_at_call 182;refine cg J (zfC ⟨p,R,I⟩ 0 _) ?_;clear J;intro w1 J;dsimp only))
 refine zb [9,10,11,12,13,14,15,16,17,18,5] ?_
 iterate 7 refine qda ?_
 refine yu J (fun _ T J=>yv _ _ _) ?_;refine' Vj (j:=4) J rfl rfl rfl (by decide) (by simp) ?_ ?_;rotate_left
 ·intro C;simp only[Bool.and_eq_true,YG,YH]at C;intro g w T J _ q;simp only[aG,C,bX]at q;simp only[fD];simp only[q]
  refine UH (a:=⟨p,R,I⟩) (b:=⟨false,0,0⟩) rfl rfl rfl ?_;go_wp2;exact cY
 iterate 2 refine qdv ?_
 refine dnd J ?_;clear J;intro aa J;simp only[zr,sTa,sTb];go_upto_region 3 with(fail)
 refine zx [19,20,21,22,23,24,25,26,27,28,29,30,31,32,33,34,35,36,37,38,2,3] ?_
 iterate 22 refine qda ?_
 refine dns J ?_;clear J;intro aa J;simp only[zr,sTa,sTb];go_wp2;refine rt2 ?_;refine⟨GR ?_ ?_,J.below⟩
 ·cases p<;>simp[Jf]
 ·simp[noG]
theorem Zg (g:Gu) (w:World):Calls prog 79 #[g.v] w fun e R=>e=.returned (.tuple #[.bool (Jf g),.bool (noG g)])∧Below w.heap.size w R:=by
 obtain⟨ac,⟨j,C,p⟩,I,aa,⟨sp,ad,ae⟩⟩:=g;have J:=Loc.start w;go_enter func79,ntmps79;go_upto_region 1 with(with_reducible refine lbx J ?_;clear J;intro U w1 J)
 refine zx [5,6,7,8,9,10,11,12,13,14,15,16,17,18,19,20,21,22,23,24,25,26,27,28,29,30,4] ?_
 iterate 27 refine qda ?_
 refine dns J ?_;clear J;intro T J;simp only[zr,sTa,sTb];go_upto_region 2 with(fail)
 refine zx [31,32,33,34,35,36,37,38,39,40,41,42,2,3] ?_
 iterate 10 refine qda ?_
 refine yu J (fun _ ab J=>zdd ⟨j,C,p⟩ 0 _) ?_
 iterate 3 refine qdv ?_
 refine dns J ?_;clear J;intro T J;simp only[zr,sTa,sTb];go_wp2;refine rt2 ?_;refine⟨GR ?_ ?_,J.below⟩
 ·rw[Bool.eq_iff_iff];cases j<;>cases I<;>simp[Jf]<;>omega
 ·simp[noG]
theorem V0 (a b:Bool) (w:World):Calls prog 204 #[.bool a,.bool b] w fun e j=>e=.returned (Gu.v ⟨false,zA,a,b,zi⟩)∧Below w.heap.size w j:=by
 have J:=Loc.start w;go_enter func204,ntmps204;go_wp2_with (first|(with_reducible first|refine lld J ?_|(refine lal J ?_;clear J;intro p w1 J)|(refine zc J ?_;clear J;intro w1 J))|(go_at_call 136;refine cg J (ja _) ?_;clear J;intro w1 J;dsimp only));refine rt1 ?_;exact⟨rfl,J.below⟩
theorem zg8 (k:Int) (g h:Gu) (hn:(g.span.none || h.span.none)=true) (w:World):Calls prog 206 #[.int .i64 k,g.v,h.v] w fun e j=>e=.returned qn.v∧Below w.heap.size w j:=by
 have J:=Loc.start w;go_enter func206,ntmps206;go_upto_region 3 with(first|(with_reducible first|((first|refine lbx J ?_|refine lal J ?_);clear J;intro p w1 J)|(refine zc J ?_;clear J;intro w1 J))|(go_at_call 136;refine cg J (ja _) ?_;clear J;intro w1 J;dsimp only))
 refine zx [17,18,19,20,21,22,23,24,16] ?_
 iterate 9 refine qda ?_
 refine dns J ?_;clear J;intro C J;simp only[zr,sTa,sTb];simp only[hn];go_wp2_with (with_reducible first|refine lld J ?_|(refine zc J ?_;clear J;intro w1 J));refine rt1 ?_;exact⟨rfl,J.below⟩
theorem zfO (k:Int) (hk:k=5∨k=6∨k=7) (g h:Gu) (p:Yh g.span) (C:Yh h.span) (hn:(g.span.none || h.span.none)=false) (w:World):Calls prog 206 #[.int .i64 k,g.v,h.v] w fun e j=>e=.returned (Gu.v ⟨false,made k g.span h.span,false,false,zi⟩)∧Below w.heap.size w j:=by
 have I:=za (fun j=>zfG k hk g.span h.span p C j);have T:(k==8)=false:=beq_eq_false_iff_ne.2 (by omega);clear hk p C;have J:=Loc.start w;go_enter func206,ntmps206;go_upto_region 3 with(first|(with_reducible first|((first|refine lbx J ?_|refine lal J ?_);clear J;intro R w1 J)|(refine zc J ?_;clear J;intro w1 J))|(go_at_call 136;refine cg J (ja _) ?_;clear J;intro w1 J;dsimp only))
 refine zx [17,18,19,20,21,22,23,24,16] ?_
 iterate 9 refine qda ?_
 refine dns J ?_;clear J;intro U J;simp only[zr,sTa,sTb];simp only[hn];go_wp2_with (first|(with_reducible first|refine lld J ?_|(refine zc J ?_;clear J;intro w1 J))|(go_at_call 234;refine cg J (I.out _) ?_;clear J;intro w1 J;dsimp only));refine rt1 ?_;exact⟨rfl,J.below⟩
theorem zfP (g h:Gu) (hn:(g.span.none || h.span.none)=false) (w:World):Calls prog 206 #[.int .i64 8,g.v,h.v] w fun e aB=>e=.returned (Gu.v ⟨false,zA,decide (g.span.lo<h.span.hi),decide (h.span.lo<=g.span.hi),zi⟩)∧Below w.heap.size w aB:=by
 obtain⟨ao,⟨a9,U,T⟩,gt,ag,⟨ah,gc,af⟩⟩:=g;obtain⟨ad,⟨aA,ab,aa⟩,an,ak,⟨al,ai,aj⟩⟩:=h;obtain⟨rfl,rfl⟩:a9=false∧aA=false:=by simpa using hn
 clear hn;have J:=Loc.start w;go_enter func206,ntmps206;go_step;go_step;go_step
 ((with_reducible refine lbx J ?_);clear J;intro p w1 J)
 ((with_reducible refine lbx J ?_);clear J;intro C w1 J)
 ((with_reducible refine lal J ?_);clear J;intro ae w1 J)
 go_upto_region 1 with(fail)
 go_upto_region 3 with(first|((with_reducible refine lal J ?_);clear J;intro ac w1 J)|(with_reducible refine zc J ?_;clear J;intro w1 J)|(go_at_call 136;refine cg J (ja _) ?_;clear J;intro w1 J;dsimp only))
 go_upto_region 5 with(with_reducible refine lld J ?_)
 have a8:=J.conv (L':=(fun l=>[(ac,108,[.bool false,.bool true,.int .i64 0,.int .i64 0,bif lst l 15 then .bool (decide (U<aa)) else .bool false,bif lst l 17 then .bool (decide (ab<=T)) else .bool false,.slice none 0 0]),(ae,108,[.bool false,.bool false,.int .i64 0,.int .i64 0,.bool false,.bool false,.slice none 0 0]),(C,108,[.bool ad,.bool false,.int .i64 ab,.int .i64 aa,.bool an,.bool ak,.slice al ai aj]),(p,108,[.bool ao,.bool false,.int .i64 U,.int .i64 T,.bool gt,.bool ag,.slice ah gc af])]) (Array.replicate 18 false)) (by simp only[KG,cond_false]);refine YZ (w0:=_) [28,29,30,31,32,33,34,35,36,37,38,39,40,41,42,43] [(0,28,.pointer (some ⟨p,1,none⟩)),(1,29,.pointer (some ⟨p,2,none⟩)),(2,30,.int .i64 U),(3,31,.pointer (some ⟨C,1,none⟩)),(4,32,.pointer (some ⟨C,3,none⟩)),(5,33,.int .i64 aa),(6,34,.bool (decide (U<aa))),(7,35,.pointer (some ⟨p,1,none⟩)),(8,36,.pointer (some ⟨p,3,none⟩)),(9,37,.int .i64 T),(10,38,.pointer (some ⟨C,1,none⟩)),(11,39,.pointer (some ⟨C,2,none⟩)),(12,40,.int .i64 ab),(13,41,.bool (decide (ab<=T))),(14,42,.pointer (some ⟨ac,4,none⟩)),(16,43,.pointer (some ⟨ac,5,none⟩))] (fun l=>[(ac,108,[.bool false,.bool true,.int .i64 0,.int .i64 0,bif lst l 15 then .bool (decide (U<aa)) else .bool false,bif lst l 17 then .bool (decide (ab<=T)) else .bool false,.slice none 0 0]),(ae,108,[.bool false,.bool false,.int .i64 0,.int .i64 0,.bool false,.bool false,.slice none 0 0]),(C,108,[.bool ad,.bool false,.int .i64 ab,.int .i64 aa,.bool an,.bool ak,.slice al ai aj]),(p,108,[.bool ao,.bool false,.int .i64 U,.int .i64 T,.bool gt,.bool ag,.slice ah gc af])]) (by kernel_rfl) (by kernel_rfl) a8 ⟨?_,?_,?_,?_,?_,?_,?_,?_,?_,?_,?_,?_,?_,?_,?_,?_,?_,?_,trivial⟩ ?_
 all_goals clear J a8
 ·intro l g w I j V
  have J:=j.loc
  try dsimp only at J
  refine zX (d:=28) (x:=.pointer (some ⟨p,1,none⟩)) (by kernel_rfl) cMm j (by simp only[ze (show (15:Nat)≠0 by decide),ze (show (17:Nat)≠0 by decide)]) ?_;clear V;simp only[fD];go_wp2;exact cY
 ·intro l g w I j V
  have J:=j.loc
  try dsimp only at J
  have d0:=j.vals (0,28,.pointer (some ⟨p,1,none⟩)) cMm (V 0 (by decide))
  try dsimp only at d0
  refine zX (d:=29) (x:=.pointer (some ⟨p,2,none⟩)) (by kernel_rfl) cMm j (by simp only[ze (show (15:Nat)≠1 by decide),ze (show (17:Nat)≠1 by decide)]) ?_;clear V;simp only[fD];simp only[d0];go_wp2;exact cY
 ·intro l g w I j V
  have J:=j.loc
  try dsimp only at J
  have d1:=j.vals (1,29,.pointer (some ⟨p,2,none⟩)) cMm (V 1 (by decide))
  try dsimp only at d1
  refine zX (d:=30) (x:=.int .i64 U) (by kernel_rfl) cMm j (by simp only[ze (show (15:Nat)≠2 by decide),ze (show (17:Nat)≠2 by decide)]) ?_;clear V;simp only[fD];simp only[d1];go_wp2_with (with_reducible first|refine lld J ?_|refine ldD J ?_);exact cY
 ·intro l g w I j V
  have J:=j.loc
  try dsimp only at J
  refine zX (d:=31) (x:=.pointer (some ⟨C,1,none⟩)) (by kernel_rfl) cMm j (by simp only[ze (show (15:Nat)≠3 by decide),ze (show (17:Nat)≠3 by decide)]) ?_;clear V;simp only[fD];go_wp2;exact cY
 ·intro l g w I j V
  have J:=j.loc
  try dsimp only at J
  have d3:=j.vals (3,31,.pointer (some ⟨C,1,none⟩)) cMm (V 3 (by decide))
  try dsimp only at d3
  refine zX (d:=32) (x:=.pointer (some ⟨C,3,none⟩)) (by kernel_rfl) cMm j (by simp only[ze (show (15:Nat)≠4 by decide),ze (show (17:Nat)≠4 by decide)]) ?_;clear V;simp only[fD];simp only[d3];go_wp2;exact cY
 ·intro l g w I j V
  have J:=j.loc
  try dsimp only at J
  have d4:=j.vals (4,32,.pointer (some ⟨C,3,none⟩)) cMm (V 4 (by decide))
  try dsimp only at d4
  refine zX (d:=33) (x:=.int .i64 aa) (by kernel_rfl) cMm j (by simp only[ze (show (15:Nat)≠5 by decide),ze (show (17:Nat)≠5 by decide)]) ?_;clear V;simp only[fD];simp only[d4];go_wp2_with (with_reducible first|refine lld J ?_|refine ldD J ?_);exact cY
 ·intro l g w I j V
  have J:=j.loc
  try dsimp only at J
  have d2:=j.vals (2,30,.int .i64 U) cMm (V 2 (by decide))
  try dsimp only at d2
  have d5:=j.vals (5,33,.int .i64 aa) cMm (V 5 (by decide))
  try dsimp only at d5
  refine zX (d:=34) (x:=.bool (decide (U<aa))) (by kernel_rfl) cMm j (by simp only[ze (show (15:Nat)≠6 by decide),ze (show (17:Nat)≠6 by decide)]) ?_;clear V;simp only[fD];simp only[d2,d5];go_wp2;exact cY
 ·intro l g w I j V
  have J:=j.loc
  try dsimp only at J
  refine zX (d:=35) (x:=.pointer (some ⟨p,1,none⟩)) (by kernel_rfl) cMm j (by simp only[ze (show (15:Nat)≠7 by decide),ze (show (17:Nat)≠7 by decide)]) ?_;clear V;simp only[fD];go_wp2;exact cY
 ·intro l g w I j V
  have J:=j.loc
  try dsimp only at J
  have d7:=j.vals (7,35,.pointer (some ⟨p,1,none⟩)) cMm (V 7 (by decide))
  try dsimp only at d7
  refine zX (d:=36) (x:=.pointer (some ⟨p,3,none⟩)) (by kernel_rfl) cMm j (by simp only[ze (show (15:Nat)≠8 by decide),ze (show (17:Nat)≠8 by decide)]) ?_;clear V;simp only[fD];simp only[d7];go_wp2;exact cY
 ·intro l g w I j V
  have J:=j.loc
  try dsimp only at J
  have d8:=j.vals (8,36,.pointer (some ⟨p,3,none⟩)) cMm (V 8 (by decide))
  try dsimp only at d8
  refine zX (d:=37) (x:=.int .i64 T) (by kernel_rfl) cMm j (by simp only[ze (show (15:Nat)≠9 by decide),ze (show (17:Nat)≠9 by decide)]) ?_;clear V;simp only[fD];simp only[d8];go_wp2_with (with_reducible first|refine lld J ?_|refine ldD J ?_);exact cY
 ·intro l g w I j V
  have J:=j.loc
  try dsimp only at J
  refine zX (d:=38) (x:=.pointer (some ⟨C,1,none⟩)) (by kernel_rfl) cMm j (by simp only[ze (show (15:Nat)≠10 by decide),ze (show (17:Nat)≠10 by decide)]) ?_;clear V;simp only[fD];go_wp2;exact cY
 ·intro l g w I j V
  have J:=j.loc
  try dsimp only at J
  have d10:=j.vals (10,38,.pointer (some ⟨C,1,none⟩)) cMm (V 10 (by decide))
  try dsimp only at d10
  refine zX (d:=39) (x:=.pointer (some ⟨C,2,none⟩)) (by kernel_rfl) cMm j (by simp only[ze (show (15:Nat)≠11 by decide),ze (show (17:Nat)≠11 by decide)]) ?_;clear V;simp only[fD];simp only[d10];go_wp2;exact cY
 ·intro l g w I j V
  have J:=j.loc
  try dsimp only at J
  have d11:=j.vals (11,39,.pointer (some ⟨C,2,none⟩)) cMm (V 11 (by decide))
  try dsimp only at d11
  refine zX (d:=40) (x:=.int .i64 ab) (by kernel_rfl) cMm j (by simp only[ze (show (15:Nat)≠12 by decide),ze (show (17:Nat)≠12 by decide)]) ?_;clear V;simp only[fD];simp only[d11];go_wp2_with (with_reducible first|refine lld J ?_|refine ldD J ?_);exact cY
 ·intro l g w I j V
  have J:=j.loc
  try dsimp only at J
  have d9:=j.vals (9,37,.int .i64 T) cMm (V 9 (by decide))
  try dsimp only at d9
  have d12:=j.vals (12,40,.int .i64 ab) cMm (V 12 (by decide))
  try dsimp only at d12
  refine zX (d:=41) (x:=.bool (decide (ab<=T))) (by kernel_rfl) cMm j (by simp only[ze (show (15:Nat)≠13 by decide),ze (show (17:Nat)≠13 by decide)]) ?_;clear V;simp only[fD];simp only[d9,d12];go_wp2;exact cY
 ·intro l g w I j V
  have J:=j.loc
  try dsimp only at J
  refine zX (d:=42) (x:=.pointer (some ⟨ac,4,none⟩)) (by kernel_rfl) cMm j (by simp only[ze (show (15:Nat)≠14 by decide),ze (show (17:Nat)≠14 by decide)]) ?_;clear V;simp only[fD];go_wp2;exact cY
 ·intro l g w I j V
  have J:=j.loc
  try dsimp only at J
  have d14:=j.vals (14,42,.pointer (some ⟨ac,4,none⟩)) cMm (V 14 (by decide))
  try dsimp only at d14
  have d6:=j.vals (6,34,.bool (decide (U<aa))) cMm (V 6 (by decide))
  try dsimp only at d6
  refine Z9 (i:=15) (L:=[(ac,108,[.bool false,.bool true,.int .i64 0,.int .i64 0,.bool (decide (U<aa)),bif lst l 17 then .bool (decide (ab<=T)) else .bool false,.slice none 0 0]),(ae,108,[.bool false,.bool false,.int .i64 0,.int .i64 0,.bool false,.bool false,.slice none 0 0]),(C,108,[.bool ad,.bool false,.int .i64 ab,.int .i64 aa,.bool an,.bool ak,.slice al ai aj]),(p,108,[.bool ao,.bool false,.int .i64 U,.int .i64 T,.bool gt,.bool ag,.slice ah gc af])]) j (by kernel_rfl) (by simp only[q1 I,ze (show (17:Nat)≠15 by decide),cond_true]) ?_;clear V;simp only[fD];simp only[d14,d6]
  ((with_reducible refine zc J ?_);clear J;intro w1 J)
  exact⟨rfl,rfl,J⟩
 ·intro l g w I j V
  have J:=j.loc
  try dsimp only at J
  refine zX (d:=43) (x:=.pointer (some ⟨ac,5,none⟩)) (by kernel_rfl) cMm j (by simp only[ze (show (15:Nat)≠16 by decide),ze (show (17:Nat)≠16 by decide)]) ?_;clear V;simp only[fD];go_wp2;exact cY
 ·intro l g w I j V
  have J:=j.loc
  try dsimp only at J
  have d16:=j.vals (16,43,.pointer (some ⟨ac,5,none⟩)) cMm (V 16 (by decide))
  try dsimp only at d16
  have d13:=j.vals (13,41,.bool (decide (ab<=T))) cMm (V 13 (by decide))
  try dsimp only at d13
  refine Z9 (i:=17) (L:=[(ac,108,[.bool false,.bool true,.int .i64 0,.int .i64 0,bif lst l 15 then .bool (decide (U<aa)) else .bool false,.bool (decide (ab<=T)),.slice none 0 0]),(ae,108,[.bool false,.bool false,.int .i64 0,.int .i64 0,.bool false,.bool false,.slice none 0 0]),(C,108,[.bool ad,.bool false,.int .i64 ab,.int .i64 aa,.bool an,.bool ak,.slice al ai aj]),(p,108,[.bool ao,.bool false,.int .i64 U,.int .i64 T,.bool gt,.bool ag,.slice ah gc af])]) j (by kernel_rfl) (by simp only[q1 I,ze (show (15:Nat)≠17 by decide),cond_true]) ?_;clear V;simp only[fD];simp only[d16,d13]
  ((with_reducible refine zc J ?_);clear J;intro w1 J)
  exact⟨rfl,rfl,J⟩
 intro g aC l ad J R;simp only[ad 15 (by decide),ad 17 (by decide),cond_true]at J;have aq:=R (0,28,.pointer (some ⟨p,1,none⟩)) cMm (show (0:Nat)<18 by decide);have ar:=R (1,29,.pointer (some ⟨p,2,none⟩)) cMm (show (1:Nat)<18 by decide);have a0:=R (2,30,.int .i64 U) cMm (show (2:Nat)<18 by decide);have a1:=R (3,31,.pointer (some ⟨C,1,none⟩)) cMm (show (3:Nat)<18 by decide);have a2:=R (4,32,.pointer (some ⟨C,3,none⟩)) cMm (show (4:Nat)<18 by decide);have a3:=R (5,33,.int .i64 aa) cMm (show (5:Nat)<18 by decide);have a4:=R (6,34,.bool (decide (U<aa))) cMm (show (6:Nat)<18 by decide);have a5:=R (7,35,.pointer (some ⟨p,1,none⟩)) cMm (show (7:Nat)<18 by decide);have a6:=R (8,36,.pointer (some ⟨p,3,none⟩)) cMm (show (8:Nat)<18 by decide);have a7:=R (9,37,.int .i64 T) cMm (show (9:Nat)<18 by decide);have au:=R (10,38,.pointer (some ⟨C,1,none⟩)) cMm (show (10:Nat)<18 by decide);have av:=R (11,39,.pointer (some ⟨C,2,none⟩)) cMm (show (11:Nat)<18 by decide);have aw:=R (12,40,.int .i64 ab) cMm (show (12:Nat)<18 by decide);have ax:=R (13,41,.bool (decide (ab<=T))) cMm (show (13:Nat)<18 by decide);have ay:=R (14,42,.pointer (some ⟨ac,4,none⟩)) cMm (show (14:Nat)<18 by decide);have az:=R (16,43,.pointer (some ⟨ac,5,none⟩)) cMm (show (16:Nat)<18 by decide)
 try dsimp only at aq ar a0 a1 a2 a3 a4 a5 a6 a7 au av aw ax ay az
 clear R ad;simp only[fD];simp only[aq,ar,a0,a1,a2,a3,a4,a5,a6,a7,au,av,aw,ax,ay,az];clear aq ar a0 a1 a2 a3 a4 a5 a6 a7 au av aw ax ay az;go_wp2_with (with_reducible first|refine lld J ?_|(refine zc J ?_;clear J;intro w1 J));refine rt1 ?_;exact⟨rfl,J.below⟩
def Ui (b:Bool):Int:=bif b then 1 else 0
def KH (a b c d:Bool):Int:=Ui a+Ui b+Ui c+Ui d
def KI (g:Gu):Bool:=((g.s.n:Int)*2+KH g.null g.tr g.fa (!g.span.none))==1&&g.span.lo==g.span.hi
def Zh (f:Nat->Bool):Nat->Int
 | 0=>0
 | k+1=>Zh f k+Ui (f k)
def q0 (a b c d:Bool) (k:Nat):Bool:=if k=0 then a else if k=1 then b else if k=2 then c else d
theorem GS (f:Nat->Bool):∀ k:Nat,0<=Zh f k∧Zh f k<=k
 | 0=>⟨Int.le_refl _,Int.le_refl _⟩
 | k+1=>by
  have:=GS f k;rw[Zh];cases f k<;>simp only[Ui,cond_true,cond_false]<;>omega
theorem zfQ (a b c d:Bool):Zh (q0 a b c d) 4=KH a b c d:=by
 simp[Zh,q0,KH]
theorem za7 (g:Gu) (hn:g.s.n<=1000000) (w:World):Calls prog 233 #[g.v] w fun e ay=>e=.returned (.bool (KI g))∧Below w.heap.size w ay:=by
 obtain⟨p,⟨C,ac,ab⟩,I,j,⟨sp,T,aj⟩⟩:=g;dsimp only at hn;have ad:=za (show KI ⟨p,⟨C,ac,ab⟩,I,j,⟨sp,T,aj⟩⟩=(((T:Int)*2+Zh (q0 p I j (!C)) 4)==1&&ac==ab) by rw[zfQ];rfl);have J:=Loc.start w;go_enter func233,ntmps233;go_step;go_step;go_step
 ((with_reducible refine lbx J ?_);clear J;intro an w1 J)
 go_wp2_with (with_reducible first|refine lld J ?_|(refine lbs J ?_;clear J;intro ao w1 J));obtain⟨af,au⟩:∃ x,x=ao:=⟨_,rfl⟩;subst au;have ak:=za (fun (k:Nat) (h:k<4)=>show ([.bool p,.bool I,.bool j,.bool (!C)]:List Value)[k]? = some (.bool (q0 p I j (!C) k)) by
  rcases k with _|_|_|_|k<;>first|rfl|omega)
 go_loopw [3,22] (fun ar aq wr=>∃ k:Nat,k<=4∧ar=.int .i64 ((T:Int)*2+Zh (q0 p I j (!C)) k)∧aq=.int .i64 k∧Loc w wr [(af,4,[.bool p,.bool I,.bool j,.bool (!C)]),(an,108,[.bool p,.bool C,.int .i64 ac,.int .i64 ab,.bool I,.bool j,.slice sp T aj])] []) (fun _ c _=>4 - (intOf c).toNat)
 case atStart=>exact⟨0,Nat.zero_le _,by simp[Zh],rfl,J⟩
 case round=>
  obtain⟨k,a0,rfl,rfl,J⟩:=hrel;rcases (show k=4∨k<4 by omega) with rfl|av
  ·generalize Zh (q0 p I j (!C)) 4=c at ad ⊢
   by_cases aa:(T:Int)*2+c=1
   ·have ae:=za aa
    simp only[aa];clear aa;by_cases ag:ac=ab
    ·subst ag
     go_wp2_with (with_reducible refine lld J ?_);refine rt1 ?_;exact⟨by rw[ad.out,ae.out];simp,J.below⟩
    ·have ax:(ac==ab)=false:=beq_eq_false_iff_ne.2 ag
     have al:=za ax;clear ag;go_wp2_with (with_reducible refine lld J ?_);refine rt1 ?_;exact⟨by rw[ad.out,al.out];simp,J.below⟩
   ·have aw:((T:Int)*2+c==1)=false:=beq_eq_false_iff_ne.2 aa
    have ae:=za aw;clear aa;go_wp2;refine rt1 ?_;exact⟨by rw[ad.out,ae.out];simp,J.below⟩
  ·have ah:=ak.out k av
   have ai:=za (GS (q0 p I j (!C)) k);have R:Zh (q0 p I j (!C)) (k+1)=Zh (q0 p I j (!C)) k+Ui (q0 p I j (!C) k):=rfl;generalize Zh (q0 p I j (!C)) k=c at ai R ⊢;generalize q0 p I j (!C) k=x at ah R;have az:=ai.out;cases x with
   | true=>
    have U:=za (R.trans (show c+Ui true=c+1 from rfl));clear R;go_wp2_with (refine ya (b:=af) J rfl rfl cIn (zn.cell J0 ah) ?_);go_roundw
    case rel=>exact⟨k+1,by omega,by first|(rw[U.out];done)|(rw[U.out];go_num),by go_num,J⟩
    case measure=>simp[intOf];omega
   | false=>
    have U:=za (R.trans (show c+Ui false=c from Int.add_zero c));clear R;go_wp2_with (refine ya (b:=af) J rfl rfl cIn (zn.cell J0 ah) ?_);go_roundw
    case rel=>exact⟨k+1,by omega,by first|(rw[U.out];done)|(rw[U.out];go_num),by go_num,J⟩
    case measure=>simp[intOf];omega
def y1 (f:Nat->Bool):Nat->Int
 | 0=>-1
 | k+1=>bif f k then (k:Int) else y1 f k
def jX (g:Gu):Int:=bif (KH g.null (!g.span.none) g.tr g.fa != 1) || decide (0<g.s.n) || (g.span.lo != g.span.hi) then -1 else y1 (q0 g.null (!g.span.none) g.tr g.fa) 4
theorem UI (g:Gu) (w:World):Calls prog 122 #[g.v] w fun e av=>e=.returned (.int .i64 (jX g))∧Below w.heap.size w av:=by
 obtain⟨p,⟨C,ae,ad⟩,I,j,⟨sp,ac,ai⟩⟩:=g;have U:=za (show jX ⟨p,⟨C,ae,ad⟩,I,j,⟨sp,ac,ai⟩⟩=bif (Zh (q0 p (!C) I j) 4 != 1) || decide (0<ac) || (ae != ad) then -1 else y1 (q0 p (!C) I j) 4 by rw[zfQ];rfl);have J:=Loc.start w;go_enter func122,ntmps122;go_step;go_step;go_step
 ((with_reducible refine lbx J ?_);clear J;intro ak w1 J)
 go_wp2_with (with_reducible first|refine lld J ?_|(refine lbs J ?_;clear J;intro al w1 J));obtain⟨af,ar⟩:∃ x,x=al:=⟨_,rfl⟩;subst ar;have aj:=za (fun (k:Nat) (h:k<4)=>show ([.bool p,.bool (!C),.bool I,.bool j]:List Value)[k]? = some (.bool (q0 p (!C) I j k)) by
  rcases k with _|_|_|_|k<;>first|rfl|omega)
 go_loopw [3,4,6] (fun an ao aq wr=>∃ k:Nat,k<=4∧an=.int .i64 (Zh (q0 p (!C) I j) k)∧ao=.int .i64 (y1 (q0 p (!C) I j) k)∧aq=.int .i64 k∧Loc w wr [(af,4,[.bool p,.bool (!C),.bool I,.bool j]),(ak,108,[.bool p,.bool C,.int .i64 ae,.int .i64 ad,.bool I,.bool j,.slice sp ac ai])] []) (fun _ _ c _=>4 - (intOf c).toNat)
 case atStart=>exact⟨0,Nat.zero_le _,rfl,rfl,rfl,J⟩
 case round=>
  obtain⟨k,ax,rfl,rfl,rfl,J⟩:=hrel;rcases (show k=4∨k<4 by omega) with rfl|au
  ·generalize Zh (q0 p (!C) I j) 4=c at U ⊢
   generalize y1 (q0 p (!C) I j) 4=z at U ⊢;go_upto_region 9 with(fail)
   refine zx [29,30,31,32,33,34,35,36,37,38,39,40,41,42,43,44,45] ?_
   iterate 17 refine qda ?_
   refine dns J ?_;clear J;intro ay J;simp only[zr,sTa,sTb];generalize ((c != 1) || decide (0<ac) || (ae != ad))=d at U ⊢;cases d with
   | true=>
    go_wp2;refine rt1 ?_;exact⟨by rw[U.out];rfl,J.below⟩
   | false=>
    go_wp2;refine rt1 ?_;exact⟨by rw[U.out];rfl,J.below⟩
  ·have ag:=aj.out k au
   have ah:=za (GS (q0 p (!C) I j) k);have R:Zh (q0 p (!C) I j) (k+1)=Zh (q0 p (!C) I j) k+Ui (q0 p (!C) I j k):=rfl;have T:y1 (q0 p (!C) I j) (k+1)=bif q0 p (!C) I j k then (k:Int) else y1 (q0 p (!C) I j) k:=rfl
   generalize Zh (q0 p (!C) I j) k=c at ah R ⊢;generalize y1 (q0 p (!C) I j) k=z at T ⊢;generalize q0 p (!C) I j k=x at ag R T;have aw:=ah.out;cases x with
   | true=>
    have aa:=za (R.trans (show c+Ui true=c+1 from rfl));have ab:=za T;clear R T;go_wp2_with (refine ya (b:=af) J rfl rfl cIn (zn.cell J0 ag) ?_);go_roundw
    case rel=>exact⟨k+1,by omega,by first|(rw[aa.out];done)|(rw[aa.out];go_num),by first|(rw[ab.out];done)|(rw[ab.out];go_num),by go_num,J⟩
    case measure=>simp[intOf];omega
   | false=>
    have aa:=za (R.trans (show c+Ui false=c from Int.add_zero c));have ab:=za T;clear R T;go_wp2_with (refine ya (b:=af) J rfl rfl cIn (zn.cell J0 ag) ?_);go_roundw
    case rel=>exact⟨k+1,by omega,by first|(rw[aa.out];done)|(rw[aa.out];go_num),by first|(rw[ab.out];done)|(rw[ab.out];rfl),by go_num,J⟩
    case measure=>simp[intOf];omega
def QO (B:Nat) (w:World) (s:Sl) (l:List Int):Prop:=∃ j:List zg,zB 3 1 s.p s.n s.cap (l.map (Value.int .i64)) j∧Own B w j
theorem QO.ints {B:Nat}{w:World}{s:Sl}{l:List Int}(h:QO B w s l):zk w s l:=by
 obtain⟨C,p,j⟩:=h;exact p.ints j
theorem QO.nil {B:Nat}{w:World}:QO B w zi []:=⟨[],zB.nil,Own.nil⟩
theorem QO.grow {B:Nat}{w w' : World}{s:Sl}{l:List Int}(h:QO B w s l) (hb:Below w.heap.size w w'):QO B w' s l:=by
 obtain⟨j,C,p⟩:=h;exact⟨j,C,p.grow hb⟩
theorem QO.mono {B j : Nat}{w:World}{s:Sl}{l:List Int}(h:QO B w s l) (C:j<=B):QO j w s l:=by
 obtain⟨p,R,I⟩:=h;exact⟨p,R,I.mono C⟩
def zfR (B:Nat) (w:World) (I:Sl) (C:List Int) (s:Sl) (l:List Int):Prop:=∃ j:List zg,(s=I∧l=C∧j=[]∨zB 3 1 s.p s.n s.cap (l.map (Value.int .i64)) j)∧Own B w j
theorem zfR.self {B:Nat}{w:World}{s:Sl}{l:List Int}:zfR B w s l s l:=⟨[],.inl ⟨rfl,rfl,rfl⟩,Own.nil⟩
theorem QO.kept {B:Nat}{w:World}{R:Sl}{I:List Int}{s:Sl}{l:List Int}(h:QO B w s l):zfR B w R I s l:=by
 obtain⟨j,C,p⟩:=h;exact⟨j,.inr C,p⟩
section
variable {P : Program} {ops : Array Oper} {Q : Exit -> Act -> World -> Prop} {a : Act} {w0 w : World} {rest : List Oper} {L : List zg} {D : List zl}
 {d:Option Tmp} {ty:TypeId} {pos:String} {after:Array Edge} {g:Option (Nat × Bool)}
theorem ldB {T:TypeId}{x:Operand}{b off:Nat}{v:Value}(j:zd P T w0 b off v) (J:Loc w0 w L D) (h:wpList P ops Q rest (a.put d v) w)
  (C:a.eval x=.pointer (some ⟨b,off,none⟩):=by with_unfolding_all rfl)
  (p:Region.wanted ⟨d,.load T x,ty,pos,after,g⟩ (yielded ops a.tmps)=true:=by with_unfolding_all exact yy):wpList P ops Q (⟨d,.load T x,ty,pos,after,g⟩::rest) a w:=zL j J p C h
theorem ldO {T:TypeId}{x:Operand}{b off:Nat}{p:TypeId}{j:List Value}{f:List Value->List zg}{v:Value}(hv:zn P T j off v) (J:Loc w0 w L D) (h:wpList P ops Q rest (a.put d v) w)
  (R:a.eval x=.pointer (some ⟨b,off,none⟩):=by with_unfolding_all rfl)
  (C:InL b p j L f:=by with_unfolding_all exact zeR)
  (I:Region.wanted ⟨d,.load T x,ty,pos,after,g⟩ (yielded ops a.tmps)=true:=by with_unfolding_all exact yy):wpList P ops Q (⟨d,.load T x,ty,pos,after,g⟩::rest) a w:=ya J I R C hv h
end
end Go.Proofs.YtplcndmdkabmeaaGreatDoor
