/- The walk over the reference's PictureIn. Conditions: right pictures. | The walks over the reference's FitsOf and SamePictures. Conditions: right pictures, one for each place. | A drawn region by an invariant over what is done of it: each operation is shown once, whatever else is done. Over any program. Conditions: none. | Plain: what is joined of right pictures is right, and shows what one of them shows. Conditions: none. -/
import Derived.Deep.CutBlock
import Derived.Test.YtplcndmdkabmeaaGreatDoorPicc
import Derived.Test.YtplcndmdkabmeaaGreatDoorSolG
import Derived.Test.YtplcndmdkabmeaaGreatDoorRefSolB
import Derived.Test.YtplcndmdkabmeaaGreatDoorPicd
import Derived.Test.YtplcndmdkabmeaaGreatDoorRefSolC
import Derived.Test.YtplcndmdkabmeaaGreatDoorLib
import Derived.Test.YtplcndmdkabmeaaGreatDoorPicb
import Derived.Test.YtplcndmdkabmeaaGreatDoorRunG
import Derived.Test.YtplcndmdkabmeaaGreatDoorPica
import Derived.Test.YtplcndmdkabmeaaGreatDoorRrn
import Derived.Test.YtplcndmdkabmeaaGreatDoorStepOk
set_option linter.unusedSimpArgs false
set_option linter.unusedVariables false
set_option maxRecDepth 100000
namespace Go.Proofs.YtplcndmdkabmeaaGreatDoor
open Go.Proofs.Tryz
open Go.RowKit
set_option maxHeartbeats 1600000
theorem Gy (a b:Sl) (l:List Pd) (w:World) (ha:yq w a l) (hb:yq w b l):
  Calls prog 31 #[.slice a.p a.n a.cap,.slice b.p b.n b.cap] w fun q C=>q=.returned (.bool true)∧Below w.heap.size w C:=by
 obtain⟨ak,aw,an,ai,aa⟩:=ha;obtain⟨al,-,ao,aj,ab⟩:=hb;obtain⟨az,a4,ac,R⟩:=ai.ex;obtain⟨a0,a5,ad,T⟩:=aj.ex;obtain⟨ap,ay,ax⟩:=a;obtain⟨a3,a2,a1⟩:=b;dsimp only at ak al aw ac ad R T aa ab;subst ak al;have au:=za (fun k (U:k<l.length) C (hb:Below w.heap.size w C)=>za5 (an k) (ao k) (l.getD k zC) C ((aa k U).grow hb) ((ab k U).grow hb));have ag:=za ac;have ah:=za ad;have ae:=za R;have af:=za T;clear ai aj aa ab ac ad R T;have J:=Loc.start w;go_enter func31,ntmps31;go_wp2_with (with_reducible first|refine lld J ?_|((first|refine lbx J ?_|refine lal J ?_|refine lbs J ?_);clear J;intro I g J)|(refine zc J ?_;clear J;intro g J));go_loopw [5] (fun c wr=>∃ k:Nat,k<=l.length∧c=.int .i64 k∧Loc w wr [] []) (fun c _=>l.length - (intOf c).toNat)
 case atStart=>exact⟨0,Nat.zero_le _,rfl,J⟩
 case round=>
  obtain⟨k,U,rfl,J⟩:=hrel;by_cases i:k<l.length
  ·obtain rfl:=ag.out (by omega)
   obtain rfl:=ah.out (by omega);clear ag ah;have o:=zd.agg (P:=prog) Zj (ae.out k i).1 (ae.out k i).2 rfl;have t:=zd.agg (P:=prog) Zj (af.out k i).1 (af.out k i).2 rfl;have j:=au.out k i;generalize an k=x at o j;generalize ao k=y at t j;obtain⟨aB,⟨aC,aD,a7⟩,⟨aA,a9,a8⟩⟩:=x;obtain⟨aJ,⟨aK,aL,aE⟩,⟨aI,aH,aF⟩⟩:=y;dsimp only[Pv.v,Pv.cells]at o t j;have aq:=za o;have ar:=za t;have av:=za j;clear o t j;go_upto_region 6 with(with_reducible first|refine lld J ?_|((first|refine lbx J ?_|refine lal J ?_|refine lbs J ?_);clear J;intro I g J)|(refine zc J ?_;clear J;intro g J))
   refine zb [17,18,19,20,21,22,23,24,25,26] ?_
   iterate 3 refine qdv ?_
   refine qdl aq.out ?_
   iterate 3 refine qdv ?_
   refine qdl ar.out ?_;refine qdk J (fun _ hb J=>av.out _ J.below) ?_;refine qdv ?_;refine dnd J ?_;clear J;intro a6 J;simp only[zr,sTa,sTb];go_wp2_with (with_reducible first|refine lld J ?_|((first|refine lbx J ?_|refine lal J ?_|refine lbs J ?_);clear J;intro I g J)|(refine zc J ?_;clear J;intro g J));go_roundw
   case rel=>exact⟨k+1,by omega,by go_num,J⟩
   case measure=>simp[intOf];omega
  ·obtain rfl:k=l.length:=by omega
   clear i;go_wp2_with (with_reducible first|refine lld J ?_|((first|refine lbx J ?_|refine lal J ?_|refine lbs J ?_);clear J;intro I g J)|(refine zc J ?_;clear J;intro g J))
   (try simp only[Exit.inBlock,Exit.then]);refine rt1 ?_
   exact⟨rfl,J.below⟩
def K6 (l:Nat->Bool) (i:Nat):Nat->Bool:=fun k=>if k=i then true else l k
def zhZ (g:Nat->Value):Option Nat->Value->Nat->Value
 | none,_=>g
 | some d,v=>upd g d v
def Vv (K:Nat->Oper->Prop):Nat->List Oper->Prop
 | _,[]=>True
 | n,o::os=>K n o∧Vv K (n+1) os
theorem Vv.at' {K:Nat->Oper->Prop}:∀ {j:List Oper}{n g:Nat}{i:Oper},Vv K n j->j[g]? = some i->K (n+g) i
 | [],_,_,_,_,h=>by simp at h
 | _::_,n,0,_,h,e=>by
  simp only[List.getElem?_cons_zero,Option.some.injEq]at e;subst e;exact h.1
 | _::_,n,g+1,_,h,e=>by
  have:=Vv.at' h.2 (by simpa using e);rwa [Nat.add_right_comm,Nat.add_assoc]at this
def zh0 (ops:Array Oper) (ds:List Nat):Bool:=Region.orderB ops&&ops.toList.all fun g=>match g.dst with|some d=>ds.contains d|none=>true
section
variable {P : Program} {ops : Array Oper} {Q : Exit -> Act -> World -> Prop} {t : List Value} {df : List Deferred} {ds : List Nat} {I : (Nat -> Bool) -> (Nat -> Value) -> World -> Prop}
def zhp (P:Program) (ops:Array Oper) (t:List Value) (df:List Deferred) (ds:List Nat) (I:(Nat->Bool)->(Nat->Value)->World->Prop) (i:Nat) (o:Oper):Prop:=
 ∀ l g w,l i=false->(∀ p∈zD o,l p=true)->I l g w->wpList P ops (fun e j C=>e=.normal∧∃ v,j=(⟨(zv t ds g).toArray,df⟩:Act).put o.dst v∧I (K6 l i) (zhZ g o.dst v) C) [o] ⟨(zv t ds g).toArray,df⟩ w
theorem zfb (af:zh0 ops ds=true) (a4:Vv (zhp P ops t df ds I) 0 ops.toList)
  (au:∀ l g w,(∀ i,i<ops.size->l i=true)->I l g w->Q .normal ⟨(zv t ds g).toArray,df⟩ w):
  ∀ (c:Nat) (listed:Array Bool) (g:Nat->Value) (w:World),listed.size=ops.size->((List.range ops.size).filter fun i=>!listed.getD i true).length=c->I (fun i=>listed.getD i false) g w->
   wpAny P .any ops Q c listed ⟨(zv t ds g).toArray,df⟩ w:=by
 simp only[zh0,Bool.and_eq_true]at af;obtain⟨a1,aq⟩:=af;intro c;induction c with
 | zero=>
  intro listed g w ab aa ae;have U:∀ i,i<ops.size->listed.getD i false=true:=by
   intro i hi;have ak:=List.length_eq_zero_iff.1 aa;have ad:i ∉ ((List.range ops.size).filter fun i=>!listed.getD i true):=by rw[ak];simp
   have T:listed.getD i true=true:=by
    cases av:listed.getD i true with
    | true=>rfl
    | false=>exact(ad (List.mem_filter.2 ⟨List.mem_range.2 hi,by simp[av]⟩)).elim
   have ax:i<listed.size:=by rw[ab];exact hi
   simp[ax]at T ⊢;exact T
  refine⟨?_,au _ g w U ae⟩;cases a3:Region.ready .any ops listed with
  | nil=>rfl
  | cons i r=>
   exfalso;obtain⟨ac,o,C,-⟩:=mem_ready.1 (show i∈Region.ready .any ops listed by rw[a3];exact List.mem_cons_self);have hi:=(Array.getElem?_eq_some_iff.1 C).1;have:=U i hi;rw[getD_both ac]at this;cases this
 | succ c ih=>
  intro listed g w ab aa ae;obtain⟨a6,aw,a5⟩:∃ i,i<ops.size∧listed.getD i true=false:=by
   cases ah:(List.range ops.size).filter fun i=>!listed.getD i true with
   | nil=>rw[ah]at aa;cases aa
   | cons i l=>
    have:i∈(List.range ops.size).filter fun i=>!listed.getD i true:=by rw[ah];exact List.mem_cons_self
    obtain⟨ad,T⟩:=List.mem_filter.1 this;exact⟨i,List.mem_range.1 ad,by simpa using T⟩
  refine⟨fun h=>absurd h (J6 a1 (Nat.le_refl _) ab a6 aw a5),fun i hi=>?_⟩;obtain⟨ac,o,C,U⟩:=mem_ready.1 hi;have ay:i<ops.size:=(Array.getElem?_eq_some_iff.1 C).1;have ao:∀ j∈zD o,listed.getD j false=true:=fun j az=>by
   obtain⟨e,ar,an,rfl⟩:=QZ az;exact U e ar an
  have ai:=Vv.at' a4 (show ops.toList[i]? = some o by simpa using C);rw[Nat.zero_add]at ai;refine yV C (fun _ _ _ h=>by cases h.1) (fun _ _ h=>by cases h.1) (fun a7 a9 h=>?_) (ai _ g w (getD_both ac) ao ae);obtain⟨_,v,rfl,al⟩:=h;have a2:(⟨(zv t ds g).toArray,df⟩:Act).put o.dst v=⟨(zv t ds (zhZ g o.dst v)).toArray,df⟩:=by
   have ag:=List.all_eq_true.1 aq o (List.mem_of_getElem? (show ops.toList[i]? = some o by simpa using C));cases a0:o.dst with
   | none=>rfl
   | some d=>
    rw[a0]at ag;simp only[Act.put,zhZ,List.setIfInBounds_toArray];rw[JN (by simpa using ag)]
  rw[a2];refine ih _ _ _ (by simpa using ab) ?_ ?_
  ·have a8:=QY (p:=fun k=>!listed.getD k true) (p':=fun k=>!(listed.setIfInBounds i true).getD k true) (i:=i) (List.range ops.size) List.nodup_range (List.mem_range.2 ay) (by simp[ac])
    (by
     have:i<listed.size:=by omega
     simp[this])
    (fun k R=>by rw[getD_set_ne true (Ne.symm R)])
   omega
  ·have:(fun k=>(listed.setIfInBounds i true).getD k false)=K6 (fun k=>listed.getD k false) i:=by
    funext k;by_cases R:k=i
    ·subst R
     have:k<listed.size:=by omega
     simp[K6,this]
    ·rw[getD_set_ne false (Ne.symm R)]
     simp[K6,R]
   rw[this];exact al
theorem zgH {id:Nat}{L:List Oper}{j:World}(I:(Nat->Bool)->(Nat->Value)->World->Prop) (ds:List Nat) (T:P.follows .mixedOrders=true) (p:zh0 L.toArray ds=true)
  (o:I (fun _=>false) (fun d=>t.getD d undef) j.drew) (U:Vv (zhp P L.toArray t df ds I) 0 L)
  (C:∀ l i w,(∀ g,g<L.length->l g=true)->I l i w->Q .normal ⟨(zv t ds i).toArray,df⟩ w):(Code.region id L.toArray true).wp P Q ⟨t.toArray,df⟩ j:=by
 refine wp_region_any T ?_;have h:=zfb (ops:=L.toArray) (Q:=Q) p U (fun l i w h=>C l i w (by simpa using h)) L.toArray.size (Array.replicate L.toArray.size false) (fun d=>t.getD d undef) j.drew (by simp)
  (by
   have:((List.range L.toArray.size).filter fun g=>!(Array.replicate L.toArray.size false).getD g true)=List.range L.toArray.size:=by
    rw[List.filter_eq_self];intro g R;have:g<L.toArray.size:=List.mem_range.1 R;simp at this;simp[this]
   rw[this];simp)
  (by
   have:(fun g=>(Array.replicate L.toArray.size false).getD g false)=(fun _=>false):=by
    funext g;exact getD_replicate_false _ _
   rw[this];exact o)
 rw[yb]at h;exact h
end
set_option maxHeartbeats 1600000
def Yp (s:Rs) (v:Vl):Int:=if v.kind=3 then (s.thing v.n.toNat).1 else -1
def Kp (g:Nat->Th) (v:Vl):Int:=if v.kind=3 then (g v.n.toNat).site else -1
abbrev Kq (d:Res) (v:Vl) (site:Int):Bool:=held (d.gu zi) d.l v site
theorem zfc (d:Res) (s:Sl) (v:Vl) (g:Int):held (d.gu s) d.l v g=Kq d v g:=rfl
def zc6 (d:Pd) (s:Rs):Bool:=qa (fun k=>!Kq (d.var k) (s.val k) (Yp s (s.val k))) s.vars.length
def zaD (d:Pd) (s:Rs) (k:Nat):Bool:=qa (fun g=>!Kq (d.field (s.thing k).1.toNat g) (s.field k g) (Yp s (s.field k g))) (s.thing k).2.length
def zc7 (d:Pd) (s:Rs):Bool:=qa (zaD d s) s.things.length
def YO (d:Pd) (s:Rs):Bool:=!d.none&&(!zc6 d s && !zc7 d s)
structure zb1 (d:Pd) (s:Rs):Prop where
 nv:d.vars.length=s.vars.length
 site:∀ k,k<s.things.length->∃ j:Nat,(s.thing k).1=j∧j<d.fields.length∧(d.row j).length=(s.thing k).2.length
 vals:∀ k,k<s.vars.length->zM (s.val k) s.things.length=true
 fvals:∀ k,k<s.things.length->∀ j,j<(s.thing k).2.length->zM (s.field k j) s.things.length=true
theorem Yq {v:Vl}{n:Nat}(h:zM v n=true) (hk:v.kind=3):∃ m:Nat,v.n=m∧m<n:=by
 unfold zM at h;rw[hk]at h;simp[zU]at h;exact⟨v.n.toNat,by omega,by omega⟩
theorem zfd {s:Rs}{g:Nat->Th}(h:∀ k,k<s.things.length->(g k).site=(s.thing k).1) {v:Vl}(hv:zM v s.things.length=true):Kp g v=Yp s v:=by
 unfold Kp Yp;split
 ·rename_i i
  obtain⟨m,o,j⟩:=Yq hv i;exact h _ (by omega)
 ·rfl
theorem zgI:∀ args w,(callFunc 138 args).run prog w=.ok (.enter 138 args) w:=fun args w=>by kernel_rfl
theorem zgJ:∀ args w,(callFunc 141 args).run prog w=.ok (.enter 141 args) w:=fun args w=>by kernel_rfl
theorem tGV:jy prog 182:=⟨by kernel_rfl,by kernel_rfl⟩
theorem zGV:yx prog 182 [.nilFunc]:=⟨by kernel_rfl⟩
theorem iGV:Y9 prog 182 1:=⟨by kernel_rfl⟩
theorem zb2 (t:Sl) (i:Nat->Th) (g:Gu) (l:List Int) (v:Vl) (b:Nat) (w:World) (hn:t.n<=9223372036854775807) (ai:zd prog 43 w b 2 t.v) (ad:zZ w 2 t.p t.n (fun k=>[.int .i64 (i k).site,.slice (i k).fs.p (i k).fs.n (i k).fs.cap]))
  (ab:zM v t.n=true) (af:zk w g.s l):
  Calls prog 138 #[g.v,v.v,.pointer (some ⟨b,0,none⟩)] w fun e I=>e=.returned (.bool (held g l v (Kp i v)))∧Below w.heap.size w I:=by
 have o:=za (fun I (aw:Below w.heap.size w I)=>zdZ g l v (Kp i v) I (af.grow aw));have R:=za ai;clear af ai;generalize ax:held g l v (Kp i v)=a0 at o ⊢;clear ax;by_cases j:v.kind=3
 ·obtain⟨m,aa,U⟩:=Yq ab j
  obtain⟨az,a1,ag,T⟩:=ad.ex;have ac:=zd.cell (P:=prog) y2 (T m U).1 ((T m U).2 0 _ rfl);have C:Kp i v=(i m).site:=by unfold Kp;rw[if_pos j,aa];rfl
  rw[C]at o;clear C ab ad T;generalize (i m).site=a2 at ac o;have ah:=ag (by omega);clear ag;obtain⟨aj,ay⟩:=v;obtain⟨a5,a4,a3⟩:=t;obtain⟨aq,⟨au,ar,ao⟩,gt,an,⟨av,gk,gc⟩⟩:=g;dsimp only at j aa U hn ah;subst j aa ah;have ak:=za ac;clear ac;dsimp only[Sl.v]at R;have J:=Loc.start w;go_enter func138,ntmps138;go_wp2_with (first|(with_reducible first|refine ldB R.out J ?_|refine ldB ak.out J ?_|refine lld J ?_|(refine lbx J ?_;clear J;intro al ae J))|(go_at_call 139;refine cg J (o.out _ J.below) ?_;clear J;intro ae J;dsimp only));refine rt1 ?_;exact⟨rfl,J.below⟩
 ·have C:Kp i v=-1:=by unfold Kp;rw[if_neg j]
  rw[C]at o;obtain⟨aj,ay⟩:=v;obtain⟨aq,⟨au,ar,ao⟩,gt,an,⟨av,gk,gc⟩⟩:=g;dsimp only at j;have k0:(aj==3)=false:=beq_eq_false_iff_ne.2 j;clear j C ab ad R;have J:=Loc.start w;go_enter func138,ntmps138;go_wp2_with (first|(with_reducible first|refine lld J ?_|(refine lbx J ?_;clear J;intro al ae J))|(go_at_call 139;refine cg J (o.out _ J.below) ?_;clear J;intro ae J;dsimp only));refine rt1 ?_;exact⟨rfl,J.below⟩
theorem zaE {a:Nat}(q:Nat->Bool):qT a a q=!qa (fun k=>!q k) a:=by simp[qT]
theorem UB (i:Sl) (g:Nat->Th) (s:Rs) (ae:∀ k,k<s.things.length->(g k).site=(s.thing k).1) (ac:i.n=s.things.length) (x y:Sl) (ds:List Res) (vs:Nat->Vl) (b:Nat) (w:World) (hn:i.n<=9223372036854775807) (ad:zd prog 43 w b 2 i.v)
  (aa:zZ w 2 i.p i.n (fun k=>[.int .i64 (g k).site,.slice (g k).fs.p (g k).fs.n (g k).fs.cap])) (o:qR w x ds) (ah:zZ w 2 y.p y.n (fun k=>(vs k).cells)) (ai:y.n=ds.length) (af:∀ k,k<ds.length->zM (vs k) s.things.length=true):
  Calls prog 140 #[x.v,y.v,.func (.func 138) #[] #[.pointer (some ⟨b,0,none⟩)]] w fun e t=>e=.returned (.bool (!qa (fun k=>!Kq (ds.getD k zo) (vs k) (Yp s (vs k))) ds.length))∧Below w.heap.size w t:=by
 obtain⟨P,U,T⟩:=o.ex;have ab:=o.m;have ag:=o.n;have h:=zhf x y (fun k=>(ds.getD k zo).gu (P k)) vs (fun k=>Kq (ds.getD k zo) (vs k) (Yp s (vs k))) 138 (.pointer (some ⟨b,0,none⟩)) w ab (by omega) U ah zgI (fun k R aj t j=>by
  have C:=af k (by omega);have I:=zb2 i g ((ds.getD k zo).gu (P k)) (ds.getD k zo).l (vs k) b t hn (ad.grow j) (aa.grow j) (by rw[ac];exact C) ((T k R).grow j);rw[zfd ae C,zfc]at I;exact I)
 rw[ag,ai,zaE]at h;exact h
theorem zb3 (C:Sl) (o:Nat->Th) (s:Rs) (au:∀ k,k<s.things.length->(o k).site=(s.thing k).1) (al:C.n=s.things.length) (ab:Sl) (g:List (List Res)) (t:Th) (vs:Nat->Vl) (af aa ag:Nat) (w:World) (hn:C.n<=9223372036854775807)
  (P:zd prog 52 w af 2 ab.v) (aq:zd prog 43 w aa 2 C.v) (ar:zd prog 182 w ag 0 (.func (.func 138) #[] #[.pointer (some ⟨aa,0,none⟩)]))
  (ak:zZ w 2 C.p C.n (fun k=>[.int .i64 (o k).site,.slice (o k).fs.p (o k).fs.n (o k).fs.cap])) (T:j3 w ab g) (ax:zZ w 2 t.fs.p t.fs.n (fun k=>(vs k).cells)) (j:Nat) (ai:j<g.length) (av:t.site=j) (ae:t.fs.n=(g.getD j []).length) (aw:∀ k,k<t.fs.n->zM (vs k) s.things.length=true):
  Calls prog 141 #[t.v,.pointer (some ⟨af,0,none⟩),.pointer (some ⟨ag,0,none⟩)] w fun e U=>e=.returned (.bool (qa (fun k=>!Kq ((g.getD j []).getD k zo) (vs k) (Yp s (vs k))) t.fs.n))∧Below w.heap.size w U:=by
 obtain⟨ay,aj,ah⟩:=T.ex;have ad:=T.n;have a3:=T.m;have i:=fun U (I:Below w.heap.size w U)=>UB C o s au al (ay j) t.fs (g.getD j []) vs aa U hn (aq.grow I) (ak.grow I) ((ah j (by omega)).grow I) (ax.grow I) ae (fun k a9=>aw k (by omega))
 rw[<- ae]at i;generalize qa (fun k=>!Kq ((g.getD j []).getD k zo) (vs k) (Yp s (vs k))) t.fs.n=res at i ⊢;obtain⟨a4,of,an,ac⟩:=aj.ex;have ao:=an (by omega);have R:=KQ (ac j (by omega)).1 (ac j (by omega)).2;clear an ac aj ah T ax ak aq au aw al ae;generalize ay j=row at i R;generalize g.length=n at ai ad;obtain⟨a7,fn,a6⟩:=ab;obtain⟨aD,⟨aH,aF,aE⟩⟩:=t;obtain⟨aC,aB,aA⟩:=row;dsimp only at av ad a3 ao P;subst av ao;have a8 : j<fn:=by omega
 clear ai ad;dsimp only[Sl.v]at i R P;have az:=za i;have a0:=za P;have a1:=za ar;have a2:=za R;clear i P ar R;have J:=Loc.start w;go_enter func141,ntmps141;go_upto_region 1 with(with_reducible refine lbx J ?_;clear J;intro a5 aI J)
 refine zb [5,6,7,8,9,10,11,12,13,14,15,4] ?_;refine qdv ?_;refine qdl a0.out ?_
 iterate 3 refine qdv ?_
 refine qdl a2.out ?_
 iterate 2 refine qdv ?_
 refine qdl a1.out ?_;refine qdk J (fun _ I J=>az.out _ J.below) ?_
 iterate 2 refine qdv ?_
 refine dnd J ?_;clear J;intro aJ J;simp only[zr,sTa,sTb];go_wp2;refine rt1 ?_;exact⟨by simp,J.below⟩
theorem zdV (x:Pv) (d:Pd) (r:Rn) (s:Rs) (w:World) (ag:zq w x d) (af:jD w r s) (ok:d.none=false->zb1 d s):
  Calls prog 97 #[x.v,r.v] w fun e w'=>e=.returned (.bool (YO d s))∧Below w.heap.size w w':=by
 have aa:=ag.e;cases P:d.none with
 | true=>
  have ae:YO d s=false:=by simp[YO,P]
  rw[ae];rw[P]at aa;clear ag af ok ae P;obtain⟨aO,⟨aP,aQ,aN⟩,⟨a1,a0,az⟩⟩:=x;obtain⟨aF,⟨aL,aK,aJ⟩,⟨an,al,ak⟩,aI,⟨aD,aC,aB⟩,aH⟩:=r;dsimp only at aa;subst aa;have J:=Loc.start w;go_enter func97,ntmps97;go_wp2_with (with_reducible first|refine lld J ?_|(refine lbx J ?_;clear J;intro aR w1 J));refine rt1 ?_;exact⟨rfl,J.below⟩
 | false=>
  have ok:=ok P;rw[P]at aa;have ae:YO d s=(!zc6 d s && !zc7 d s):=by simp[YO,P]
  rw[ae];obtain⟨ai,o,U⟩:=af.ex;have ax:=af.nv;have ad:=af.nt;have aq:=fun k R=>(U k R).1
  have ac:=fun (b:Nat) w' (I:Below w.heap.size w w') (aA:zd prog 43 w' b 2 r.things.v)=>UB r.things ai s aq ad x.vars r.vars d.vars s.val b w' o.n2 aA (o.things.grow I) (ag.vars.grow I) (o.vars.grow I) (by rw[ax];exact ok.nv.symm) (fun k R=>ok.vals k (by rw[<- ok.nv];exact R))
  have aw:(qa (fun k=>!Kq (d.vars.getD k zo) (s.val k) (Yp s (s.val k))) d.vars.length)=zc6 d s:=by rw[ok.nv];rfl
  rw[aw]at ac;have ab:=fun (t g C:Nat) w' (I:Below w.heap.size w w') (a7:zd prog 52 w' t 2 x.fields.v) (a8:zd prog 43 w' g 2 r.things.v) (a9:zd prog 182 w' C 0 (.func (.func 138) #[] #[.pointer (some ⟨g,0,none⟩)]))=>
   UZ r.things.p r.things.n r.things.cap (fun k=>(ai k).v) (zaD d s) 141 (.pointer (some ⟨t,0,none⟩)) (.pointer (some ⟨C,0,none⟩)) w' o.n2 ((o.l.grow I).things) ⟨zgJ,fun k R aM aj=>by
    have T : k<s.things.length:=by rw[<- ad];exact R
    obtain⟨j,au,a3,a4⟩:=ok.site k T;have ao:=I.trans (aj.mono I.size);have h:=zb3 r.things ai s aq ad x.fields d.fields (ai k) (s.field k) t g C aM o.n2 (a7.grow aj) (a8.grow aj) (a9.grow aj) (o.things.grow ao) (ag.fields.grow ao) ((o.fields k R).2.grow ao) j a3 (by rw[(U k T).1,au]) (by rw[(U k T).2];exact a4.symm) (fun i a6=>ok.fvals k T i (by rw[<- (U k T).2];exact a6));have a5:(qa (fun i=>!Kq ((d.fields.getD j []).getD i zo) (s.field k i) (Yp s (s.field k i))) (ai k).fs.n)=zaD d s k:=by
     unfold zaD;rw[(U k T).2,au];rfl
    rw[a5]at h;exact h⟩
  have av:qa (zaD d s) r.things.n=zc7 d s:=by rw[ad];rfl
  rw[av]at ab;clear o U aq ax ad ag af ok aw av ae;generalize zc6 d s=aE at ac ⊢;generalize zc7 d s=aS at ab ⊢;obtain⟨aO,⟨aP,aQ,aN⟩,⟨a1,a0,az⟩⟩:=x;obtain⟨aF,⟨aL,aK,aJ⟩,⟨an,al,ak⟩,aI,⟨aD,aC,aB⟩,aH⟩:=r;dsimp only at aa;subst aa;dsimp only[Sl.v]at ac ab;have ar:=za ac;have a2:=za ab;clear ac ab;cases aE with
  | true=>
   have J:=Loc.start w;go_enter func97,ntmps97;go_step;go_step;go_step
   ((with_reducible refine lbx J ?_);clear J;intro t w1 J)
   ((with_reducible refine lbx J ?_);clear J;intro g w1 J)
   go_wp2_with (first|(with_reducible refine lld J ?_)|(refine ZY J rfl zGV ?_;clear J;intro C w1 J)|(refine zR J rfl rfl InL.head rfl iGV rfl (Nat.le_refl _) rfl ?_;clear J;intro w1 J)|(refine ldO (zn.cell tGV rfl) J ?_)|(go_at_call 140;refine cg J (ar.out g _ J.below (J.readsG (b:=g) (Tv:=43) (off:=2) (v:=.slice an al ak) cIn (zn.cell QP rfl))) ?_;clear J;intro w1 J;dsimp only));refine rt1 ?_;exact⟨rfl,J.below⟩
  | false=>
   have J:=Loc.start w;go_enter func97,ntmps97;go_step;go_step;go_step
   ((with_reducible refine lbx J ?_);clear J;intro t w1 J)
   ((with_reducible refine lbx J ?_);clear J;intro g w1 J)
   go_wp2_with (first|(with_reducible refine lld J ?_)|(refine ZY J rfl zGV ?_;clear J;intro C w1 J)|(refine zR J rfl rfl InL.head rfl iGV rfl (Nat.le_refl _) rfl ?_;clear J;intro w1 J)|(refine ldO (zn.cell tGV rfl) J ?_)|(go_at_call 140;refine cg J (ar.out g _ J.below (J.readsG (b:=g) (Tv:=43) (off:=2) (v:=.slice an al ak) cIn (zn.cell QP rfl))) ?_;clear J;intro w1 J;dsimp only)|(go_at_call 125;refine cg J (a2.out t g C _ J.below (J.readsG (b:=t) (Tv:=52) (off:=2) (v:=.slice a1 a0 az) cIn (zn.cell zf1 rfl)) (J.readsG (b:=g) (Tv:=43) (off:=2) (v:=.slice an al ak) cIn (zn.cell QP rfl)) (J.readsG (b:=C) (Tv:=182) (off:=0) (v:=.func (.func 138) #[] #[.pointer (some ⟨g,0,none⟩)]) cIn (zn.cell tGV rfl))) ?_;clear J;intro w1 J;dsimp only));refine rt1 ?_;exact⟨by simp,J.below⟩
theorem zdW (p:Pg) (is:Nat->Ins) (x:Pv) (d:Pd) (r:Rn) (s:Rs) (t:Nat->Th) (w:World) (hn:p.n<=9223372036854775807) (hc:zy w p is) (o:zq w x d) (U:GF w r s.val t s.field) (aa:jD w r s) (R:cp1 p is d=0) (T:yB p is r s.val t s.field=0) (ok:d.none=false->zb1 d s):
  Calls prog 50 #[p.v,x.v,r.v] w fun q g=>q=.returned (.tuple #[.bool (YO d s),.int .i64 0])∧Below w.heap.size w g:=by
 have I:=za (fun (b:Nat) (g : World) (i:Below w.heap.size w g) (ad:g.heap[b]? = some (.cells x.cells.toArray 54 (0,0)))=>(show Calls prog 58 #[p.v,.slice (some ⟨b,0,none⟩) 1 1] g fun q ae=>q=.returned (.int .i64 (cp1 p is d))∧Below g.heap.size g ae from Qh p is (some ⟨b,0,none⟩) 1 1 (fun _=>x) (fun _=>d) g hn (hc.grow i) (zhu ad (o.grow i))));rw[R]at I;have j:=fun g (i:Below w.heap.size w g)=>XQ p is r s.val t s.field g hn (hc.grow i) (U.grow i)
 rw[T]at j;have ab:=za j;have P:=za (fun g (i:Below w.heap.size w g)=>zdV x d r s g (o.grow i) (aa.grow i) ok);generalize YO d s=q at P ⊢;clear R T hc o aa j U ok;obtain⟨ai,⟨au,ar,aq⟩,⟨ao,an,al⟩,ak,⟨ah,ag,af⟩,aj⟩:=r;obtain⟨az,⟨a0,a1,av⟩,⟨ay,ax,aw⟩⟩:=x;have J:=Loc.start w;go_enter func50,ntmps50;go_wp2_with (first|(with_reducible first|refine lld J ?_|((first|refine lbx J ?_|refine lbs J ?_);clear J;intro ac C J))|(go_at_call 58;refine cg J (I.out ac _ J.below (J.heap cIn)) ?_;clear J;intro C J;dsimp only)|(go_at_call 84;refine cg J (ab.out _ J.below) ?_;clear J;intro C J;dsimp only)|(go_at_call 97;refine cg J (P.out _ J.below) ?_;clear J;intro C J;dsimp only));refine rt2 ?_;exact⟨rfl,J.below⟩
end Go.Proofs.YtplcndmdkabmeaaGreatDoor
