/- The reference's StepPicture, whole; SameEdges at edges that say the same. Conditions: right pictures; what they read lies in memory that was there. | The walks over the reference's SameGuess, SameGuesses, SamePicture of any two: are they the same data? Conditions: what they read lies in memory that was there. -/
import Derived.Test.YtplcndmdkabmeaaGreatDoorRspa
import Derived.Test.YtplcndmdkabmeaaGreatDoorRspb
import Derived.Test.YtplcndmdkabmeaaGreatDoorRefStepJ
import Derived.Test.YtplcndmdkabmeaaGreatDoorRefStepK
import Derived.Test.YtplcndmdkabmeaaGreatDoorPicc
import Derived.Test.YtplcndmdkabmeaaGreatDoorStpa
set_option linter.unusedSimpArgs false
set_option linter.unusedVariables false
set_option maxRecDepth 100000
set_option maxHeartbeats 1000000
namespace Go.Proofs.YtplcndmdkabmeaaGreatDoor
open Go.Proofs.Tryz
open Go.RowKit
theorem zfr (p:Pg) (is:Nat->Ins) (x:Pv) (d:Pd) (gx:List Gu) (at' : Nat) (w:World) (j:zf p is=0) (hc:zy w p is) (t:zq w x d) (o:JQ w x d gx) (ok:q2 p is d) (i:at' < p.n):q7 p at' x d gx (zJ (is at') at' d) w:=by
 have I:=qG ((zp j).2 at' i);rcases zcV I.kd with g|g|g|g|g|g|g|g|g|g|g|g|g
 ·exact ziz p is _ x d gx at' w j hc t o ok i rfl g
 ·exact zhE p is _ x d gx at' w j hc t o ok i rfl g
 ·have P:=I.n2 g
  rcases (by omega:(is at').n=0∨(is at').n=1) with C|C
  ·exact zgQ p is _ x d gx at' w j hc t o ok i rfl g C
  ·exact zgR p is _ x d gx at' w j hc t o ok i rfl g C
 ·exact ziA p is _ x d gx at' w j hc t o ok i rfl g
 ·exact zh6 p is _ x d gx at' w j hc t o ok i rfl g
 ·exact zh7 p is _ x d gx at' w j hc t o ok i rfl g
 ·exact zh8 p is _ x d gx at' w j hc t o ok i rfl g
 ·exact zhv p is _ x d gx at' w j hc t o ok i rfl g
 ·exact zit p is _ x d gx at' w j hc t o ok i rfl g
 ·exact zhD p is _ x d gx at' w j hc t o ok i rfl g
 ·exact zhC p is _ x d gx at' w j hc t o ok i rfl g
 ·exact zhB p is _ x d gx at' w j hc t o ok i rfl g
 ·simp only[zU,Bool.and_eq_true,decide_eq_true_eq]at g
  rcases (by omega:(is at').kind=4∨(is at').kind=10∨(5<=(is at').kind∧(is at').kind<=9)) with h|h|h
  ·exact ziJ p is _ x d gx at' w j hc t o ok i rfl h
  ·exact zh9 p is _ x d gx at' w j hc t o ok i rfl h
  ·exact zgS p is _ x d gx at' w j hc t o ok i rfl h
theorem zgU (p:Pg) (is:Nat->Ins) (x:Pv) (d:Pd) (gx:List Gu) (at' : Nat) (w:World) (t:zf p is=0) (hc:zy w p is) (i:zq w x d) (o:JQ w x d gx) (h:zE p is d=0) (C:at' < p.n):q7 p at' x d gx (Qo is at' d) w:=by
 cases g:d.none with
 | false=>
  rw[show Qo is at' d=zJ (is at') at' d from if_neg (by rw[g];decide)];exact zfr p is x d gx at' w t hc i o (q2.of h g) C
 | true=>
  have j:=i.e;rw[g]at j;rw[show Qo is at' d=⟨[],false,false⟩ from if_pos g];unfold q7;clear i h hc t o g;obtain⟨ab,⟨ac,ad,R⟩,⟨aa,U,T⟩⟩:=x;dsimp only at j;subst j;have J:=Loc.start w;go_enter func40,ntmps40;go_wp2_with (with_reducible first|refine lld J ?_|((first|refine lbx J ?_|refine lal J ?_|refine lbs J ?_);clear J;intro P I J)|(refine zc J ?_;clear J;intro I J))
  (try simp only[Exit.inBlock,Exit.then]);refine rt3 ?_
  exact⟨zi,rfl,QK.nil J.below⟩
theorem zq.gx {w:World}{x:Pv}{d:Pd}(h:zq w x d):∃ gx,JQ w x d gx:=by
 obtain⟨gx,g,i⟩:=h.vars.gus;exact⟨gx,g,i⟩
theorem jS.reads {w:World}{s:Sl}{es:List (Int × Pd)}(h:jS w s es):∃ (b g:Nat) (t:Nat->Pv),(0<s.n->s.p=some ⟨b,g,none⟩)∧∀ k,k<s.n->zd prog 3 w b (g+k*4) (.int .i64 (es.getD k (0,Qc)).1)∧zd prog 54 w b (g+k*4+1) (t k).v∧zq w (t k) (es.getD k (0,Qc)).2:=by
 obtain⟨ah,ag,C,ab,ae⟩:=h;obtain⟨b,g,af,aa⟩:=ae.ex;refine⟨b,g,fun k=>(C.getD k Qu).x,af,fun k ad=>?_⟩;obtain⟨j,o⟩:=aa k ad;obtain⟨I,R⟩:=ab.at' k (by omega);refine⟨?_,?_,R⟩
 ·have T:=zd.cell (P:=prog) y2 j (o 0 _ rfl)
  rw[<- I];exact T
 ·refine zd.agg (P:=prog) Zj j (fun i v ac=>?_) rfl
  have U:=o (i+1) v (by simpa using ac);rw[show g+k*4+1+i=g+k*4+(i+1) by omega];exact U
set_option maxHeartbeats 4000000
def yI (r q:Res):Bool:=r.null==q.null&&(r.span.none==q.span.none&&r.span.lo==q.span.lo&&r.span.hi==q.span.hi)&&r.tr==q.tr&&r.fa==q.fa&&Zn r.l q.l
def jI (ds es:List Res):Bool:=qT ds.length es.length fun k=>yI (ds.getD k zo) (es.getD k zo)
def ZH (g i:List (List Res)):Bool:=qT g.length i.length fun k=>jI (g.getD k []) (i.getD k [])
def Ze (d e:Pd):Bool:=d.none==e.none&&jI d.vars e.vars&&ZH d.fields e.fields
theorem Ku {i:Type}{l m:List i}(d:i) (hn:l.length=m.length) (h:∀ k,k<l.length->l.getD k d=m.getD k d):l=m:=by
 apply List.ext_getElem hn;intro k g j;have:=h k g;rw[List.getD_eq_getElem?_getD,List.getD_eq_getElem?_getD,List.getElem?_eq_getElem g,List.getElem?_eq_getElem j]at this;simpa using this
theorem XX {a:Nat}(q:Nat->Bool):qT a a q=!qa (fun k=>!q k) a:=by simp[qT]
theorem VK {a b:Nat}{q:Nat->Bool}:qT a b q=true↔a=b∧∀ k,k<a->q k=true:=by
 unfold qT;rw[Bool.and_eq_true,beq_iff_eq,Bool.not_eq_true'];refine⟨fun ⟨i,g⟩=>⟨i,fun k j=>?_⟩,fun ⟨i,g⟩=>⟨i,qu fun k j=>by rw[g k j];rfl⟩⟩;cases o:q k with
 | true=>rfl
 | false=>rw[qg (q:=fun k=>!q k) j (by rw[o];rfl)]at g;cases g
theorem zec {l m:List Int}:Zn l m=true↔l=m:=by
 refine⟨fun h=>?_,fun h=>by rw[h];exact VY m⟩;unfold Zn at h;rw[Bool.and_eq_true,beq_iff_eq,Bool.not_eq_true']at h;refine Ku 0 h.1 fun k i=>?_
 cases g:(l.getD k 0 != m.getD k 0) with
 | false=>simpa using g
 | true=>rw[qg i g]at h;cases h.2
theorem UC {r q:Res}:yI r q=true↔r=q:=by
 obtain⟨aa,⟨I,P,R⟩,ab,T,U⟩:=r;obtain⟨t,⟨g,i,j⟩,C,o,p⟩:=q;simp only[yI,Bool.and_eq_true,beq_iff_eq,zec,Res.mk.injEq,zm.mk.injEq,and_assoc]
theorem ZI {ds es:List Res}:jI ds es=true↔ds=es:=by
 unfold jI;rw[VK];refine⟨fun ⟨g,i⟩=>Ku zo g fun k j=>UC.1 (i k j),fun h=>by subst h;exact⟨rfl,fun k _=>UC.2 rfl⟩⟩
theorem GJ {ds es:List (List Res)}:ZH ds es=true↔ds=es:=by
 unfold ZH;rw[VK];refine⟨fun ⟨g,i⟩=>Ku [] g fun k j=>ZI.1 (i k j),fun h=>by subst h;exact⟨rfl,fun k _=>ZI.2 rfl⟩⟩
theorem YV {d e:Pd}:Ze d e=true↔d=e:=by
 obtain⟨d1,d2,d3⟩:=d;obtain⟨g,i,j⟩:=e;simp only[Ze,Bool.and_eq_true,beq_iff_eq,ZI,GJ,Pd.mk.injEq,and_assoc]
theorem zaU (r q:Res) (s t:Sl) (w:World) (P:zk w s r.l) (ht:zk w t q.l):
  Calls prog 112 #[(r.gu s).v,(q.gu t).v] w fun e o=>e=.returned (.bool (yI r q))∧Below w.heap.size w o:=by
 have p:=za (fun o (i:Below w.heap.size w o)=>KF s t r.l q.l o (P.grow i) (ht.grow i));have HQ:=za (show yI r q=(r.null==q.null&&(r.span.none==q.span.none&&r.span.lo==q.span.lo&&r.span.hi==q.span.hi)&&r.tr==q.tr&&r.fa==q.fa&&Zn r.l q.l) from rfl);generalize Zn r.l q.l=ar at p HQ;generalize yI r q=res at HQ ⊢;clear P ht;obtain⟨al,⟨ab,ac,ad⟩,an,aj,ak⟩:=r;obtain⟨ah,⟨T,U,aa⟩,ai,af,ag⟩:=q;dsimp only[Res.gu]at p HQ ⊢;obtain⟨sp,ao,aq⟩:=s;obtain⟨aw,au,av⟩:=t;have J:=Loc.start w;go_enter func112,ntmps112;go_upto_region 1 with(with_reducible first|refine lld J ?_|((first|refine lbx J ?_|refine lal J ?_|refine lbs J ?_);clear J;intro R C J)|(refine zc J ?_;clear J;intro C J))
 refine zx [5,6,7,8,9,10,11,12,13,14,15,16,17,18,19,20,21,22,23,24,25,26,27,28,29,30,31,32,33,34,35,36,37,4] ?_
 iterate 10 refine qda ?_
 refine' Vj (j:=5) J rfl rfl rfl (by decide) (by simp) ?_ ?_;rotate_left
 ·intro I;simp only[Bool.and_eq_true,YG,YH]at I;intro g w i J _ q;simp only[aG,I,bX]at q;simp only[fD];simp only[q]
  refine Qa (a:=⟨ab,ac,ad⟩) (b:=⟨T,U,aa⟩) rfl rfl rfl ?_;go_wp2;exact cY
 iterate 20 refine qda ?_
 refine yu J (fun _ i J=>p.out _ J.below) ?_
 iterate 2 refine qdv ?_
 refine dns J ?_;clear J;intro ax J;simp only[zr,sTa,sTb];go_wp2_with (with_reducible first|refine lld J ?_|((first|refine lbx J ?_|refine lal J ?_|refine lbs J ?_);clear J;intro R C J)|(refine zc J ?_;clear J;intro C J))
 (try simp only[Exit.inBlock,Exit.then]);refine rt1 ?_
 exact⟨by rw[HQ.out];rfl,J.below⟩
theorem UD (a b:Sl) (ds es:List Res) (w:World) (ha:qR w a ds) (hb:qR w b es):
  Calls prog 65 #[a.v,b.v] w fun q ae=>q=.returned (.bool (jI ds es))∧Below w.heap.size w ae:=by
 obtain⟨a2,ag,R⟩:=ha.ex;obtain⟨a3,ah,T⟩:=hb.ex;have ax:=ha.n;have ay:=hb.n;have aB:=ha.m;have aC:=hb.m;obtain⟨aH,aZ,ac,U⟩:=ag.ex;obtain⟨aI,ba,ad,aa⟩:=ah.ex;obtain⟨ap,aF,aE⟩:=a;obtain⟨aL,aK,aJ⟩:=b;dsimp only at ax ay ac U ad aa R T aB aC;subst ax ay;have al:=za ac;have an:=za ad;have aj:=za U;have ak:=za aa;dsimp only[Sl.v];by_cases ab:(ds.length:Int)=es.length
 ·have ai : ds.length=es.length:=by omega
  have aA:((ds.length:Int) != (es.length:Int))=false:=by simp[ab]
  have I:=za (show jI ds es=!qa (fun k=>!yI (ds.getD k zo) (es.getD k zo)) ds.length by unfold jI;rw[<- ai,XX]);have a8:=za (fun k (av:k<ds.length) ae (hb:Below w.heap.size w ae)=>zaU (ds.getD k zo) (es.getD k zo) (a2 k) (a3 k) ae ((R k av).grow hb) ((T k (by omega)).grow hb));have a5:=za ai;clear ha hb ag ah R T ac ad U aa ab ai;have J:=Loc.start w;go_enter func65,ntmps65;go_wp2_with (with_reducible first|refine lld J ?_|((first|refine lbx J ?_|refine lal J ?_|refine lbs J ?_);clear J;intro p g J)|(refine zc J ?_;clear J;intro g J));go_loopw [5] (fun c wr=>∃ k:Nat,k<=ds.length∧c=.int .i64 k∧(∀ j,j<k->(!yI (ds.getD j zo) (es.getD j zo))=false)∧Loc w wr [] []) (fun c _=>ds.length - (intOf c).toNat)
  case atStart=>exact⟨0,Nat.zero_le _,rfl,fun j au=>absurd au (by omega),J⟩
  case round=>
   clear J;obtain⟨k,av,rfl,az,J⟩:=hrel;have ao:=za az;clear az;by_cases o:k<ds.length
   ·have aw:k<es.length:=by rw[<- a5.out];exact o
    obtain rfl:=al.out (by omega);obtain rfl:=an.out (by omega);clear al an;have hr1:=zd.agg (P:=prog) zO (aj.out k o).1 (aj.out k o).2 rfl;have C:=zd.agg (P:=prog) zO (ak.out k aw).1 (ak.out k aw).2 rfl;have i:=a8.out k o;have a0:∀ v,yI (ds.getD k zo) (es.getD k zo)=v->(!yI (ds.getD k zo) (es.getD k zo))=!v:=fun v h=>by rw[h]
    have aq:=za a0;clear a0;generalize a1:yI (ds.getD k zo) (es.getD k zo)=sm at i;have ar:=za a1;clear a1;generalize ds.getD k zo=d at hr1 i;generalize es.getD k zo=e at C i;generalize a2 k=s at hr1 i;generalize a3 k=t at C i;obtain⟨aP,⟨aQ,aO,aN⟩,aR,aM,dl⟩:=d;obtain⟨aV,⟨aW,aU,aT⟩,aY,aS,el⟩:=e;obtain⟨sp,bb,bc⟩:=s;obtain⟨bf,bd,be⟩:=t;dsimp only[Res.gu]at hr1 C i;have a6:=za hr1;have a7:=za C;have a9:=za i;clear hr1 C i;go_upto_region 6 with(with_reducible first|refine lld J ?_|((first|refine lbx J ?_|refine lal J ?_|refine lbs J ?_);clear J;intro p g J)|(refine zc J ?_;clear J;intro g J))
    refine zb [17,18,19,20,21,22,23,24,25,26] ?_
    iterate 3 refine qdv ?_
    refine qdl a6.out ?_
    iterate 3 refine qdv ?_
    refine qdl a7.out ?_;refine qdk J (fun _ hb J=>a9.out _ J.below) ?_;refine qdv ?_;refine dnd J ?_;clear J;intro bg J;simp only[zr,sTa,sTb];cases sm with
    | true=>
     have a4:=za (aq.out _ ar.out);go_wp2_with (with_reducible first|refine lld J ?_|((first|refine lbx J ?_|refine lal J ?_|refine lbs J ?_);clear J;intro p g J)|(refine zc J ?_;clear J;intro g J));go_roundw
     case rel=>
      refine⟨k+1,by omega,by go_num,fun j au=>?_,J⟩;rcases Nat.lt_or_ge j k with h|h
      ·exact ao.out j h
      ·obtain rfl:j=k:=by omega
       exact a4.out
     case measure=>simp[intOf];omega
    | false=>
     have af:=za (qg (q:=fun k=>!yI (ds.getD k zo) (es.getD k zo)) o (aq.out _ ar.out));go_wp2_with (with_reducible first|refine lld J ?_|((first|refine lbx J ?_|refine lal J ?_|refine lbs J ?_);clear J;intro p g J)|(refine zc J ?_;clear J;intro g J))
     (try simp only[Exit.inBlock,Exit.then]);refine rt1 ?_
     exact⟨by rw[I.out,af.out];rfl,J.below⟩
   ·obtain rfl:k=ds.length:=by omega
    have af:=za (qu ao.out);clear o;go_wp2_with (with_reducible first|refine lld J ?_|((first|refine lbx J ?_|refine lal J ?_|refine lbs J ?_);clear J;intro p g J)|(refine zc J ?_;clear J;intro g J))
    (try simp only[Exit.inBlock,Exit.then]);refine rt1 ?_
    exact⟨by rw[I.out,af.out];rfl,J.below⟩
 ·have aA:((ds.length:Int) != (es.length:Int))=true:=by simpa using ab
  have I:=za (show jI ds es=false from Jc (by omega));clear ab ha hb ag ah R T ac ad U aa;have J:=Loc.start w;go_enter func65,ntmps65;go_wp2_with (with_reducible first|refine lld J ?_|((first|refine lbx J ?_|refine lal J ?_|refine lbs J ?_);clear J;intro p g J)|(refine zc J ?_;clear J;intro g J))
  (try simp only[Exit.inBlock,Exit.then]);refine rt1 ?_
  exact⟨by rw[I.out];rfl,J.below⟩
theorem Kv (x y:Pv) (d e:Pd) (w:World) (R:zq w x d) (T:zq w y e):
  Calls prog 29 #[x.v,y.v] w fun q C=>q=.returned (.bool (Ze d e))∧Below w.heap.size w C:=by
 have af:=za (fun C (p:Below w.heap.size w C)=>UD x.vars y.vars d.vars e.vars C (R.vars.grow p) (T.vars.grow p));have i:=za (show Ze d e=(d.none==e.none&&jI d.vars e.vars&&ZH d.fields e.fields) from rfl);obtain⟨aD,au,av⟩:=R.fields.ex;obtain⟨aE,aw,ax⟩:=T.fields.ex;have an:=R.fields.n;have ao:=T.fields.n;have aR:=R.fields.m;have aS:=T.fields.m;rw[an]at au av;rw[ao]at aw ax;have aI:=za (fun k (a7:k<d.fields.length) (aQ:k<e.fields.length) C (p:Below w.heap.size w C)=>UD (aD k) (aE k) (d.fields.getD k []) (e.fields.getD k []) C ((av k a7).grow p) ((ax k aQ).grow p));obtain⟨bg,bk,aq,ak⟩:=(jR au).ex;obtain⟨bh,bl,ar,al⟩:=(jR aw).ex;have aB:=R.e;have aC:=T.e;obtain⟨bs,⟨aZ,ba,aV⟩,⟨aY,br,aW⟩⟩:=x;obtain⟨bu,⟨be,bf,bb⟩,⟨bd,bt,bc⟩⟩:=y;dsimp only[Sl.v]at an ao aq ak ar al aB aC aR aS af;subst aB aC an ao;have ay:=za aq;have az:=za ar;have aF:=za ak;have aH:=za al;clear R T au av aw ax aq ak ar al;generalize d.none=o at i;generalize e.none=U at i;generalize jI d.vars e.vars=ad at af i;generalize Ze d e=res at i ⊢;by_cases hg:(o==U&&ad&&d.fields.length==e.fields.length)=true
 ·obtain⟨⟨rfl,rfl⟩,ag⟩:(o=U∧ad=true)∧d.fields.length=e.fields.length:=by simpa using hg
  have ae:=za (show res=!qa (fun k=>!jI (d.fields.getD k []) (e.fields.getD k [])) d.fields.length by rw[i.out];unfold ZH;rw[<- ag,XX];simp);have aL:=za ag;have bj:((d.fields.length:Int) != (e.fields.length:Int))=false:=by simp[ag]
  have bi:(o != o)=false:=by simp
  clear hg ag i;have J:=Loc.start w;go_enter func29,ntmps29;go_step;go_step;go_step
  ((with_reducible refine lbx J ?_);clear J;intro a3 g J)
  ((with_reducible refine lbx J ?_);clear J;intro a4 g J)
  go_wp2_with (first|(with_reducible first|refine lld J ?_|((first|refine lbx J ?_|refine lal J ?_|refine lbs J ?_);clear J;intro I g J)|(refine zc J ?_;clear J;intro g J))|(go_at_call 65;refine cg J (af.out _ J.below) ?_;clear J;intro g J;dsimp only));go_loopw [5] (fun c wr=>∃ k:Nat,k<=d.fields.length∧c=.int .i64 k∧(∀ j,j<k->(!jI (d.fields.getD j []) (e.fields.getD j []))=false)∧Loc w wr [(a4,54,[_,.slice be bf bb,.slice bd e.fields.length bc]),(a3,54,[_,.slice aZ ba aV,.slice aY d.fields.length aW])] []) (fun c _=>d.fields.length - (intOf c).toNat)
  case atStart=>exact⟨0,Nat.zero_le _,rfl,fun j a6=>absurd a6 (by omega),J⟩
  case round=>
   clear J;obtain⟨k,a7,rfl,a9,J⟩:=hrel;have a0:=za a9;clear a9;by_cases aa:k<d.fields.length
   ·have a8:k<e.fields.length:=by rw[<- aL.out];exact aa
    obtain rfl:=ay.out (by omega);obtain rfl:=az.out (by omega);clear ay az;have ab:=aF.out k aa;have ac:=aH.out k a8;rw[Nat.mul_one]at ab ac;have P:=aI.out k aa a8;have a1:=za (fun v (h:jI (d.fields.getD k []) (e.fields.getD k [])=v)=>(show (!jI (d.fields.getD k []) (e.fields.getD k []))=!v by rw[h]));generalize aA:jI (d.fields.getD k []) (e.fields.getD k [])=sm at P;have a2:=za aA;clear aA;generalize aD k=s at ab P;generalize aE k=t at ac P;obtain⟨sp,bm,bn⟩:=s;obtain⟨bq,bo,bp⟩:=t;dsimp only[Sl.v]at ab ac P;have aM:=za ab;have aN:=za ac;have aO:=za P;clear ab ac P;go_upto_region 6 with(with_reducible first|refine lld J ?_|((first|refine lbx J ?_|refine lal J ?_|refine lbs J ?_);clear J;intro I g J)|(refine zc J ?_;clear J;intro g J))
    refine zb [35,36,37,38,39,40,41,42,43,44,45,46] ?_
    iterate 4 refine qdv ?_
    refine qdl aM.out ?_
    iterate 4 refine qdv ?_
    refine qdl aN.out ?_;refine qdk J (fun _ p J=>aO.out _ J.below) ?_;refine qdv ?_;refine dnd J ?_;clear J;intro aU J;simp only[zr,sTa,sTb];cases sm with
    | true=>
     have aJ:=za (a1.out _ a2.out);go_wp2_with (with_reducible first|refine lld J ?_|((first|refine lbx J ?_|refine lal J ?_|refine lbs J ?_);clear J;intro I g J)|(refine zc J ?_;clear J;intro g J));go_roundw
     case rel=>
      refine⟨k+1,by omega,by go_num,fun j a6=>?_,J⟩;rcases Nat.lt_or_ge j k with h|h
      ·exact a0.out j h
      ·obtain rfl:j=k:=by omega
       exact aJ.out
     case measure=>simp[intOf];omega
    | false=>
     have ah:=za (qg (q:=fun k=>!jI (d.fields.getD k []) (e.fields.getD k [])) aa (a1.out _ a2.out));go_wp2_with (with_reducible first|refine lld J ?_|((first|refine lbx J ?_|refine lal J ?_|refine lbs J ?_);clear J;intro I g J)|(refine zc J ?_;clear J;intro g J))
     (try simp only[Exit.inBlock,Exit.then]);refine rt1 ?_
     exact⟨by rw[ae.out,ah.out];rfl,J.below⟩
   ·obtain rfl:k=d.fields.length:=by omega
    have ah:=za (qu a0.out);clear aa;go_wp2_with (with_reducible first|refine lld J ?_|((first|refine lbx J ?_|refine lal J ?_|refine lbs J ?_);clear J;intro I g J)|(refine zc J ?_;clear J;intro g J))
    (try simp only[Exit.inBlock,Exit.then]);refine rt1 ?_
    exact⟨by rw[ae.out,ah.out];rfl,J.below⟩
 ·have ae:=za (show res=false by
   rw[i.out];cases ai:o==U with
   | false=>rfl
   | true=>
    cases aj:ad with
    | false=>rfl
    | true=>
     rw[ai,aj]at hg;have:¬ d.fields.length=e.fields.length:=by simpa using hg
     exact Jc this)
  have a5:(!(o==U) || !ad || ((d.fields.length:Int) != (e.fields.length:Int)))=true:=by
   cases ai:o==U with
   | false=>rfl
   | true=>
    cases aj:ad with
    | false=>rfl
    | true=>
     rw[ai,aj]at hg;have:¬ d.fields.length=e.fields.length:=by simpa using hg
     have aP:((d.fields.length:Int) != (e.fields.length:Int))=true:=by rw[bne_iff_ne];omega
     rw[aP];rfl
  have aK:=za a5;clear hg i a5;have J:=Loc.start w;go_enter func29,ntmps29;go_step;go_step;go_step
  ((with_reducible refine lbx J ?_);clear J;intro a3 g J)
  ((with_reducible refine lbx J ?_);clear J;intro a4 g J)
  go_upto_region 1 with(with_reducible first|refine lld J ?_|((first|refine lbx J ?_|refine lal J ?_|refine lbs J ?_);clear J;intro I g J)|(refine zc J ?_;clear J;intro g J))
  refine zx [6,7,8,9,10,11,12,13,14,15,16,17,18,19,20,21,22,23,24,25,26,27] ?_
  iterate 10 refine qda ?_
  refine yu J (fun _ p J=>af.out _ J.below) ?_
  iterate 11 refine qda ?_
  refine dns J ?_;clear J;intro aU J;simp only[zr,sTa,sTb];simp only[aK.out];go_wp2_with (with_reducible first|refine lld J ?_|((first|refine lbx J ?_|refine lal J ?_|refine lbs J ?_);clear J;intro I g J)|(refine zc J ?_;clear J;intro g J))
  (try simp only[Exit.inBlock,Exit.then]);refine rt1 ?_
  exact⟨by rw[ae.out];rfl,J.below⟩
end Go.Proofs.YtplcndmdkabmeaaGreatDoor
