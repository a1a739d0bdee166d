/- The walk over the solver's iterator: each edge of each instruction, as the pictures are when it is come to. Conditions: right pictures, one for each place. | The solver's data while it solves: its pictures in a call's own memory; one edge taken in. Conditions: as in each theorem. -/
import Derived.Test.YtplcndmdkabmeaaGreatDoorFoot
import Derived.Test.YtplcndmdkabmeaaGreatDoorStpc
import Derived.Test.YtplcndmdkabmeaaGreatDoorStepOk
import Derived.RangeFuncNested
import Derived.RangeFuncBound
import Derived.RangeFuncCalls
import Derived.RangeFuncLeaves
import Derived.RangeFuncBox
import Derived.Shelf.Abstract
import Derived.Shelf.RegionOpen
import Derived.WalkKit
import Derived.OwnWalkIn
import Derived.TacticsInMore
import Derived.LoopNIn
import Derived.LoopIn
set_option linter.unusedSimpArgs false
set_option linter.unusedVariables false
set_option maxRecDepth 100000
set_option maxHeartbeats 4000000
namespace Go.Proofs.YtplcndmdkabmeaaGreatDoor
open Go.Proofs.Tryz
open Go.RowKit
open Go.RowKit Go.Shelf
attribute [local go_sem] Oper.semAt_some
theorem zq.cells {w w' : World}{x:Pv}{d:Pd}(h:zq w x d) (j:∀ b,ym w b->w'.heap[b]? = w.heap[b]?):zq w' x d:=
 ⟨h.e,h.vars.on (X:=fun _=>True) (fun _ i=>absurd trivial i) (fun b _ g=>j b g),h.fields.on (X:=fun _=>True) (fun _ i=>absurd trivial i) (fun b _ g=>j b g),h.m⟩
def zcB (B:Nat) (w:World) (S:zl):Prop:=∃ X:Nat->Prop,(∀ b,X b->B<=b∧b<w.heap.size)∧On w X S
theorem zcB.at' {B:Nat}{w:World}{S:zl}(h:zcB B w S):S w:=by
 obtain⟨X,_,g⟩:=h;exact g w (fun _ _=>rfl)
theorem zcB.keep {B:Nat}{w w' : World}{S:zl}(h:zcB B w S) (hk:Q8 B w w'):zcB B w' S:=by
 obtain⟨X,i,o⟩:=h;exact⟨X,fun b g=>⟨(i b g).1,Nat.lt_of_lt_of_le (i b g).2 hk.size⟩,fun p j=>o p (fun b g=>(j b g).trans (hk.same b (i b g).1 (i b g).2))⟩
theorem Loc.newE {w w' : World}{S:zl}{L:List zg}{D:List zl}(h:Loc w w' L (S::D)) {B:Nat}(j:B<=w.heap.size):zcB B w' S:=by
 obtain⟨X,g,o⟩:=h.data S List.mem_cons_self;exact⟨X,fun b i=>⟨Nat.le_trans j (g b i).1.2,(g b i).1.1⟩,o⟩
structure Uj (p:Pg) (is:Nat->Ins) (bs:Nat) (s:Sl) (l:List Pd) (W:World):Prop where
 h:W.heap[bs]? = some (.cells #[.int .i64 p.vars,.int .i64 p.fields,.slice p.pc p.n p.cap,.slice s.p s.n s.cap] 144 (0,0))
 c:zy W p is
 n:s.n=p.n+1
 len:l.length=p.n+1
 x:∃ xs:Nat->Pv,zZ W 3 s.p s.n (fun k=>(xs k).cells)∧∀ k,k<s.n->zq W (xs k) (l.getD k zC)
 r:∀ k,k<=p.n->zE p is (l.getD k zC)=0
structure EdX where
 i:Nat
 e:EdV
 d:Int × Pd
abbrev EdX.encs (x:EdX):Array Value:=#[.int .i64 x.i,.agg #[.int .i64 x.e.go,.bool x.e.x.none,.slice x.e.x.vars.p x.e.x.vars.n x.e.x.vars.cap,.slice x.e.x.fields.p x.e.x.fields.n x.e.x.fields.cap]]
structure zcC (p:Pg) (is:Nat->Ins) (x:EdX) (W:World):Prop where
 i:x.i<p.n
 of:∃ d:Pd,zE p is d=0∧x.d∈(Qo is x.i d).es
 go:x.e.go=x.d.1
 x:zq W x.e.x x.d.2
theorem zcC.abides {p:Pg}{is:Nat->Ins}{x:EdX}{B:Nat}:K9 B (zcC p is x):=
 ⟨fun _ _ j h=>⟨h.i,h.of,h.go,h.x.grow j⟩,fun W r I o h=>⟨h.i,h.of,h.go,h.x.cells (fun b ⟨C,t,f,g⟩=>World.putObj_heap_other (fun e=>by subst e;rw[o]at g;cases g))⟩⟩
def zcD {σ:Type}(p:Pg) (is:Nat->Ins) (pics:σ->List Pd) (s:σ) (x:EdX) (W:World):Prop:=zcC p is x W∧((∀ a b,pics a=pics b)->x.d∈(Qo is x.i ((pics s).getD x.i zC)).es)
theorem zcD.abides {σ:Type}{p:Pg}{is:Nat->Ins}{pics:σ->List Pd}{s:σ}{x:EdX}{B:Nat}:K9 B (zcD p is pics s x):=
 ⟨fun W g i h=>⟨(zcC.abides (B:=B)).grow W g i h.1,h.2⟩,fun W r o j h=>⟨(zcC.abides (B:=B)).turn W r o j h.1,h.2⟩⟩
section
variable {σ : Type} (is : Nat -> Ins) (nx : Nat -> Int × Pd -> σ -> σ) (pics : σ -> List Pd)
def KL (i:Nat) (s:σ):List (Int × Pd):=(Qo is i ((pics s).getD i zC)).es
def Uk (i:Nat) (s:σ):σ:=(KL is pics i s).foldl (fun s d=>nx i d s) s
def z8 (k:Nat) (s:σ):σ:=(List.range k).foldl (fun s g=>Uk is nx pics g s) s
theorem Qm (k:Nat) (s:σ):z8 is nx pics (k+1) s=Uk is nx pics k (z8 is nx pics k s):=by
 unfold z8;rw[List.range_succ,List.foldl_append];rfl
end
theorem V3 {g i:Type}(f:i->g->i) (l:List g) (d:g) (k:Nat) (hk:k<l.length) (s:i):(l.take (k+1)).foldl f s=f ((l.take k).foldl f s) (l.getD k d):=by
 rw[yR l k d hk,List.foldl_append];rfl
def UV (g:World) (o:zav):Value->World->Prop:=fun v w=>∃ s:Sl,v=.tuple #[.slice s.p s.n s.cap,.bool o.wr,.bool o.fl]∧Jk g w s o.es
theorem UV.stable {p:World}{o:zav}:qC (UV p o):=by
 rintro v w t j ⟨r,g,i⟩;exact⟨r,g,i.grow j⟩
def GT (g:World) (es:List (Int × Pd)):Value->World->Prop:=fun v w=>∃ s:Sl,v=.slice s.p s.n s.cap∧Jk g w s es
theorem GT.stable {o:World}{es:List (Int × Pd)}:qC (GT o es):=by
 rintro v w p j ⟨r,g,i⟩;exact⟨r,g,i.grow j⟩
theorem Uj.reads {p:Pg}{is:Nat->Ins}{i:Nat}{s:Sl}{l:List Pd}{W:World}(h:Uj p is i s l W):zd prog 27 W i 0 p.v∧zd prog 25 W i 2 (.slice p.pc p.n p.cap)∧zd prog 58 W i 3 (.slice s.p s.n s.cap):=by
 have o:∀ g v,[Value.int .i64 p.vars,.int .i64 p.fields,.slice p.pc p.n p.cap,.slice s.p s.n s.cap][g]? = some v->W.cell? ⟨i,g,none⟩=some v:=fun g v j=>by
  have e:W.cell? ⟨i,g,none⟩=[Value.int .i64 p.vars,.int .i64 p.fields,.slice p.pc p.n p.cap,.slice s.p s.n s.cap][g]? :=by simp[World.cell?,h.h]
  rw[e];exact j
 refine⟨zd.agg (l:=[.int .i64 p.vars,.int .i64 p.fields,.slice p.pc p.n p.cap]) Ga (zz h.h) (fun g v j=>?_) rfl,zd.cell GV (zz h.h) (o 2 _ rfl),zd.cell zf2 (zz h.h) (o 3 _ rfl)⟩;rw[Nat.zero_add];refine o g v ?_;have t:g<3:=(List.getElem?_eq_some_iff.1 j).1;obtain rfl|rfl|rfl:g=0∨g=1∨g=2:=by omega
 all_goals exact j
theorem zba {σ:Type}(p:Pg) (is:Nat->Ins) (bm:zf p is=0) (aO:Nat) (aC:Sl) (nx:Nat->Int × Pd->σ->σ) (pics:σ->List Pd) (n B:Nat):
  zc9 prog n 99 #[.pointer (some ⟨aO,0,none⟩)] #[] EdX.encs (fun s=>Uj p is aO aC (pics s)) (zcD p is pics) (fun s x=>nx x.i x.d s) (z8 is nx pics p.n) B:=by
 intro l aN bE s W a6 bg b4 b1 aY;refine callsIn_of_wp func99 rfl trivial ?_ rfl;simp only[ntmps99,List.size_toArray,List.length_cons,List.length_nil,Nat.reduceAdd,Nat.reduceSub,Array.replicate_succ,Array.replicate_zero,List.push_toArray,List.append_toArray,aX];have bT:=(zp bm).1.n1;obtain⟨ar,a1,af⟩:=(a6 s W aY).reads;have J:=Loc.start W;have aI:=za a1;clear ar a1 af;refine wpIn_seq_k (fun K bJ=>?_);refine je ?hd ?hq ?hw
 case hd=>decide
 case hq=>rintro⟨_,_,⟨v,ac⟩,_⟩;cases ac
 go_wp2_with (with_reducible first|refine ldB aI.out J ?_|refine lld J ?_|((first|refine lbx J ?_|refine lal J ?_|refine lbs J ?_);clear J;intro aj R J)|(refine zc J ?_;clear J;intro R J))
 gi_wp2
 gi_loopw [16] (fun c ai=>∃ g:Nat,c=.int .i64 g∧g<=p.n∧W.heap.size<=ai.heap.size∧aN (z8 is nx pics g s) ai) (fun c _=>p.n+1 - (intOf c).toNat)
 case atStart=>exact⟨0,rfl,Nat.zero_le _,Nat.le_refl _,aY⟩
 case round=>
  obtain⟨g,rfl,b8,aa,I⟩:=hrel;clear J aI;obtain⟨ar,a1,af⟩:=(a6 _ wr I).reads;clear a1;by_cases bk:g<p.n
  ·have b5:decide ((g:Int)<(p.n:Int))=true:=decide_eq_true (by omega)
   have ak:=a6 _ wr I;obtain⟨bs,bp,bo⟩:=ak.x;obtain⟨bI,bW,ae,ab⟩:=bp.ex;have a0:g<aC.n:=by rw[ak.n];omega
   have a2:=zd.agg (P:=prog) Zj (ab g a0).1 (ab g a0).2 rfl;rw[ae (Nat.lt_of_le_of_lt (Nat.zero_le _) a0)]at af;have a4:=ak.r g b8;have ag:=fun br (t:Below wr.heap.size wr br)=>zcW p is (bs g) ((pics (z8 is nx pics g s)).getD g zC) g br bm (ak.c.grow t) ((bo g a0).grow t) a4 bk
   have bK:g<9223372036854775807:=by omega
   have bS:((g:Int)<(aC.n:Int)):=by omega
   have ao:=Qm is nx pics g s;unfold Uk KL at ao;generalize bd:(pics (z8 is nx pics g s)).getD g zC=d at ag a4 ao;generalize bl:Qo is g d=i at ag ao;have bt:=za bd;clear bd bp ae ab bo ak;generalize bs g=x at a2 ag;obtain⟨ck,⟨cl,cm,cd⟩,⟨cj,ch,cf⟩⟩:=x
   try dsimp only[Pv.v,Pv.cells]at a2 ag
   have aH:=za ar;have aJ:=za af;have aK:=za a2;have aM:=za ag;have bv:=za ao;have aE:=za bl;have bw:=za a4;clear ar af a2 ag ao bl a4;obtain⟨o,bC⟩:∃ x,x=wr:=⟨_,rfl⟩;subst bC;have J:=Loc.start o
   gi_wp2
   refine GG ?hd3 ?hq3 ?hw3
   case hd3=>decide
   case hq3=>rintro⟨_,_,⟨v,ac⟩,_⟩;cases ac
   refine jB [20,21,22,23,24,25,26,27,28,29,30,31,32,19,33,34,35,5,6,7] ?_
   iterate 3 refine qdv ?_
   refine qdl aH.out ?_
   iterate 4 refine qdv ?_
   refine qdl aJ.out ?_
   iterate 2 refine qdv ?_
   refine qdl aK.out ?_;refine qdn (UV o i) UV.stable J ?_ ?_
   ·intro j w t J _ q;simp only[aG]at q;simp only[fD];simp only[q]
    go_wp2_with (go_at_call 62;refine(aM.out _ J.below).mono ?_;rintro e cc ⟨T,rfl,C⟩;dsimp only);exact⟨rfl,_,rfl,C.below,T,rfl,Loc.since t C⟩
   refine qdn (UV o i) UV.stable J ?_ ?_
   ·intro j w t J y q;have d12:(UV o i) (j 32) w:=yr y 12;obtain⟨T,d12,C⟩:=d12;clear y;simp only[fD];simp only[d12]
    go_wp2_with (fail);exact⟨rfl,_,rfl,Below.refl _ _,T,rfl,C⟩
   refine qdn (GT o i.es) GT.stable J ?_ ?_
   ·intro j w t J y q;have d13:(UV o i) (j 19) w:=yr y 13;obtain⟨T,d13,C⟩:=d13;clear y;simp only[fD];simp only[d13]
    go_wp2_with (fail);exact⟨rfl,_,rfl,Below.refl _ _,T,rfl,C⟩
   refine' j2 J ?_ ?_;rotate_left
   ·intro j w t J y q;have d13:(UV o i) (j 19) w:=yr y 13;obtain⟨T,d13,C⟩:=d13;clear y;simp only[fD];simp only[d13]
    go_wp2;exact cY
   refine' j2 J ?_ ?_;rotate_left
   ·intro j w t J y q;have d13:(UV o i) (j 19) w:=yr y 13;obtain⟨T,d13,C⟩:=d13;clear y;simp only[fD];simp only[d13]
    go_wp2;exact cY
   refine qdn (GT o i.es) GT.stable J ?_ ?_
   ·intro j w t J y q;simp only[aG]at q;have d14:(GT o i.es) (j 33) w:=yr y 14;obtain⟨T,d14,C⟩:=d14;clear y;simp only[fD];simp only[q,d14]
    go_wp2_with (fail);exact⟨rfl,_,rfl,Below.refl _ _,T,rfl,C⟩
   iterate 2 refine qdv ?_
   refine Kt J ?_;intro j ah t U q;simp only[aG]at q;have av:(UV o i) (j 32) ah:=qye U 12;obtain⟨bY,av,-⟩:=av;have aw:(UV o i) (j 19) ah:=qye U 13;obtain⟨bZ,aw,-⟩:=aw;have ax:(GT o i.es) (j 33) ah:=qye U 14;obtain⟨ca,ax,-⟩:=ax;have ay:(GT o i.es) (j 5) ah:=qye U 17;obtain⟨⟨sp,au,bD⟩,ay,aZ⟩:=ay;have a8:=t;clear U;simp only[fD];simp only[q,av,aw,ax,ay];clear q av aw ax ay;replace J:=J.grow t;clear t;clear J aM aH aJ aK;have J:=aZ;clear aZ;have bb:=bg _ o ah a8 I;have bn:W.heap.size<=ah.heap.size:=Nat.le_trans aa a8.size;have a7:=J.newE (Nat.le_trans b1 aa);have bA:=a7.at'.m;clear I aa a8;go_wp2
   gi_wp2
   gi_loopw [38] (fun c ai=>∃ k:Nat,c=.int .i64 k∧k<=i.es.length∧W.heap.size<=ai.heap.size∧aN ((i.es.take k).foldl (fun s d=>nx g d s) (z8 is nx pics g s)) ai∧zcB B ai (fun w=>jS w ⟨sp,au,bD⟩ i.es)) (fun c _=>i.es.length+1 - (intOf c).toNat)
   case atStart=>exact⟨0,rfl,Nat.zero_le _,bn,bb,a7⟩
   case round=>
    obtain⟨k,rfl,b9,aa,I,az⟩:=hrel;clear J bb bn a7;have a9:=az.at'.n;dsimp only at a9 bA;by_cases ad:k<i.es.length
    ·have b6:decide ((k:Int)<(au:Int))=true:=decide_eq_true (by omega)
     have bj:k<au:=by omega
     have bP:k<9223372036854775807:=by have bR:maxLen=9223372036854775807:=rfl;omega
     have bQ:k+1<=i.es.length:=ad;obtain⟨-,-,b0,be,bf⟩:=az.at';obtain⟨bG,bV,ae,ab⟩:=bf.ex;dsimp only at ae;obtain rfl:=ae (by omega);clear ae;have a3:=zd.agg (P:=prog) zf3 (ab k bj).1 (ab k bj).2 rfl;obtain⟨al,aq⟩:=be.at' k ad;have aA:i.es.getD k (0,Qc)∈i.es:=by
      rw[List.getD_eq_getElem?_getD,List.getElem?_eq_getElem ad];exact List.getElem_mem ad
     have aB:=V3 (fun s d=>nx g d s) i.es (0,Qc) k ad (z8 is nx pics g s);generalize i.es.getD k (0,Qc)=bx at al aq aA aB;generalize b0.getD k Qu=bz at a3 al aq;clear be bf ab;obtain⟨aT,aU,⟨aV,aW,aP⟩,⟨aS,aR,aQ⟩⟩:=bz;dsimp only[EdV.cells]at a3 al aq;have aL:=za a3;have aF:=za aq;have a5:=za aA;have bu:=za aB;have aD:=za al;clear a3 aq aA aB al a9;have J:=Loc.start wr
     iterate 2 gi_step
     refine je ?hd5 ?hq5 ?hw5
     case hd5=>decide
     case hq5=>rintro⟨_,_,⟨v,ac⟩,_⟩;cases ac
     go_wp2
     iterate 8 gi_step
     refine je ?hd6 ?hq6 ?hw6
     case hd6=>decide
     case hq6=>rintro⟨_,_,⟨v,ac⟩,_⟩;cases ac
     go_wp2_with (with_reducible first|refine ldB aL.out J ?_|refine lld J ?_|((first|refine lbx J ?_|refine lal J ?_|refine lbs J ?_);clear J;intro aj R J)|(refine zc J ?_;clear J;intro R J));have an:=J.heap cIn;have bL:R.cell? ⟨aj,0,none⟩=some (.int .i64 aT):=by simp[World.cell?,an]
     have bM:R.cell? ⟨aj,1,none⟩=some (.bool aU):=by simp[World.cell?,an]
     have bN:R.cell? ⟨aj,2,none⟩=some (.slice aV aW aP):=by simp[World.cell?,an]
     have bO:R.cell? ⟨aj,3,none⟩=some (.slice aS aR aQ):=by simp[World.cell?,an]
     have ba:=bg _ wr R J.below I;have b3:=az.keep (Q8.of (B:=B) J.below);have bB:W.heap.size<=R.heap.size:=Nat.le_trans aa J.below.size;have bq:=b4 _ ⟨g,⟨aT,⟨aU,⟨aV,aW,aP⟩,⟨aS,aR,aQ⟩⟩⟩,bx⟩ R ba ⟨⟨bk,⟨d,bw.out,by rw[aE.out];exact a5.out⟩,aD.out,aF.out.grow J.below⟩,fun b7=>by rw[b7 _ (z8 is nx pics g s),bt.out,aE.out];exact a5.out⟩;dsimp only[EdX.encs]at bq;obtain⟨fn,cb,assign,bH,bU,U⟩:=bq;clear an J aL aF a5 aD I az aa ba
     gi_wp2
     refine⟨fun h=>(by cases h),U.mono ?_⟩;rintro e bF (⟨rfl,bc,bh⟩|⟨rfl,b2⟩)
     ·rw[<- bu.out]at bc
      gi_wp2
      go_roundw
      case rel=>exact⟨k+1,by go_num,ad,Nat.le_trans bB bh.size,bc,b3.keep bh⟩
      case measure=>simp[intOf];omega
     ·gi_wp2
      refine bodyPost_ret (results_none rfl _ _ _) rfl ?_;exact⟨⟨_,rfl⟩,.inr b2⟩
    ·have b6:decide ((k:Int)<(au:Int))=false:=decide_eq_false (by omega)
     have bi:k=i.es.length:=by omega
     rw[bi,List.take_length,<- bv.out]at I;obtain rfl:au=k:=by omega
     clear a9 bi b9
     gi_wp2
     go_roundw
     case rel=>exact⟨g+1,by go_num,by omega,aa,I⟩
     case measure=>simp[intOf];omega
  ·have b5:decide ((g:Int)<(p.n:Int))=false:=decide_eq_false (by omega)
   obtain rfl:g=p.n:=by omega
   clear ar af
   gi_wp2
   go_end0;exact⟨⟨_,rfl⟩,.inl I⟩
theorem Jy (x:Pv):x.cells.length=3:=rfl
def qJ:Pv:=⟨false,zi,zi⟩
def yD (xs:List Pv) (l:List Pd):zl:=fun w=>∀ k,k<l.length->zq w (xs.getD k qJ) (l.getD k zC)
theorem yD.on {xs:List Pv}{l:List Pd}{w w' : World}{X:Nat->Prop}(h:On w X (yD xs l)) (j:∀ b,X b->ym w b->w'.heap[b]? = w.heap[b]?):yD xs l w':=
 fun k i=>zq.on (X:=X) (fun o g=>h o g k i) j
theorem yD.set {xs:List Pv}{l:List Pd}{w:World}(h:yD xs l w) (p:xs.length=l.length) {t:Nat}{r:Pv}{d:Pd}(j:zq w r d):yD (xs.set t r) (l.set t d) w:=by
 intro k g;rw[List.length_set]at g;by_cases i:k=t
 ·subst i
  rw[qs _ _ _ _ _ (by omega),if_pos rfl,qs _ _ _ _ _ g,if_pos rfl];exact j
 ·by_cases o:t<l.length
  ·rw[qs _ _ _ _ _ (by omega),if_neg i,qs _ _ _ _ _ o,if_neg i]
   exact h k g
  ·rw[List.set_eq_of_length_le (by omega),List.set_eq_of_length_le (by omega)]
   exact h k g
theorem Loc.turnL {w0 w:World}{L:List zg}{xs:List Pv}{l:List Pd}(h:Loc w0 w L [yD xs l]) {r:Nat}(ac:w0.heap.size<=r) {o' : Obj}(I:¬ ym w r):Loc w0 (w.putObj r o') L [yD xs l]:=by
 have p:∀ b,b≠r->(w.putObj r o').heap[b]? = w.heap[b]? :=fun b g=>World.putObj_heap_other g
 have P:(w.putObj r o').heap.size=w.heap.size:=by simp[World.putObj]
 refine⟨⟨h.below.os,h.below.tape,h.below.output,by rw[P];exact h.below.size,fun k U=>(p k (by omega)).trans (h.below.block k U)⟩,h.nodup,h.ids,fun e T=>?_,fun S t=>?_⟩
 ·have j:=h.cells e T
  rw[p _ (fun i=>by rw[i]at j;exact I ⟨_,_,_,j⟩)];exact j
 ·rw[List.mem_singleton]at t
  subst t;obtain⟨X,o,R⟩:=h.data _ List.mem_cons_self;refine⟨fun b=>X b∧ym w b,fun b g=>⟨⟨by rw[P];exact(o b g.1).1.1,(o b g.1).1.2⟩,(o b g.1).2⟩,fun ad aa=>?_⟩;refine yD.on R (fun b ab C=>?_);rw[aa b ⟨ab,C⟩,p b (fun i=>by subst i;exact I C)]
def Jg (w0:World) (p:Pg) (o:Nat) (g:Sl) (A:List zg) (l:List Pd) (w:World):Prop:=
 ∃ (i:List Pv) (j:List zg),i.length=l.length∧zB 54 3 g.p g.n g.cap (i.flatMap Pv.cells) j∧Loc w0 w ((o,144,[.int .i64 p.vars,.int .i64 p.fields,.slice p.pc p.n p.cap,.slice g.p g.n g.cap])::(j++A)) [yD i l]
structure qE (p:Pg) (is:Nat->Ins) (l:List Pd):Prop where
 len:l.length=p.n+1
 r:∀ k,k<=p.n->zE p is (l.getD k zC)=0
theorem Jg.at' {w0 w:World}{p:Pg}{is:Nat->Ins}{i:Nat}{C:Sl}{A:List zg}{l:List Pd}(h:Jg w0 p i C A l w) (hc:zy w0 p is) (g:qE p is l):Uj p is i C l w:=by
 obtain⟨I,P,T,o,J⟩:=h;have U:=o.flatlen Jy (by decide);have aa:Own w0.heap.size w P:=⟨by
  have j:=J.nodup;rw[List.map_cons,List.map_append]at j;exact(List.nodup_append.1 (List.nodup_cons.1 j).2).1,fun e t=>⟨J.ids e (List.mem_cons_of_mem _ (List.mem_append_left _ t)),J.cells e (List.mem_cons_of_mem _ (List.mem_append_left _ t))⟩⟩
 obtain⟨_,R⟩:=o.listC Jy qJ (by decide) aa;have ab:=J.get (S:=yD I l) List.mem_cons_self;exact⟨J.cells _ List.mem_cons_self,hc.grow J.below,by rw[U,T,g.len],g.len,⟨fun k=>I.getD k qJ,R,fun k ac=>ab k (by omega)⟩,g.r⟩
theorem Jg.grow {w0 w w' : World}{p:Pg}{g:Nat}{i:Sl}{A:List zg}{l:List Pd}(h:Jg w0 p g i A l w) (hb:Below w.heap.size w w'):Jg w0 p g i A l w':=by
 obtain⟨C,j,t,o,J⟩:=h;exact⟨C,j,t,o,J.grow hb⟩
theorem Jg.turn {w0 w:World}{p:Pg}{g:Nat}{i:Sl}{A:List zg}{l:List Pd}(h:Jg w0 p g i A l w) {r:Nat}(I:w0.heap.size<=r) {o' : Obj}(C:¬ ym w r):Jg w0 p g i A l (w.putObj r o'):=by
 obtain⟨P,j,t,o,J⟩:=h;exact⟨P,j,t,o,J.turnL I C⟩
def q3 (nb:Bool) (i:Nat) (x:Int × Pd) (s:List Pd × Bool):List Pd × Bool:=
 if qt x.2 (s.1.getD x.1.toNat zC)=true then s
 else (s.1.set x.1.toNat (jM (if (nb&&decide (x.1<=i))=true then jf else both) (s.1.getD x.1.toNat zC) x.2),true)
theorem qE.next {p:Pg}{is:Nat->Ins}(C:zf p is=0) {nb:Bool}{i:Nat}{x:Int × Pd}{s:List Pd × Bool}(h:qE p is s.1) (t:zE p is x.2=0) (I:0<=x.1∧x.1<=p.n):qE p is (q3 nb i x s).1:=by
 unfold q3;by_cases j:qt x.2 (s.1.getD x.1.toNat zC)=true
 ·rw[if_pos j];exact h
 ·rw[if_neg j]
  refine⟨by simp only[List.length_set];exact h.len,fun k o=>?_⟩;dsimp only;rw[qs _ _ _ _ _ (by have:=h.len;omega)];by_cases g:k=x.1.toNat
  ·rw[if_pos g]
   subst g;refine Zl ?_ C (h.r _ o) t;split
   ·exact Y2
   ·exact Qi
  ·rw[if_neg g]
   exact h.r k o
end Go.Proofs.YtplcndmdkabmeaaGreatDoor
