/- Guesses in memory as data: a list of their words. Conditions: none. -/
import Derived.Test.YtplcndmdkabmeaaGreatDoorGua
import Derived.Test.YtplcndmdkabmeaaGreatDoorVal
import Derived.Test.YtplcndmdkabmeaaGreatDoorSpn
import Derived.Test.YtplcndmdkabmeaaGreatDoorShz
import Derived.Test.YtplcndmdkabmeaaGreatDoorCod
set_option linter.unusedSimpArgs false
set_option linter.unusedVariables false
set_option maxRecDepth 100000
set_option maxHeartbeats 4000000
namespace Go.Proofs.YtplcndmdkabmeaaGreatDoor
open Go.Proofs.Tryz
open Go.RowKit
theorem zdX (s:Sl) (l:List Int) (q:Nat->Bool) (K:FuncId) (c:Value) (w:World) (hl:zk w s l) (hf:zcJ prog K c w l.length (fun k=>.int .i64 (l.getD k 0)) q):
  Calls prog 227 #[s.v,.func (.func K) #[] #[c]] w fun e aj=>∃ r:Int,e=.returned (.int .i64 r)∧decide (0<=r)=qa q l.length∧Below w.heap.size w aj:=by
 obtain⟨b,o,R,I⟩:=hl.reads y2;have ac:=hl.n;have ai:=hl.m;obtain⟨p,n,cap⟩:=s;dsimp only at R I ac ai;subst ac;dsimp only[Sl.v];have ag:=za R;have ae:=za I;have af:=za hf.run;have al:=hf.enter;clear R I hl hf;have J:=Loc.start w;go_enter func227,ntmps227;go_wp2;go_loopw [8] (fun x wr=>∃ k:Nat,k<=l.length∧x=.int .i64 k∧(∀ i,i<k->q i=false)∧Loc w wr [] []) (fun x _=>l.length - (intOf x).toNat)
 case atStart=>exact⟨0,Nat.zero_le _,rfl,fun i ab=>absurd ab (by omega),J⟩
 case round=>
  clear J;obtain⟨k,an,rfl,ad,J⟩:=hrel;have U:=za ad;clear ad;by_cases P:k<l.length
  ·have T:=za (ag.out (by omega))
   have hr:=ae.out k P;have g:=af.out k P;generalize l.getD k 0=x at hr g;have aa:=za hr;cases j:q k with
   | true=>
    rw[j]at g;have C:=za g;have t:=za (qg P j);clear g j hr;go_upto_region 4 with(fail)
    refine zx [11,12,13,14,15,16] ?_
    iterate 3 refine qdv ?_
    refine qdx T.out ?_;refine qdl aa.out ?_;refine qdk J (fun _ ah J=>C.out _ J.below) ?_;refine dns J ?_;clear J;intro ak J;simp only[zr,sTa,sTb];go_wp2;go_ret;exact⟨_,rfl,by rw[t.out];simp,J.below⟩
   | false=>
    rw[j]at g;have C:=za g;have t:=za j;clear g j hr;go_upto_region 4 with(fail)
    refine zx [11,12,13,14,15,16] ?_
    iterate 3 refine qdv ?_
    refine qdx T.out ?_;refine qdl aa.out ?_;refine qdk J (fun _ ah J=>C.out _ J.below) ?_;refine dns J ?_;clear J;intro ak J;simp only[zr,sTa,sTb];go_wp2;go_roundw
    case rel=>
     refine⟨k+1,by omega,by go_num,fun i ab=>?_,J⟩;rcases Nat.lt_or_ge i k with h|h
     ·exact U.out i h
     ·obtain rfl:i=k:=by omega
      exact t.out
    case measure=>simp[intOf];omega
  ·obtain rfl:k=l.length:=by omega
   go_wp2;go_ret;exact⟨_,rfl,by rw[qu U.out];rfl,J.below⟩
theorem J9 (s:Sl) (l:List Int) (q:Nat->Bool) (K:FuncId) (c:Value) (w:World) (g:zk w s l) (hf:zcJ prog K c w l.length (fun k=>.int .i64 (l.getD k 0)) q):
  Calls prog 186 #[s.v,.func (.func K) #[] #[c]] w fun e p=>e=.returned (.bool (qa q l.length))∧Below w.heap.size w p:=by
 have i:=za (zdX s l q K c w g hf);clear g hf;go_enter func186,ntmps186;go_wp2_with (go_at_call 227;refine i.out.mono ?_;rintro e t ⟨r,rfl,o,j⟩;dsimp only);go_ret;exact⟨by rw[<- o];rfl,j⟩
theorem Loc.readsG {P:Program}{w0 w:World}{L:List zg}{D:List zl}{b:Nat}{T Tv:TypeId}{g:List Value}{f:List Value->List zg}{off:Nat}{v:Value}(J:Loc w0 w L D) (i:InL b T g L f) (hv:zn P Tv g off v):zd P Tv w b off v:=
 ⟨zz (J.heap i),fun o h=>hv.run o b (fun j=>(h j).trans (J.cell i j))⟩
theorem zh1:∀ args w,(callFunc 187 args).run prog w=.ok (.enter 187 args) w:=fun args w=>by kernel_rfl
theorem zh2:∀ args w,(callFunc 189 args).run prog w=.ok (.enter 189 args) w:=fun args w=>by kernel_rfl
theorem zh3:∀ args w,(callFunc 232 args).run prog w=.ok (.enter 232 args) w:=fun args w=>by kernel_rfl
theorem zaF (p:Pg) (is:Nat->Ins) (x:Int) (b:Nat) (w:World) (j:zd prog 27 w b 0 p.v) (hc:zy w p is):
  Calls prog 187 #[.int .i64 x,.pointer (some ⟨b,0,none⟩)] w fun e o=>e=.returned (.bool (!qh p is x))∧Below w.heap.size w o:=by
 have i:=za hc;clear hc;have J:=Loc.start w;go_enter func187,ntmps187;go_wp2_with (first|(with_reducible first|refine lld J ?_|((first|refine lbx J ?_|refine lal J ?_|refine lbs J ?_);clear J;intro t g J)|(refine zc J ?_;clear J;intro g J))|(refine zL j J rfl rfl ?_)|(go_at_call 127;refine cg J (YM p is _ _ (i.out.grow J.below)) ?_;clear J;intro g J;dsimp only))
 (try simp only[Exit.inBlock,Exit.then]);refine rt1 ?_
 exact⟨rfl,J.below⟩
theorem zaG (t:Sl) (m:List Int) (x:Int) (b:Nat) (w:World) (o:zd prog 37 w b 6 t.v) (g:zk w t m):
  Calls prog 189 #[.int .i64 x,.pointer (some ⟨b,0,none⟩)] w fun e p=>e=.returned (.bool (!jO m x))∧Below w.heap.size w p:=by
 have j:=za g;clear g;have J:=Loc.start w;go_enter func189,ntmps189;go_wp2_with (first|(with_reducible first|refine lld J ?_|((first|refine lbx J ?_|refine lal J ?_|refine lbs J ?_);clear J;intro C i J)|(refine zc J ?_;clear J;intro i J))|(refine zL o J rfl rfl ?_)|(go_at_call 183;refine cg J (JF t m x _ (j.out.grow J.below)) ?_;clear J;intro i J;dsimp only))
 (try simp only[Exit.inBlock,Exit.then]);refine rt1 ?_
 exact⟨rfl,J.below⟩
theorem zdY (t:Sl) (m:List Int) (x:Int) (b:Nat) (w:World) (o:zd prog 37 w b 6 t.v) (g:zk w t m):
  Calls prog 232 #[.int .i64 x,.pointer (some ⟨b,0,none⟩)] w fun e p=>e=.returned (.bool (jO m x))∧Below w.heap.size w p:=by
 have j:=za g;clear g;have J:=Loc.start w;go_enter func232,ntmps232;go_wp2_with (first|(with_reducible first|refine lld J ?_|((first|refine lbx J ?_|refine lal J ?_|refine lbs J ?_);clear J;intro C i J)|(refine zc J ?_;clear J;intro i J))|(refine zL o J rfl rfl ?_)|(go_at_call 183;refine cg J (JF t m x _ (j.out.grow J.below)) ?_;clear J;intro i J;dsimp only))
 (try simp only[Exit.inBlock,Exit.then]);refine rt1 ?_
 exact⟨rfl,J.below⟩
def held (g:Gu) (l:List Int) (v:Vl) (i:Int):Bool:=if v.kind=1 then jE g.span v.n else if v.kind=2 then (v.n==1&&g.tr || v.n==0&&g.fa) else if v.kind=3 then jO l i else g.null
theorem zdZ (g:Gu) (l:List Int) (v:Vl) (site:Int) (w:World) (ad:zk w g.s l):
  Calls prog 139 #[g.v,v.v,.int .i64 site] w fun e C=>e=.returned (.bool (held g l v site))∧Below w.heap.size w C:=by
 obtain⟨ae,⟨aa,U,T⟩,af,ac,t⟩:=g;obtain⟨k,n⟩:=v;have ag:=za (fun C ai=>JF t l site C (ad.grow ai));have ah:=za (fun C=>zfC ⟨aa,U,T⟩ n C);have i:=za (show held ⟨ae,⟨aa,U,T⟩,af,ac,t⟩ l ⟨k,n⟩ site=if k=1 then jE ⟨aa,U,T⟩ n else if k=2 then (n==1&&af || n==0&&ac) else if k=3 then jO l site else ae from rfl);obtain⟨aq,ao,an⟩:=t;clear ad;have J:=Loc.start w;go_enter func139,ntmps139;by_cases o:k=1
 ·subst o
  have j:=za (i.out.trans (if_pos rfl));clear i;go_wp2_with (first|(with_reducible first|refine lld J ?_|(refine lbx J ?_;clear J;intro R I J))|(go_at_call 182;refine cg J (ah.out _) ?_;clear J;intro I J;dsimp only));refine rt1 ?_;exact⟨by rw[j.out];rfl,J.below⟩
 by_cases p:k=2
 ·subst p
  have j:=za (i.out.trans ((if_neg (by decide)).trans (if_pos rfl)));clear o i;go_upto_region 5 with(with_reducible first|refine lld J ?_|(refine lbx J ?_;clear J;intro R I J))
  refine zx [18,19,20,21,22,23,24,25,26,27,28,29,30,31,32,33,6] ?_
  iterate 17 refine qda ?_
  refine dns J ?_;clear J;intro ar J;simp only[zr,sTa,sTb];go_wp2;refine rt1 ?_;exact⟨by rw[j.out];rfl,J.below⟩
 by_cases P:k=3
 ·subst P
  have j:=za (i.out.trans ((if_neg (by decide)).trans ((if_neg (by decide)).trans (if_pos rfl))));clear o p i;go_wp2_with (first|(with_reducible first|refine lld J ?_|(refine lbx J ?_;clear J;intro R I J))|(go_at_call 183;refine cg J (ag.out _ J.below) ?_;clear J;intro I J;dsimp only));refine rt1 ?_;exact⟨by rw[j.out];rfl,J.below⟩
 have aj:(k==1)=false:=beq_eq_false_iff_ne.2 o;have ak:(k==2)=false:=beq_eq_false_iff_ne.2 p;have al:(k==3)=false:=beq_eq_false_iff_ne.2 P;have j:=za (i.out.trans ((if_neg o).trans ((if_neg p).trans (if_neg P))));clear o p P i;go_wp2_with (with_reducible first|refine lld J ?_|(refine lbx J ?_;clear J;intro R I J));refine rt1 ?_;exact⟨by rw[j.out];rfl,J.below⟩
def Yr (l m:List Int):Bool:=qa (fun k=>!jO m (l.getD k 0)) l.length
def Gz (g h:Gu) (l m:List Int):Bool:=(!g.null || h.null)&&(!g.tr || h.tr)&&(!g.fa || h.fa)&&yt g.span h.span && !Yr l m
theorem zaH (g h:Gu) (l m:List Int) (w:World) (T:zk w g.s l) (U:zk w h.s m):
  Calls prog 150 #[g.v,h.v] w fun e ab=>e=.returned (.bool (Gz g h l m))∧Below w.heap.size w ab:=by
 obtain⟨ae,⟨o,j,i⟩,gt,ad,af⟩:=g;obtain⟨ai,⟨I,C,t⟩,aj,ah,aa⟩:=h;dsimp only at T U;have ac:=za (fun ab=>zch ⟨o,j,i⟩ ⟨I,C,t⟩ ab);have ao:=za T;have aq:=za U;clear T U;have J:=Loc.start w;go_enter func150,ntmps150;go_step;go_step;go_step
 ((with_reducible refine lbx J ?_);clear J;intro ar ak J)
 ((with_reducible refine lbx J ?_);clear J;intro R ak J)
 go_upto_region 1 with(fail)
 have p:=J9 af l (fun k=>!jO m (l.getD k 0)) 189 (.pointer (some ⟨R,0,none⟩)) _ (ao.out.grow J.below) ⟨zh2,fun k _ al ag=>zaG aa m (l.getD k 0) R al ((J.readsG (b:=R) (Tv:=37) (off:=6) (v:=aa.v) cIn (zn.cell KM rfl)).grow ag) ((aq.out.grow J.below).grow ag)⟩;rw[show qa (fun k=>!jO m (l.getD k 0)) l.length=Yr l m from rfl]at p;have P:=za (show Gz ⟨ae,⟨o,j,i⟩,gt,ad,af⟩ ⟨ai,⟨I,C,t⟩,aj,ah,aa⟩ l m=((!ae || ai)&&(!gt || aj)&&(!ad || ah)&&yt ⟨o,j,i⟩ ⟨I,C,t⟩ && !Yr l m) from rfl);generalize Yr l m=aw at p P;generalize yt ⟨o,j,i⟩ ⟨I,C,t⟩=av at ac P;have an:=za p;clear p;go_upto_region 2 with(first|(with_reducible refine lld J ?_)|(go_at_call 186;((with_reducible refine cg J an.out ?_);clear J;intro ak J;dsimp only)))
 refine zx [10,11,12,13,14,15,16,17,18,19,20,21,22,23,24,25,26,27,28,29,30,31,32,33,34,35,36,37,38,39,40,41,42,43,44,45,4] ?_
 iterate 30 refine qda ?_
 refine yu J (fun _ au J=>ac.out _) ?_
 iterate 6 refine qda ?_
 refine dns J ?_;clear J;intro al J;simp only[zr,sTa,sTb];go_wp2;refine rt1 ?_;exact⟨by rw[P.out];rfl,J.below⟩
theorem zb4 (s:zm) (w:World):(Instr.field 106 (.agg #[.bool s.none,.int .i64 s.lo,.int .i64 s.hi]) 0).run prog w=.ok (.bool s.none) w:=by
 obtain⟨a,b,c⟩:=s
 first|with_unfolding_all rfl|kernel_rfl
theorem Ys {ops:Array Oper}{Q:Exit->Act->World->Prop}{g:Act}{w:World}{rest:List Oper}{d:Option Tmp}{ty:TypeId}{pos:String}{after:Array Edge}{x:Operand}{s:zm}(ha:g.eval x=s.v)
  (h:wpList prog ops Q rest (g.put d (.bool s.none)) w):wpList prog ops Q (⟨d,.field 106 x 0,ty,pos,after,none⟩::rest) g w:=
 qp (w':=w) rfl (by
  simp only[execOp];rw[ha];rw[Sem.run_bind,zb4];rfl) h
def Jr (l m:List Int):Bool:=qa (fun k=>jO m (l.getD k 0)) l.length
def yG (g h:Gu) (l m:List Int):Bool:=Jr l m || g.null&&h.null || g.tr&&h.tr || g.fa&&h.fa || !(q4 g.span h.span).none
def Za (g h:Gu) (l m:List Int):Bool:=!(yG g h l m&&KI g&&KI h)
theorem zd0 (g h:Gu) (l m:List Int) (w:World) (I:zk w g.s l) (P:zk w h.s m) (aj:l.length<=1000000) (ak:m.length<=1000000):
  Calls prog 205 #[g.v,h.v] w fun e i=>e=.returned (.tuple #[.bool (yG g h l m),.bool (Za g h l m)])∧Below w.heap.size w i:=by
 have ag:g.s.n<=1000000:=by rw[I.n];exact aj
 have ah:h.s.n<=1000000:=by rw[P.n];exact ak
 have R:=za (fun i=>za7 g ag i);have T:=za (fun i=>za7 h ah i);have t:=za (fun i=>VQ g.span h.span i);have o:=za (show yG g h l m=(Jr l m || g.null&&h.null || g.tr&&h.tr || g.fa&&h.fa || !(q4 g.span h.span).none) from rfl);have p:=za (show Za g h l m=!(yG g h l m&&KI g&&KI h) from rfl);clear ag ah aj ak;obtain⟨a8,⟨a0,az,ay⟩,gt,a7,ad⟩:=g;obtain⟨aD,⟨a3,a2,a1⟩,aF,aB,ab⟩:=h;dsimp only at I P o p t;generalize q4 ⟨a0,az,ay⟩ ⟨a3,a2,a1⟩=ax at o t;obtain⟨aw,av,au⟩:=ax;dsimp only at o t;have ao:=za I;have aq:=za P;clear I P;have J:=Loc.start w;go_enter func205,ntmps205;go_step;go_step;go_step
 ((with_reducible refine lbx J ?_);clear J;intro a6 al J)
 ((with_reducible refine lbx J ?_);clear J;intro U al J)
 go_upto_region 1 with(fail)
 have C:=J9 ad l (fun k=>jO m (l.getD k 0)) 232 (.pointer (some ⟨U,0,none⟩)) _ (ao.out.grow J.below) ⟨zh3,fun k _ ac ae=>zdY ab m (l.getD k 0) U ac ((J.readsG (b:=U) (Tv:=37) (off:=6) (v:=ab.v) cIn (zn.cell KM rfl)).grow ae) ((aq.out.grow J.below).grow ae)⟩;rw[show qa (fun k=>jO m (l.getD k 0)) l.length=Jr l m from rfl]at C;generalize Jr l m=aH at C o;have an:=za C;clear C;obtain⟨a9,gk,gc⟩:=ad;obtain⟨aE,aC,aA⟩:=ab;dsimp only[Gu.v]at R T;go_upto_region 2 with(first|(with_reducible refine lld J ?_)|(go_at_call 186;((with_reducible refine cg J an.out ?_);clear J;intro al J;dsimp only)))
 refine zx [12,13,14,15,16,17,18,19,20,21,22,23,24,25,26,27,28,29,30,31,32,33,34,35,36,37,38,39,40,41,42,43,44,45,7] ?_
 iterate 30 refine qda ?_
 refine yu J (fun _ aa J=>t.out _) ?_;refine' Vj (j:=25) J rfl rfl rfl (by decide) (by simp) ?_ ?_;rotate_left
 ·intro af;simp only[Bool.and_eq_true,YG,YH]at af;intro g w aa J _ q;simp only[aG,af,bX]at q;simp only[fD];simp only[q]
  refine Ys (s:=⟨aw,av,au⟩) rfl ?_;go_wp2;exact cY
 iterate 3 refine qda ?_
 refine dns J ?_;clear J;intro ac J;simp only[zr,sTa,sTb];rw[<- o.out];generalize ai:yG _ _ l m=yes at p ⊢;have ar:=za ai;clear ai;generalize KI _=a4 at R p;generalize KI _=a5 at T p;go_upto_region 3 with(fail)
 refine zx [46,47,48,49,50,51,52,53,54,55,56,4,5] ?_
 iterate 4 refine qda ?_
 refine yu J (fun _ aa J=>R.out _) ?_
 iterate 3 refine qda ?_
 refine yu J (fun _ aa J=>T.out _) ?_
 iterate 4 refine qdv ?_
 refine dns J ?_;clear J;intro ac J;simp only[zr,sTa,sTb];go_wp2;refine rt2 ?_;exact⟨GR ar.out.symm (by rw[p.out];cases yes<;>cases a4<;>cases a5<;>rfl),J.below⟩
def Yg (k:Int) (g h:Gu):Gu:=if g.span.none || h.span.none then qn else if k=8 then ⟨false,zA,decide (g.span.lo<h.span.hi),decide (h.span.lo<=g.span.hi),zi⟩ else ⟨false,made k g.span h.span,false,false,zi⟩
theorem GA (k:Int) (g h:Gu):(Yg k g h).s=zi:=by
 unfold Yg;split
 ·rfl
 ·split<;>rfl
theorem zgK (k:Int) (hk:k=5∨k=6∨k=7∨k=8) (g h:Gu) (o:Yh g.span) (p:Yh h.span) (w:World):Calls prog 206 #[.int .i64 k,g.v,h.v] w fun e t=>e=.returned (Yg k g h).v∧Below w.heap.size w t:=by
 cases i:(g.span.none || h.span.none) with
 | true=>
  rw[show Yg k g h=qn from if_pos i];exact zg8 k g h i w
 | false=>
  by_cases j:k=8
  ·subst j
   rw[show Yg 8 g h=_ from (if_neg (by rw[i];decide)).trans (if_pos rfl)];exact zfP g h i w
  ·rw[show Yg k g h=_ from (if_neg (by rw[i];decide)).trans (if_neg j)]
   exact zfO k (by omega) g h o p i w
structure Res where
 null:Bool
 span:zm
 tr:Bool
 fa:Bool
 l:List Int
abbrev Res.gu (r:Res) (s:Sl):Gu:=⟨r.null,r.span,r.tr,r.fa,s⟩
abbrev ziF:Res:=⟨false,zA,false,false,[]⟩
def Gu.res (g:Gu) (l:List Int):Res:=⟨g.null,g.span,g.tr,g.fa,l⟩
def qL (k:Int) (g h:Gu) (l m:List Int):Res × Bool:=
 if qb g || (!(k==10 || k==4)&&qb h) then (ziF,false)
 else if k=4 then (⟨g.null,both g.span zA,g.tr,g.fa,yQ l []⟩,false)
 else if k=10 then (⟨false,zA,noG g,Jf g,[]⟩,false)
 else if k=9 then (⟨false,zA,yG g h l m,Za g h l m,[]⟩,false)
 else ((Yg k g h).res [],yw g || yw h)
theorem YP:∀ args w,(callFunc 60 args).run prog w=.ok (.enter 60 args) w:=fun args w=>by kernel_rfl
theorem zfe (k:Int) (g h:Gu) (hz:(qb g || (!(k==10 || k==4)&&qb h))=true) (w:World):
  Calls prog 165 #[.int .i64 k,g.v,h.v] w fun e j=>e=.returned (.tuple #[qn.v,.bool false])∧Below w.heap.size w j:=by
 have o:=za (fun j=>j1 g j);have p:=za (fun j=>j1 h j);generalize qb g=I at o hz;generalize qb h=C at p hz;obtain⟨U,⟨ab,aa,T⟩,gt,R,⟨ac,gk,gc⟩⟩:=g;obtain⟨ah,⟨aj,ai,af⟩,al,ae,⟨ak,ag,ad⟩⟩:=h;have J:=Loc.start w;go_enter func165,ntmps165;go_upto_region 1 with(with_reducible ((first|refine lbx J ?_|refine lal J ?_);clear J;intro P i J))
 refine zx [11,12,13,14,15,16,8] ?_
 iterate 7 refine qda ?_
 refine dns J ?_;clear J;intro an J;simp only[zr,sTa,sTb];generalize (k==10 || k==4)=t at hz ⊢;cases I with
 | true=>
  clear hz;go_wp2_with (first|(with_reducible first|refine lld J ?_|(refine zc J ?_;clear J;intro i J))|(go_at_call 147;(with_reducible refine cg J (o.out _) ?_);clear J;intro i J;dsimp only)|(go_at_call 136;refine cg J (ja _) ?_;clear J;intro i J;dsimp only));refine rt2 ?_;exact⟨rfl,J.below⟩
 | false=>
  obtain⟨rfl,rfl⟩:t=false∧C=true:=by
   cases t<;>cases C<;>simp_all
  clear hz;go_wp2_with (first|(with_reducible first|refine lld J ?_|(refine zc J ?_;clear J;intro i J))|(go_at_call 147;(with_reducible refine cg J (o.out _) ?_);clear J;intro i J;dsimp only)|(go_at_call 147;(with_reducible refine cg J (p.out _) ?_);clear J;intro i J;dsimp only)|(go_at_call 136;refine cg J (ja _) ?_;clear J;intro i J;dsimp only));refine rt2 ?_;exact⟨rfl,J.below⟩
theorem zd1 (g h:Gu) (l:List Int) (w:World) (ab:zk w g.s l) (an:l.length<=1000000) (hz:qb g=false):
  Calls prog 165 #[.int .i64 4,g.v,h.v] w fun e i=>∃ r:Sl,e=.returned (.tuple #[Gu.v ⟨g.null,both g.span zA,g.tr,g.fa,r⟩,.bool false])∧QO w.heap.size i r (yQ l [])∧Below w.heap.size w i:=by
 have C:=za (fun i=>j1 g i);rw[hz]at C;have p:=za (fun i (j:Below w.heap.size w i)=>Yb 60 both YP Qy g qn l [] i (ab.grow j) (zk.nil i) (by simp;omega));clear ab an hz;obtain⟨U,⟨aj,ai,ah⟩,gt,T,⟨a1,gk,gc⟩⟩:=g;obtain⟨a6,⟨a8,a7,a4⟩,aA,a3,⟨a9,a5,a2⟩⟩:=h;simp only[qn,Bool.or_false]at p;generalize yQ l []=ac at p ⊢;generalize al:both ⟨aj,ai,ah⟩ zA=ag at p ⊢;clear al;obtain⟨bn,P,I⟩:=ag;have J:=Loc.start w;go_enter func165,ntmps165;go_step;go_step;go_step
 ((with_reducible refine lbx J ?_);clear J;intro ay o J)
 ((with_reducible refine lbx J ?_);clear J;intro az o J)
 ((with_reducible refine lal J ?_);clear J;intro a0 o J)
 go_upto_region 6 with(first|(with_reducible refine lld J ?_)|(go_at_call 147;(with_reducible refine cg J (C.out _) ?_);clear J;intro o J;dsimp only))
 refine zb [31,32,33] ?_;refine qdv ?_;refine qdk J (fun _ j J=>ja _) ?_;refine qdn (GuR o.heap.size U ⟨bn,P,I⟩ gt T ac) GuR.stable J ?_ ?_
 ·intro g w j J _ q;simp only[aG]at q;simp only[fD];simp only[q]
  go_wp2_with (go_at_call 104;refine(p.out _ J.below).mono ?_;rintro e aB ⟨r,rfl,⟨R,aq,ao⟩,ak⟩;dsimp only);exact⟨rfl,_,rfl,ak,r,R,rfl,aq,ao.mono j.size⟩
 refine qy J ?_;intro g au j aa q;simp only[aG]at q;have t:(GuR o.heap.size U ⟨bn,P,I⟩ gt T ac) (g 33) au:=qye aa 2;obtain⟨⟨av,aw,ax⟩,af,t,ar,ad⟩:=t;clear aa;simp only[fD];simp only[q,t];clear q t;replace J:=J.gainTail j ad;simp only[aX]at J;clear j;clear ad;go_wp2_with (with_reducible refine zc J ?_;clear J;intro o J);refine rt2 ?_;exact⟨⟨av,aw,ax⟩,rfl,⟨af,ar,J.ownOf (List.sublist_append_right [_,_,_] _)⟩,J.below⟩
theorem zff (g h:Gu) (w:World) (hz:qb g=false):
  Calls prog 165 #[.int .i64 10,g.v,h.v] w fun e i=>e=.returned (.tuple #[Gu.v ⟨false,zA,noG g,Jf g,zi⟩,.bool false])∧Below w.heap.size w i:=by
 have p:=za (fun i=>j1 g i);rw[hz]at p;have o:=za (fun i=>ZN g i);clear hz;generalize Jf g=y at o ⊢;generalize noG g=n at o ⊢;obtain⟨P,⟨T,R,I⟩,gt,C,⟨U,gk,gc⟩⟩:=g;obtain⟨ae,⟨ag,af,ac⟩,ai,ab,⟨ah,ad,aa⟩⟩:=h;have J:=Loc.start w;go_enter func165,ntmps165;go_wp2_with (first|(with_reducible first|refine lld J ?_|((first|refine lbx J ?_|refine lal J ?_);clear J;intro t j J)|(refine zc J ?_;clear J;intro j J))|(go_at_call 147;(with_reducible refine cg J (p.out _) ?_);clear J;intro j J;dsimp only)|(go_at_call 158;refine cg J (o.out _) ?_;clear J;intro j J;dsimp only)|(go_at_call 204;refine cg J (V0 _ _ _) ?_;clear J;intro j J;dsimp only));refine rt2 ?_;exact⟨rfl,J.below⟩
theorem zd2 (g h:Gu) (l m:List Int) (w:World) (I:zk w g.s l) (P:zk w h.s m) (T:l.length<=1000000) (U:m.length<=1000000) (hz:qb g=false) (R:qb h=false):
  Calls prog 165 #[.int .i64 9,g.v,h.v] w fun e i=>e=.returned (.tuple #[Gu.v ⟨false,zA,yG g h l m,Za g h l m,zi⟩,.bool false])∧Below w.heap.size w i:=by
 have p:=za (fun i=>j1 g i);have t:=za (fun i=>j1 h i);rw[hz]at p;rw[R]at t;have o:=za (fun i (C:Below w.heap.size w i)=>zd0 g h l m i (I.grow C) (P.grow C) T U);clear hz R I P T U;generalize yG g h l m=y at o ⊢;generalize Za g h l m=n at o ⊢;obtain⟨ad,⟨af,ae,ac⟩,gt,ab,⟨ag,gk,gc⟩⟩:=g;obtain⟨al,⟨ao,an,aj⟩,ar,ai,⟨aq,ak,ah⟩⟩:=h;have J:=Loc.start w;go_enter func165,ntmps165;go_wp2_with (first|(with_reducible first|refine lld J ?_|((first|refine lbx J ?_|refine lal J ?_);clear J;intro aa j J)|(refine zc J ?_;clear J;intro j J))|(go_at_call 147;(with_reducible refine cg J (p.out _) ?_);clear J;intro j J;dsimp only)|(go_at_call 147;(with_reducible refine cg J (t.out _) ?_);clear J;intro j J;dsimp only)|(go_at_call 205;refine cg J (o.out _ J.below) ?_;clear J;intro j J;dsimp only)|(go_at_call 204;refine cg J (V0 _ _ _) ?_;clear J;intro j J;dsimp only));refine rt2 ?_;exact⟨rfl,J.below⟩
theorem zaI (k:Int) (hk:k=5∨k=6∨k=7∨k=8) (g h:Gu) (R:Yh g.span) (T:Yh h.span) (w:World) (hz:qb g=false) (U:qb h=false):
  Calls prog 165 #[.int .i64 k,g.v,h.v] w fun e i=>e=.returned (.tuple #[(Yg k g h).v,.bool (yw g || yw h)])∧Below w.heap.size w i:=by
 have HE1:=za (fun i=>j1 g i);have C:=za (fun i=>j1 h i);rw[hz]at HE1;rw[U]at C;have p:=za (fun i=>zgK k hk g h R T i);have I:=za (fun i=>X8 g i);have P:=za (fun i=>X8 h i);have aw:(k==4)=false:=beq_eq_false_iff_ne.2 (by omega);have ax:(k==9)=false:=beq_eq_false_iff_ne.2 (by omega);have av:(k==10)=false:=beq_eq_false_iff_ne.2 (by omega);clear hz U R T hk;generalize Yg k g h=t at p ⊢;generalize yw g=ay at I ⊢;generalize yw h=az at P ⊢;obtain⟨a4,⟨a6,a5,a2⟩,a8,a1,⟨a7,a3,a0⟩⟩:=t;obtain⟨af,⟨ah,ag,ae⟩,gt,ad,⟨ai,gk,gc⟩⟩:=g;obtain⟨an,⟨aq,ao,al⟩,au,ak,⟨ar,hk,aj⟩⟩:=h;have J:=Loc.start w;go_enter func165,ntmps165;go_upto_region 12 with(first|(with_reducible first|refine lld J ?_|((first|refine lbx J ?_|refine lal J ?_);clear J;intro ac o J))|(go_at_call 147;(with_reducible refine cg J (HE1.out _) ?_);clear J;intro o J;dsimp only)|(go_at_call 147;(with_reducible refine cg J (C.out _) ?_);clear J;intro o J;dsimp only))
 refine zb [52,53,54,55,56,57,58,59,60,61] ?_
 iterate 3 refine qdv ?_
 refine qdk J (fun _ j J=>p.out _) ?_;refine qdv ?_;refine qdk J (fun _ j J=>I.out _) ?_
 iterate 2 refine qda ?_
 refine yu J (fun _ j J=>P.out _) ?_;refine qdv ?_;refine de1 9 J ?_ ?_
 ·(refine yj rfl rfl ?_;intro g w j V;(try simp[zD,List.filter_cons,Region.binds,j7,RAt]at V);simp only[fD];(try simp only[V]);exact⟨_,.inl ⟨rfl,fun w=>(by go_simp<;>(try (split<;>(rename_i aa;simp[aa,cnd]))))⟩,rfl⟩)
 intro g a9 j _ q;simp only[aG]at q;simp only[fD];simp only[q];clear q;replace J:=J.grow j;clear j;go_wp2_with (with_reducible refine zc J ?_;clear J;intro o J);refine rt2 ?_;exact⟨rfl,J.below⟩
theorem zd3 {k:Int}(j:k≠8) (g h:Gu):Yg k g h=⟨false,made k g.span h.span,false,false,zi⟩:=by
 unfold Yg;by_cases i:(g.span.none || h.span.none)=true
 ·rw[if_pos i]
  unfold made;rw[if_pos i]
 ·rw[if_neg i,if_neg j]
theorem zd4 (q:Nat->Bool) (n:Nat):qa q (n+1)=(qa q n || q n):=by
 simp[qa,List.range_succ]
def ZB (g h:Gu):Bool:=decide (jX g<0) || jX g != jX h || !(g.span.none==h.span.none&&g.span.lo==h.span.lo&&g.span.hi==h.span.hi)
theorem GB (k:Int) (s t:zm) (hz:(s.none || t.none)=true) (w:World):Calls prog 124 #[.int .i64 k,s.v,t.v] w fun e p=>e=.returned zA.v∧Below w.heap.size w p:=by
 obtain⟨j,I,C⟩:=s;obtain⟨o,R,P⟩:=t;dsimp only at hz;have J:=Loc.start w;go_enter func124,ntmps124;cases j with
 | true=>
  clear hz;go_wp2_with (with_reducible first|refine lld J ?_|((first|refine lbx J ?_|refine lal J ?_);clear J;intro i g J)|(refine zc J ?_;clear J;intro g J));refine rt1 ?_;exact⟨rfl,J.below⟩
 | false=>
  obtain rfl:o=true:=by simpa using hz
  clear hz;go_wp2_with (with_reducible first|refine lld J ?_|((first|refine lbx J ?_|refine lal J ?_);clear J;intro i g J)|(refine zc J ?_;clear J;intro g J));refine rt1 ?_;exact⟨rfl,J.below⟩
theorem zaJ (k:Int) (hk:k=5∨k=6∨k=7) (s t:zm) (j:zh s=0) (ht:zh t=0) (w:World):Calls prog 124 #[.int .i64 k,s.v,t.v] w fun e p=>e=.returned (made k s t).v∧Below w.heap.size w p:=by
 by_cases o:(s.none || t.none)=true
 ·rw[show made k s t=zA from if_pos o]
  exact GB k s t o w
 ·obtain⟨g,i⟩:s.none=false∧t.none=false:=by simpa using o
  rcases hk with rfl|rfl|rfl
  ·exact ziN s t j ht g i w
  ·exact ziO s t j ht g i w
  ·exact ziP s t j ht g i w
theorem zgL (k:Int) (g h:Gu) (hz:(qb g || (!(k==10 || k==4)&&qb h))=true) (w:World):
  Calls prog 82 #[.int .i64 k,g.v,h.v] w fun e j=>e=.returned (.tuple #[qn.v,.bool false])∧Below w.heap.size w j:=by
 have o:=za (fun j=>zK g j);have p:=za (fun j=>zK h j);generalize qb g=P at o hz;generalize qb h=R at p hz;obtain⟨aa,⟨ac,ab,U⟩,gt,T,⟨ad,gk,gc⟩⟩:=g;obtain⟨ai,⟨ak,aj,ag⟩,an,af,⟨al,ah,ae⟩⟩:=h;have J:=Loc.start w;go_enter func82,ntmps82;cases P with
 | true=>
  clear hz;go_wp2_with (first|(with_reducible first|refine lld J ?_|((first|refine lbx J ?_|refine lal J ?_);clear J;intro I i J)|(refine zc J ?_;clear J;intro i J))|(go_at_call 83;(with_reducible refine cg J (o.out _) ?_);clear J;intro i J;dsimp only)|(go_at_call 78;refine cg J (zt _) ?_;clear J;intro i J;dsimp only));refine rt2 ?_;exact⟨rfl,J.below⟩
 | false=>
  obtain⟨C,t,rfl⟩:k≠4∧k≠10∧R=true:=by
   simp at hz;exact⟨hz.1.2,hz.1.1,hz.2⟩
  have aq:(k != 4)=true:=by simpa using C
  have ao:(k != 10)=true:=by simpa using t
  clear hz C t;go_wp2_with (first|(with_reducible first|refine lld J ?_|((first|refine lbx J ?_|refine lal J ?_);clear J;intro I i J)|(refine zc J ?_;clear J;intro i J))|(go_at_call 83;(with_reducible refine cg J (o.out _) ?_);clear J;intro i J;dsimp only)|(go_at_call 83;(with_reducible refine cg J (p.out _) ?_);clear J;intro i J;dsimp only)|(go_at_call 78;refine cg J (zt _) ?_;clear J;intro i J;dsimp only));refine rt2 ?_;exact⟨rfl,J.below⟩
theorem zfg (g h:Gu) (w:World) (hz:qb g=false):
  Calls prog 82 #[.int .i64 4,g.v,h.v] w fun e i=>e=.returned (.tuple #[g.v,.bool false])∧Below w.heap.size w i:=by
 have o:=za (fun i=>zK g i);rw[hz]at o;clear hz;obtain⟨I,⟨R,P,C⟩,gt,t,⟨T,gk,gc⟩⟩:=g;obtain⟨ad,⟨af,ae,ab⟩,ah,aa,⟨ag,ac,U⟩⟩:=h;have J:=Loc.start w;go_enter func82,ntmps82;go_wp2_with (first|(with_reducible first|refine lld J ?_|((first|refine lbx J ?_|refine lal J ?_);clear J;intro p j J)|(refine zc J ?_;clear J;intro j J))|(go_at_call 83;(with_reducible refine cg J (o.out _) ?_);clear J;intro j J;dsimp only)|(go_at_call 78;refine cg J (zt _) ?_;clear J;intro j J;dsimp only));refine rt2 ?_;exact⟨rfl,J.below⟩
theorem zgM (g h:Gu) (w:World) (hz:qb g=false):
  Calls prog 82 #[.int .i64 10,g.v,h.v] w fun e i=>e=.returned (.tuple #[Gu.v ⟨false,zA,noG g,Jf g,zi⟩,.bool false])∧Below w.heap.size w i:=by
 have p:=za (fun i=>zK g i);rw[hz]at p;have o:=za (fun i=>Zg g i);clear hz;generalize Jf g=y at o ⊢;generalize noG g=n at o ⊢;obtain⟨P,⟨T,R,I⟩,gt,C,⟨U,gk,gc⟩⟩:=g;obtain⟨ae,⟨ag,af,ac⟩,ai,ab,⟨ah,ad,aa⟩⟩:=h;have J:=Loc.start w;go_enter func82,ntmps82;go_wp2_with (first|(with_reducible first|refine lld J ?_|((first|refine lbx J ?_|refine lal J ?_);clear J;intro t j J)|(refine zc J ?_;clear J;intro j J))|(go_at_call 83;(with_reducible refine cg J (p.out _) ?_);clear J;intro j J;dsimp only)|(go_at_call 78;refine cg J (zt _) ?_;clear J;intro j J;dsimp only)|(go_at_call 79;refine cg J (o.out _) ?_;clear J;intro j J;dsimp only));refine rt2 ?_;exact⟨rfl,J.below⟩
theorem zfh (k:Int) (hk:k=5∨k=6∨k=7) (g h:Gu) (R:zh g.span=0) (T:zh h.span=0) (w:World) (hz:qb g=false) (U:qb h=false):
  Calls prog 82 #[.int .i64 k,g.v,h.v] w fun e i=>e=.returned (.tuple #[(Yg k g h).v,.bool (yw g || yw h)])∧Below w.heap.size w i:=by
 have HE1:=za (fun i=>zK g i);have C:=za (fun i=>zK h i);rw[hz]at HE1;rw[U]at C;have p:=za (fun i=>zaJ k hk g.span h.span R T i);have I:=za (fun i=>Ql g i);have P:=za (fun i=>Ql h i);have aw:(k==4)=false:=beq_eq_false_iff_ne.2 (by omega);have ay:(k==9)=false:=beq_eq_false_iff_ne.2 (by omega);have ax:(k==8)=false:=beq_eq_false_iff_ne.2 (by omega);have av:(k==10)=false:=beq_eq_false_iff_ne.2 (by omega);have a0:(k != 4)=true:=by simpa using (show k≠4 by omega)
 have az:(k != 10)=true:=by simpa using (show k≠10 by omega)
 rw[zd3 (by omega)];clear hz U R T hk;generalize made k g.span h.span=t at p ⊢;generalize yw g=a1 at I ⊢;generalize yw h=a2 at P ⊢;obtain⟨a5,a4,a3⟩:=t;obtain⟨af,⟨ah,ag,ae⟩,gt,ad,⟨ai,gk,gc⟩⟩:=g;obtain⟨an,⟨aq,ao,al⟩,au,ak,⟨ar,hk,aj⟩⟩:=h;have J:=Loc.start w;go_enter func82,ntmps82;go_upto_region 26 with(first|(with_reducible first|refine lld J ?_|((first|refine lbx J ?_|refine lal J ?_);clear J;intro ac j J)|(refine zc J ?_;clear J;intro j J))|(go_at_call 83;(with_reducible refine cg J (HE1.out _) ?_);clear J;intro j J;dsimp only)|(go_at_call 83;(with_reducible refine cg J (C.out _) ?_);clear J;intro j J;dsimp only)|(go_at_call 78;refine cg J (zt _) ?_;clear J;intro j J;dsimp only)|(go_at_call 124;refine cg J (p.out _) ?_;clear J;intro j J;dsimp only))
 refine zb [161,162,163,164,165,166,167] ?_
 iterate 2 refine qdv ?_
 refine qdk J (fun _ o J=>I.out _) ?_
 iterate 2 refine qda ?_
 refine yu J (fun _ o J=>P.out _) ?_;refine qdv ?_;refine de1 6 J ?_ ?_
 ·(refine yj rfl rfl ?_;intro g w o V;(try simp[zD,List.filter_cons,Region.binds,j7,RAt]at V);simp only[fD];(try simp only[V]);exact⟨_,.inl ⟨rfl,fun w=>(by go_simp<;>(try (split<;>(rename_i aa;simp[aa,cnd]))))⟩,rfl⟩)
 intro g a6 o _ q;simp only[aG]at q;simp only[fD];simp only[q];clear q;replace J:=J.grow o;clear o;go_wp2_with (with_reducible refine zc J ?_;clear J;intro j J);refine rt2 ?_;exact⟨rfl,J.below⟩
theorem zfi (g h:Gu) (w:World) (hz:qb g=false) (R:qb h=false):
  Calls prog 82 #[.int .i64 8,g.v,h.v] w fun e i=>e=.returned (.tuple #[(Yg 8 g h).v,.bool (yw g || yw h)])∧Below w.heap.size w i:=by
 have p:=za (fun i=>zK g i);have t:=za (fun i=>zK h i);rw[hz]at p;rw[R]at t;have C:=za (fun i=>Ql g i);have I:=za (fun i=>Ql h i);clear hz R;generalize yw g=av at C ⊢;generalize yw h=aw at I ⊢;unfold Yg;obtain⟨aj,⟨ac,ab,aa⟩,gt,ai,⟨ak,gk,gc⟩⟩:=g;obtain⟨aq,⟨af,ae,ad⟩,au,an,⟨ar,ao,al⟩⟩:=h;dsimp only;generalize P:decide (ab<ad)=a;generalize j:decide (ae<=aa)=b;have T:=za P;have U:=za j;clear P j;cases ac<;>cases af
 all_goals
  have J:=Loc.start w;go_enter func82,ntmps82;go_upto_region 24 with(first|(with_reducible first|refine lld J ?_|((first|refine lbx J ?_|refine lal J ?_);clear J;intro ah o J)|(refine zc J ?_;clear J;intro o J))|(go_at_call 83;(with_reducible refine cg J (p.out _) ?_);clear J;intro o J;dsimp only)|(go_at_call 83;(with_reducible refine cg J (t.out _) ?_);clear J;intro o J;dsimp only)|(go_at_call 78;refine cg J (zt _) ?_;clear J;intro o J;dsimp only))
  refine zb [147,148,149,150,151,152,153] ?_
  iterate 2 refine qdv ?_
  refine qdk J (fun _ j J=>C.out _) ?_
  iterate 2 refine qda ?_
  refine yu J (fun _ j J=>I.out _) ?_;refine qdv ?_;refine de1 6 J ?_ ?_
  ·(refine yj rfl rfl ?_;intro g w j V;(try simp[zD,List.filter_cons,Region.binds,j7,RAt]at V);simp only[fD];(try simp only[V]);exact⟨_,.inl ⟨rfl,fun w=>(by go_simp<;>(try (split<;>(rename_i ag;simp[ag,cnd]))))⟩,rfl⟩)
  intro g ax j _ q;simp only[aG]at q;simp only[fD];simp only[q];clear q;replace J:=J.grow j;clear j;go_wp2_with (with_reducible refine zc J ?_;clear J;intro o J);refine rt2 ?_
  first
  | exact⟨rfl,J.below⟩
  | exact⟨by rw[<- T.out,<- U.out];rfl,J.below⟩
theorem zfj (g h:Gu) (l m:List Int) (w:World) (R:zk w g.s l) (aw:zk w h.s m) (hz:qb g=false) (az:qb h=false):
  Calls prog 82 #[.int .i64 9,g.v,h.v] w fun e i=>e=.returned (.tuple #[Gu.v ⟨false,zA,yG g h l m,ZB g h,zi⟩,.bool false])∧Below w.heap.size w i:=by
 have ak:=za (fun i=>zK g i);have al:=za (fun i=>zK h i);rw[hz]at ak;rw[az]at al;have U:=za (fun i=>UI g i);have au:=za (fun i=>UI h i);have T:=za (fun i=>zep g.span h.span i);have P:=za (show yG g h l m=(Jr l m || g.null&&h.null || g.tr&&h.tr || g.fa&&h.fa || !(q4 g.span h.span).none) from rfl);have C:=za (show ZB g h=(decide (jX g<0) || jX g != jX h || !(g.span.none==h.span.none&&g.span.lo==h.span.lo&&g.span.hi==h.span.hi)) from rfl);clear hz az;generalize jX g=aS at U C;generalize jX h=aT at au C;generalize aL:yG g h l m=aP at P ⊢;generalize aM:ZB g h=aQ at C ⊢;clear aL aM;obtain⟨b,o,ah,ad⟩:=R.reads y2;have ax:=R.n;have aK:=R.m;have an:=za (fun x i (hb:Below w.heap.size w i)=>VZ h.s m x i (aw.grow hb));obtain⟨aD,⟨ac,ab,aa⟩,gt,aC,⟨aE,gk,gc⟩⟩:=g;obtain⟨aI,⟨ag,af,ae⟩,aO,aH,⟨aN,av,aF⟩⟩:=h;dsimp only at ax ah ad aK P C T;subst ax;have ao:=za ah;have aj:=za ad;clear R aw ah ad;generalize q4 ⟨ac,ab,aa⟩ ⟨ag,af,ae⟩=aB at P T;obtain⟨aA,a9,a8⟩:=aB;have aq:=za (show Jr l m=qa (fun k=>jO m (l.getD k 0)) l.length from rfl);have J:=Loc.start w;go_enter func82,ntmps82;go_step;go_step;go_step
 ((with_reducible refine lbx J ?_);clear J;intro a4 t J)
 ((with_reducible refine lbx J ?_);clear J;intro a5 t J)
 ((with_reducible refine lal J ?_);clear J;intro a6 t J)
 go_upto_region 1 with(fail)
 go_upto_region 2 with(first|((with_reducible refine lal J ?_);clear J;intro a7 t J)|(with_reducible refine zc J ?_;clear J;intro t J)|(go_at_call 78;refine cg J (zt _) ?_;clear J;intro t J;dsimp only))
 go_wp2_with (first|(with_reducible refine lld J ?_)|(go_at_call 83;(with_reducible refine cg J (ak.out _) ?_);clear J;intro t J;dsimp only)|(go_at_call 83;(with_reducible refine cg J (al.out _) ?_);clear J;intro t J;dsimp only));go_loopw [11,12] (fun c d wr=>∃ k:Nat,k<=l.length∧c=.bool (qa (fun k=>jO m (l.getD k 0)) k)∧d=.int .i64 k∧Loc w wr [(a7,108,[.bool false,.bool true,.int .i64 0,.int .i64 0,.bool false,.bool false,.slice none 0 0]),(a6,108,[.bool false,.bool false,.int .i64 0,.int .i64 0,.bool false,.bool false,.slice none 0 0]),(a5,108,[.bool aI,.bool ag,.int .i64 af,.int .i64 ae,.bool aO,.bool aH,.slice aN av aF]),(a4,108,[.bool aD,.bool ac,.int .i64 ab,.int .i64 aa,.bool gt,.bool aC,.slice aE l.length gc])] []) (fun _ d _=>l.length - (intOf d).toNat)
 case atStart=>exact⟨0,Nat.zero_le _,rfl,rfl,J⟩
 case round=>
  obtain⟨k,av,rfl,rfl,J⟩:=hrel;by_cases aJ:k<l.length
  ·have a1:=za (ao.out (by omega))
   have ai:=aj.out k aJ;have I:=zd4 (fun k=>jO m (l.getD k 0)) k
   try dsimp only at I
   generalize qa (fun k=>jO m (l.getD k 0)) k=x at I ⊢;generalize l.getD k 0=y at ai I;generalize hz:jO m y=z at I;have a3:=za (fun i (hb:Below w.heap.size w i)=>hz▸an.out y i hb);have ar:=za I;have a2:=za ai;clear ai I hz;go_upto_region 16 with(with_reducible refine lld J ?_)
   refine zb [54,55,56,57,58,59,60,61,62,63,64,11] ?_;refine' zjc [(11,11)] 0 J rfl (by kernel_rfl) ?_ ?_;rotate_left
   ·intro g w hb J _ q ay;simp[zdC]at ay;simp only[fD];simp only[ay]
    go_wp2;exact cY
   iterate 6 refine qda ?_
   refine' Vj (j:=1) J rfl rfl rfl (by decide) (by simp) ?_ ?_;rotate_left
   ·intro p;simp only[Bool.and_eq_true,YG,YH]at p;intro g w hb J _ q;simp only[aG,p,bX]at q;simp only[fD];simp only[q]
    (simp only[a1.out];go_wp2)
    exact cY
   refine' Vj (j:=1) J rfl rfl rfl (by decide) (by simp) ?_ ?_;rotate_left
   ·intro p;simp only[Bool.and_eq_true,YG,YH]at p;intro g w hb J _ q;simp only[aG,p,bX]at q;simp only[fD];simp only[q]
    refine zL a2.out J rfl rfl ?_;exact cY
   refine yu J (fun _ hb J=>a3.out _ J.below) ?_
   iterate 2 refine qdv ?_
   refine dnd J ?_;clear J;intro a0 J;simp only[zr,sTa,sTb];simp only[beq_true,beq_false,Bool.not_and,Bool.not_or,Bool.not_not];generalize (x || z)=aU at ar ⊢;go_wp2;go_roundw
   case rel=>exact⟨k+1,by omega,by rw[ar.out],by go_num,J⟩
   case measure=>simp[intOf];omega
  ·obtain rfl:k=l.length:=by omega
   rw[<- aq.out];generalize Jr l m=co at P ⊢;clear aq ao aj an;go_upto_region 17 with(with_reducible refine lld J ?_)
   refine zx [65,66,67,68,69,70,71,72,73,74,75,76,77,78,79,80,81,82,83,84,85,86,87,88,89,90,91,92,93,94,95,96,97,98,99] ?_
   iterate 30 refine qda ?_
   refine yu J (fun _ hb J=>T.out _) ?_;refine' Vj (j:=25) J rfl rfl rfl (by decide) (by simp) ?_ ?_;rotate_left
   ·intro p;simp only[Bool.and_eq_true,YG,YH]at p;intro g w hb J _ q;simp only[aG,p,bX]at q;simp only[fD];simp only[q]
    refine Ys (s:=⟨aA,a9,a8⟩) rfl ?_;go_wp2;exact cY
   iterate 3 refine qda ?_
   refine dns J ?_;clear J;intro a0 J;simp only[zr,sTa,sTb];rw[<- P.out];go_upto_region 18 with(with_reducible refine zc J ?_;clear J;intro t J)
   refine zb [100,101,102,103,104,105,106,107,108,109,110,111,112,113,114,115,116,117] ?_;refine qdv ?_;refine qdk J (fun _ hb J=>U.out _) ?_
   iterate 3 refine qda ?_
   refine yu J (fun _ hb J=>U.out _) ?_;refine qdg ?_;refine yu J (fun _ hb J=>au.out _) ?_
   iterate 7 refine qda ?_
   refine' Vj (j:=10) J rfl rfl rfl (by decide) (by simp) ?_ ?_;rotate_left
   ·intro p;simp only[Bool.and_eq_true,YG,YH]at p;intro g w hb J _ q;simp only[aG,p,bX]at q;simp only[fD];simp only[q]
    refine UH (a:=⟨ac,ab,aa⟩) (b:=⟨ag,af,ae⟩) rfl rfl rfl ?_;go_wp2;exact cY
   iterate 2 refine qdv ?_
   refine dnd J ?_;clear J;intro a0 J;simp only[zr,sTa,sTb];go_wp2_with (with_reducible first|refine lld J ?_|(refine zc J ?_;clear J;intro t J));refine rt2 ?_
   first
   | exact⟨by rw[C.out];rfl,J.below⟩
   | exact⟨by rw[C.out];simp,J.below⟩
def jz (p:Pg) (is:Nat->Ins) (l:List Int):Bool:=qa (fun k=>!qh p is (l.getD k 0)) l.length
def Qb (p:Pg) (is:Nat->Ins) (g:Gu) (l:List Int):Int:=if zh g.span≠0 then zh g.span else if jz p is l=true then 5 else if JA l=true then 4 else 0
theorem zd5 {l:List Int}{k:Nat}(hk:k+1<l.length) (h:decide (l.getD (k+1) 0<=l.getD k 0)=true):JA l=true:=
 qg (q:=fun k=>decide (l.getD (k+1) 0<=l.getD k 0)) (k:=k) (by omega) h
theorem zb5 (p:Pg) (is:Nat->Ins) (g:Gu) (l:List Int) (w:World) (hc:zy w p is) (C:zk w g.s l):
  Calls prog 144 #[p.v,g.v] w fun e ar=>e=.returned (.int .i64 (Qb p is g l))∧Below w.heap.size w ar:=by
 have I:=za (show Qb p is g l=if zh g.span≠0 then zh g.span else if jz p is l=true then 5 else if JA l=true then 4 else 0 from rfl);obtain⟨aJ,⟨ai,ah,ag⟩,gt,aI,⟨a0,gk,gc⟩⟩:=g;obtain⟨b,o,al,aj⟩:=C.reads y2;have a4:=C.n;have aM:=C.m;dsimp only at a4 al aj aM I C;subst a4;have aD:=za al;have au:=za aj;have a9:=za hc;have aC:=za C;have aq:=fun ar=>zem ⟨ai,ah,ag⟩ ar
 generalize aK:zh ⟨ai,ah,ag⟩=az at aq I;have ax:=za aq;clear C al aj hc aq aK;have J:=Loc.start w;go_enter func144,ntmps144;go_step;go_step;go_step
 ((with_reducible refine lbx J ?_);clear J;intro U P J)
 ((with_reducible refine lbx J ?_);clear J;intro aH P J)
 by_cases aa:az=0
 case neg=>
  have k0:(az != 0)=true:=by simpa using aa
  have T:=za aa;clear aa;go_wp2_with (first|(with_reducible refine lld J ?_)|(go_at_call 185;refine cg J (ax.out _) ?_;clear J;intro P J;dsimp only));refine rt1 ?_;exact⟨by rw[I.out,if_pos T.out];rfl,J.below⟩
 subst aa;have ad:=za (I.out.trans (if_neg (by omega)));clear I;go_upto_region 4 with(first|(with_reducible refine lld J ?_)|(go_at_call 185;refine cg J (ax.out _) ?_;clear J;intro P J;dsimp only))
 have hcl:=J9 ⟨a0,l.length,gc⟩ l (fun k=>!qh p is (l.getD k 0)) 187 (.pointer (some ⟨U,0,none⟩)) _ (aC.out.grow J.below) ⟨zh1,fun k _ a8 a1=>zaF p is (l.getD k 0) U a8 ((J.readsG (b:=U) (Tv:=27) (off:=0) (v:=p.v) cIn (zn.agg Ga rfl rfl)).grow a1) ((a9.out.grow J.below).grow a1)⟩;rw[show qa (fun k=>!qh p is (l.getD k 0)) l.length=jz p is l from rfl]at hcl;cases t:jz p is l with
 | true=>
  rw[t]at hcl;have R:=za hcl;have H:=za t;clear hcl t;go_wp2_with (first|(with_reducible refine lld J ?_)|(go_at_call 186;((with_reducible refine cg J R.out ?_);clear J;intro P J;dsimp only)));refine rt1 ?_;exact⟨by rw[ad.out,if_pos H.out];rfl,J.below⟩
 | false=>
 rw[t]at hcl;have R:=za hcl;have av:=za (ad.out.trans (if_neg (by rw[t];decide)));clear hcl t ad;go_wp2_with (first|(with_reducible refine lld J ?_)|(go_at_call 186;((with_reducible refine cg J R.out ?_);clear J;intro P J;dsimp only)));clear R;go_loopw [6] (fun c wr=>∃ i:Nat,1<=i∧i<=l.length+1∧c=.int .i64 i∧(∀ j,j+1<i->decide (l.getD (j+1) 0<=l.getD j 0)=false)∧Loc w wr [(aH,108,[.bool aJ,.bool ai,.int .i64 ah,.int .i64 ag,.bool gt,.bool aI,.slice a0 l.length gc]),(U,27,[.int .i64 p.vars,.int .i64 p.fields,.slice p.pc p.n p.cap])] []) (fun c _=>l.length+1 - (intOf c).toNat)
 case atStart=>exact⟨1,by omega,by omega,rfl,fun j ak=>absurd ak (by omega),J⟩
 case round=>
  obtain⟨i,hi1,aO,rfl,a5,J⟩:=hrel;have af:=za a5;clear a5;by_cases a3:i<l.length
  ·have aw:=za (aD.out (by omega))
   obtain⟨k,a2⟩:∃ k,i=k+1:=⟨i - 1,by omega⟩;have an:=au.out i a3;have ao:=au.out k (by omega);have aB:=za (show ((i:Int) - 1)=(k:Int) by omega);have ae:=za a2;have aP:k<l.length:=by omega
   generalize a6:l.getD i 0=x at an;generalize a7:l.getD k 0=y at ao;have T:=za a6;have ay:=za a7;have aE:=za an;have aF:=za ao;clear a6 an a7 ao a2;go_upto_region 9 with(with_reducible refine lld J ?_)
   refine zb [24,25,26,27,28,29,30,31,32,33,34,35] ?_
   iterate 3 refine qdv ?_
   refine qdx aw.out ?_;refine qdl aE.out ?_
   iterate 4 refine qdv ?_
   refine' j2 J ?_ ?_;rotate_left
   ·intro g w aN J _ q;simp only[aG]at q;simp only[fD];simp only[q]
    (simp only[aw.out,aB.out];go_wp2)
    exact cY
   refine qdl aF.out ?_;refine qdv ?_;refine dnd J ?_;clear J;intro a8 J;simp only[zr,sTa,sTb];cases ab:decide (x<=y) with
   | true=>
    have ac:=za (zd5 (l:=l) (k:=k) (by rw[<- ae.out];exact a3) (by rw[<- ae.out,T.out,ay.out];exact ab));clear ab;go_wp2;refine rt1 ?_;exact⟨by rw[av.out,if_pos ac.out];rfl,J.below⟩
   | false=>
    have aA:=za ab;clear ab;go_wp2;go_roundw
    case rel=>
     refine⟨i+1,by omega,by omega,by go_num,fun j ak=>?_,J⟩;rcases Nat.lt_or_ge (j+1) i with h|h
     ·exact af.out j h
     ·have aL:=ae.out
      obtain rfl:j=k:=by omega
      rw[<- aL,T.out,ay.out];exact aA.out
    case measure=>simp[intOf];omega
  ·have ac:=za (show JA l=false from qu fun j ak=>af.out j (by omega))
   clear af;go_wp2_with (with_reducible refine lld J ?_);refine rt1 ?_;exact⟨by rw[av.out,ac.out];rfl,J.below⟩
def Js (l m:List Int) (k:Nat):List Int:=((List.range k).map fun k:Nat=>(k:Int)).filter fun s=>jO l s || jO m s
theorem GC (l m:List Int) (k:Nat):Js l m (k+1)=Js l m k++(bif jO l (k:Int) || jO m (k:Int) then [(k:Int)] else []):=by
 unfold Js;rw[List.range_succ,List.map_append,List.filter_append];cases h:jO l (k:Int) || jO m (k:Int)<;>simp[h]
theorem Vw (l m:List Int) (k:Nat):(Js l m k).length<=k:=by
 unfold Js;exact Nat.le_trans (List.length_filter_le _ _) (by simp)
theorem Vx (l m:List Int):Js l m 60=ZT l m:=rfl
theorem zd6 (l m:List Int):Js l m 0=[]:=rfl
theorem Vy (a8:Bool) (f:zm->zm->zm) (hf:∀ (s t:zm) (w:World),Calls prog 119 #[s.v,t.v,.bool a8] w fun e w'=>e=.returned (f s t).v∧Below w.heap.size w w')
  (g h:Gu) (l m:List Int) (w:World) (a0:zk w g.s l) (a3:zk w h.s m):
  Calls prog 81 #[g.v,h.v,.bool a8] w fun e w'=>∃ r:Sl,e=.returned (Gu.v ⟨g.null || h.null,f g.span h.span,g.tr || h.tr,g.fa || h.fa,r⟩)∧QO w.heap.size w' r (ZT l m)∧Below w.heap.size w w':=by
 have ab:=za (fun (x:Int) w' (i:Below w.heap.size w w')=>VZ g.s l x w' (a0.grow i));have ac:=za (fun (x:Int) w' (i:Below w.heap.size w w')=>VZ h.s m x w' (a3.grow i));have T:=za (fun w'=>hf g.span h.span w');clear a0 a3 hf;obtain⟨al,⟨ao,an,ak⟩,gt,aj,⟨aT,gk,gc⟩⟩:=g;obtain⟨a1,⟨a4,a2,ay⟩,a5,hf,⟨ba,az,aW⟩⟩:=h;dsimp only at ab ac T;generalize aY:f ⟨ao,an,ak⟩ ⟨a4,a2,ay⟩=aS at T ⊢;obtain⟨fn,aR,aQ⟩:=aS;clear aY;have af:=za (GC l m);have ad:=za (Vw l m);have P:=zd6 l m;rw[<- Vx];generalize Js l m=U at af ad P ⊢;have a9:=za P;clear P;have J:=Loc.start w;go_enter func81,ntmps81;go_step;go_step;go_step
 ((with_reducible refine lbx J ?_);clear J;intro aL w1 J)
 ((with_reducible refine lbx J ?_);clear J;intro aM w1 J)
 ((with_reducible refine lal J ?_);clear J;intro aN w1 J)
 go_upto_region 1 with(fail)
 simp only[Act.put,List.setIfInBounds_toArray,List.set_cons_zero,List.set_cons_succ];refine zb [9,10,11,12,13,14,15,16,17,18,19,20,21,22,23,24,25,26,27,28,29,30,31,32,33,7] ?_
 iterate 11 refine qda ?_
 refine' j2 J ?_ ?_;rotate_left
 ·intro g w i J _ q;simp only[aG]at q;simp only[fD];simp only[q]
  go_wp2_with (go_at_call 119;((with_reducible refine(T.out _).mono ?_);rintro e bi ⟨rfl,aV⟩;dsimp only));exact⟨rfl,_,rfl,aV,rfl⟩
 iterate 13 refine qda ?_
 refine qdp ?_;refine qy J ?_;intro g bf i o q;simp only[aG]at q;obtain⟨aK,a6,ai,ah⟩:=qye o 25;clear o;simp only[fD];simp only[q,ai];clear q ai;replace J:=J.gain i a6 ah;clear a6 ah;clear i;simp only[beq_true,beq_false,Bool.not_and,Bool.not_or,Bool.not_not];generalize aw:(al || a1)=bc;have aD:=za aw;clear aw;generalize ax:(gt || a5)=be;have aF:=za ax;clear ax;generalize av:(aj || hf)=aP;have aC:=za av;clear av;go_wp2_with (with_reducible refine zc J ?_;clear J;intro w1 J);go_loopw [8] (fun c wr=>∃ k:Nat,k<=60∧c=.int .i64 k∧∃ (p:Option Addr) (n cap:Nat) (R:List zg),zB 3 1 p n cap ((U k).map (Value.int .i64)) R∧Loc w wr ([(aK,108,[.bool bc,.bool fn,.int .i64 aR,.int .i64 aQ,.bool be,.bool aP,.slice p n cap]),(aN,108,[.bool false,.bool false,.int .i64 0,.int .i64 0,.bool false,.bool false,.slice none 0 0]),(aM,108,[.bool a1,.bool a4,.int .i64 a2,.int .i64 ay,.bool a5,.bool hf,.slice ba az aW]),(aL,108,[.bool al,.bool ao,.int .i64 an,.int .i64 ak,.bool gt,.bool aj,.slice aT gk gc])]++R) []) (fun c _=>60 - (intOf c).toNat)
 case atStart=>exact⟨0,Nat.zero_le _,rfl,none,0,0,[],by rw[a9.out];exact zB.nil,J⟩
 case round=>
  obtain⟨k,az,rfl,p,n,cap,R,o,J⟩:=hrel;simp only[aX]at J;rcases (show k=60∨k<60 by omega) with rfl|bh
  ·go_wp2_with (with_reducible first|refine lld J ?_|(refine zc J ?_;clear J;intro w1 J))
   refine rt1 ?_;exact⟨⟨p,n,cap⟩,by rw[aD.out,aF.out,aC.out],⟨R,o,J.ownOf (List.sublist_append_right [_,_,_,_] _)⟩,J.below⟩
  ·have HR:=za o
   have I:=af.out k;have ae:=za (show n<=60 by
    have bg:=ad.out k;have aU:=HR.out.1;simp at aU;omega)
   clear o;go_upto_region 5 with(fail)
   generalize aq:jO l (k:Int)=x at I;generalize ar:jO m (k:Int)=y at I;have aa:=ab.out (k:Int);have i:=ac.out (k:Int);rw[aq]at aa;rw[ar]at i;have aA:=za aa;have aB:=za i;have C:=za I;clear aq ar aa i I;refine zx [38,39,40,41,42,43,44,45,46,47] ?_
   iterate 3 refine qdv ?_
   refine qdk J (fun _ i J=>aA.out _ J.below) ?_
   iterate 4 refine qda ?_
   refine yu J (fun _ i J=>aB.out _ J.below) ?_;refine qdv ?_;refine dns J ?_;clear J;intro bf J;simp only[zr,sTa,sTb];simp only[beq_true,beq_false,Bool.not_and,Bool.not_or,Bool.not_not];generalize (x || y)=z at C ⊢;cases z with
   | true=>
    go_wp2_with (first|(at_builtin;refine zF (K:=_::_::_::_::_::[]) (R:=R) (news:=[.int .i64 (k:Int)]) HR.out J rfl rfl rfl V4 zfY (by decide) rfl ?_ rfl ?_ ?_ ?_ ?_;(case refine_1=>exact fun _=>⟨⟨ag,0,none⟩,rfl,fun j u aZ=>by rw[zG,Nat.zero_add];exact(J.cell (b:=ag) cIn j).trans aZ⟩);(case refine_2=>simp[Value.oneCell']);(case refine_3=>(have:=ae.out;show n+1<=9223372036854775807;omega));(case refine_4=>(have:=ae.out;omega));clear J;intro bd aO aI bj au J;simp only[aX]at J;have aE:=za au;clear au)|(with_reducible first|refine lld J ?_|(refine lbs J ?_;clear J;intro ag w1 J)|(refine zc J ?_;clear J;intro w1 J)));go_roundw
    case rel=>exact⟨k+1,by omega,by go_num,bd,n+1,aO,aI,by rw[C.out,List.map_append];exact aE.out,J.drop (List.sublist_cons_self _ _) (fun _ h=>h)⟩
    case measure=>simp[intOf];omega
   | false=>
    have aH:=za (C.out.trans (List.append_nil _));clear C;go_wp2;go_roundw
    case rel=>exact⟨k+1,by omega,by go_num,p,n,cap,R,by rw[aH.out];exact HR.out,J⟩
    case measure=>simp[intOf];omega
structure yH (g:Gu) (l:List Int):Prop where
 span:zh g.span=0
 n:g.s.n=l.length
 ins:inS l
 asc:Zr l
 le:l.length<=60
theorem ziG {l:List Int}(i:inS l) (j:Zr l):l.length<=60:=by
 have g:=Ya (m:=[]) i (fun x o=>by cases o);rw[U7 j]at g;rw[g,<- Vx];exact Vw _ _ _
theorem yH.of {p:Pg}{is:Nat->Ins}{g:Gu}{l:List Int}(h:Qb p is g l=0) (t:zf p is=0) (hn:g.s.n=l.length):yH g l:=by
 unfold Qb at h;by_cases i:zh g.span=0
 ·rw[if_neg (by omega)]at h
  by_cases j:jz p is l=true
  ·rw[if_pos j]at h;omega
  ·rw[if_neg j]at h
   by_cases C:JA l=true
   ·rw[if_pos C]at h;omega
   ·have I:Zr l:=zdj (by simpa using C)
    have P:inS l:=by
     intro x aa;obtain⟨k,R,U⟩:=List.mem_iff_getElem.1 aa;have o:(!qh p is (l.getD k 0))=false:=by
      cases T:(!qh p is (l.getD k 0)) with
      | false=>rfl
      | true=>exact absurd (qg (q:=fun k=>!qh p is (l.getD k 0)) R T) j
     rw[List.getD_eq_getElem?_getD,List.getElem?_eq_getElem R]at o;simp only[Option.getD_some,U]at o;have ab:p.n<=60:=by
      unfold zf at t;split at t
      ·omega
      ·split at t
       ·omega
       ·omega
     simp[qh]at o;omega
    exact⟨i,hn,P,I,ziG P I⟩
 ·rw[if_pos i]at h
  exact absurd h i
theorem XO {s:zm}(h:zh s=0):both s zA=s:=by
 obtain⟨_,_,g⟩:=zu h;obtain⟨n,j,i⟩:=s;cases n with
 | true=>
  obtain⟨rfl,rfl⟩:=g rfl;rfl
 | false=>rfl
theorem zb6 (l m:List Int) (h:l=[]):Jr l m=false:=by
 subst h;rfl
theorem Vz (g:Gu):KI g=true↔(g.s.n=0∧KH g.null (!g.span.none) g.tr g.fa=1∧g.span.lo=g.span.hi):=by
 have j:0<=KH g.null g.tr g.fa (!g.span.none):=by
  unfold KH Ui;cases g.null<;>cases g.tr<;>cases g.fa<;>cases g.span.none<;>decide
 have i:KH g.null (!g.span.none) g.tr g.fa=KH g.null g.tr g.fa (!g.span.none):=by
  unfold KH;omega
 rw[i];simp only[KI,Bool.and_eq_true,beq_iff_eq];omega
theorem VA (g:Gu) (h:KI g=false):jX g=-1:=by
 have i:=Vz g;rw[h]at i;unfold jX;have:(KH g.null (!g.span.none) g.tr g.fa != 1 || decide (0<g.s.n) || g.span.lo != g.span.hi)=true:=by
  simp only[Bool.or_eq_true,bne_iff_ne,decide_eq_true_eq,ne_eq];have o:¬ (g.s.n=0∧KH g.null (!g.span.none) g.tr g.fa=1∧g.span.lo=g.span.hi):=fun j=>by
   have:=i.2 j;cases this
  omega
 rw[this];rfl
theorem VB (g:Gu) (h:KI g=true):jX g=y1 (q0 g.null (!g.span.none) g.tr g.fa) 4∧KH g.null (!g.span.none) g.tr g.fa=1∧g.s.n=0∧g.span.lo=g.span.hi:=by
 obtain⟨i,j,o⟩:=(Vz g).1 h;refine⟨?_,j,i,o⟩;unfold jX;rw[j,i,o];simp
theorem K7 {a b c d:Bool}(h:KH a b c d=1):(a=true∧b=false∧c=false∧d=false∧y1 (q0 a b c d) 4=0)∨(a=false∧b=true∧c=false∧d=false∧y1 (q0 a b c d) 4=1)∨(a=false∧b=false∧c=true∧d=false∧y1 (q0 a b c d) 4=2)∨(a=false∧b=false∧c=false∧d=true∧y1 (q0 a b c d) 4=3):=by
 cases a<;>cases b<;>cases c<;>cases d<;>first|(exact absurd h (by decide))|(simp[y1,q0])
theorem zgN {g h:Gu}{l m:List Int}(af:yH g l) (ao:yH h m):Za g h l m=ZB g h:=by
 unfold Za ZB;cases ac:KI g with
 | false=>simp[VA g ac]
 | true=>
  obtain⟨ag,ab,ar,ak⟩:=VB g ac;cases ad:KI h with
  | false=>
   have:jX h=-1:=VA h ad;rcases K7 ab with⟨_,_,_,_,i⟩|⟨_,_,_,_,i⟩|⟨_,_,_,_,i⟩|⟨_,_,_,_,i⟩<;>simp[this,ag,i]
  | true=>
   obtain⟨au,aj,a6,al⟩:=VB h ad;have aq:l=[]:=List.eq_nil_of_length_eq_zero (by rw[<- af.n];exact ar);rw[ag,au];unfold yG;rw[zb6 l m aq];obtain⟨_,_,ah⟩:=zu af.span;obtain⟨_,_,ai⟩:=zu ao.span;obtain⟨ax,⟨ay,U,aw⟩,gt,av,az⟩:=g;obtain⟨a2,⟨a3,aa,a1⟩,a5,a0,a4⟩:=h;dsimp only at *;subst ak al;rcases K7 ab with⟨p,j,t,C,i⟩|⟨p,j,t,C,i⟩|⟨p,j,t,C,i⟩|⟨p,j,t,C,i⟩<;>
   rcases K7 aj with⟨I,o,P,R,T⟩|⟨I,o,P,R,T⟩|⟨I,o,P,R,T⟩|⟨I,o,P,R,T⟩<;>
   (rw[i,T];simp only[Bool.not_eq_false',Bool.not_eq_true']at j o;subst p j t C I o P R;simp at ah ai;simp[q4,ah,ai])
   by_cases ae:U=aa
   ·subst ae;simp
   ·have an:min U aa<max U aa:=by omega
    rw[if_pos an];simp[ae]
def Zq (e:Int) (f:Nat->Int):Nat->Int
 | 0=>e
 | n+1=>if Zq e f n≠0 then Zq e f n else f n
theorem JT {e:Int}{f:Nat->Int}{k n:Nat}(hk:k<=n) (h:Zq e f k≠0):Zq e f n=Zq e f k:=by
 induction n with
 | zero => obtain rfl : k = 0 := by omega
           rfl
 | succ n ih=>
  rcases Nat.lt_or_ge n k with g|g
  ·obtain rfl:k=n+1:=by omega
   rfl
  ·rw[Zq,ih g,if_pos h]
theorem Z5 {e:Int}{f:Nat->Int}{k:Nat}(h:Zq e f k=0):Zq e f (k+1)=f k:=by
 rw[Zq,if_neg (by rw[h];decide)]
theorem zfk (a:zm) (w:World):(binOp .eql 106 (.agg #[.bool a.none,.int .i64 a.lo,.int .i64 a.hi]) (.agg #[.bool a.none,.int .i64 a.lo,.int .i64 a.hi])).run prog w=.ok (.bool true) w:=by
 go_simp
theorem zb7 (x y:Operand) (a b:zm) (w:World):(eqGuard .eql 106 x y (.agg #[.bool a.none,.int .i64 a.lo,.int .i64 a.hi]) (.agg #[.bool b.none,.int .i64 b.lo,.int .i64 b.hi])).run prog w=.ok () w:=by
 go_simp
theorem zaK {ops:Array Oper}{Q:Exit->Act->World->Prop}{g:Act}{w:World}{rest:List Oper}{d:Option Tmp}{ty u:TypeId}{pos:String}{after:Array Edge}{x y:Operand}{a:zm}(ha:g.eval x=a.v) (hb:g.eval y=a.v)
  (h:wpList prog ops Q rest (g.put d (.bool true)) w):wpList prog ops Q (⟨d,.binOp .eql 106 x y u,ty,pos,after,none⟩::rest) g w:=by
 refine YK (w':=w) ?_ ?_ h
 ·rw[ha,hb];exact zb7 x y a a w
 ·rw[ha,hb];exact zfk a w
abbrev zI:Gu:=⟨false,zaf,false,false,zi⟩
theorem VC (r:Res) (s t:Sl) (w:World) (o:zk w s r.l) (ht:zk w t r.l):
  Calls prog 112 #[(r.gu s).v,(r.gu t).v] w fun e g=>e=.returned (.bool true)∧Below w.heap.size w g:=by
 have i:=za (fun g (j:Below w.heap.size w g)=>VY r.l▸KF s t r.l r.l g (o.grow j) (ht.grow j));clear o ht;obtain⟨U,⟨I,C,p⟩,af,T,l⟩:=r;dsimp only[Res.gu]at i ⊢;obtain⟨sp,aa,ab⟩:=s;obtain⟨ae,ac,ad⟩:=t;have J:=Loc.start w;go_enter func112,ntmps112;go_wp2_with (first|(with_reducible first|refine lld J ?_|(refine lbx J ?_;clear J;intro R P J)|refine zaK (a:=⟨I,C,p⟩) rfl rfl ?_)|(go_at_call 167;refine cg J (i.out _ J.below) ?_;clear J;intro P J;dsimp only));refine rt1 ?_;exact⟨rfl,J.below⟩
abbrev zo:Res:=⟨false,zaf,false,false,[]⟩
theorem XP {k:Int}{g h:Gu}{l m:List Int}(hz:(qb g || (!(k==10 || k==4)&&qb h))=true):qL k g h l m=(ziF,false):=if_pos hz
theorem zc8 {k:Int}{g h:Gu}(hz:¬ (qb g || (!(k==10 || k==4)&&qb h))=true):qb g=false∧(k≠10->k≠4->qb h=false):=by
 cases i:qb g<;>cases j:qb h<;>simp_all
theorem kinds {k:Int}(hk:zU k 4 10=true):k=4∨k=10∨k=9∨k=8∨(k=5∨k=6∨k=7):=by
 simp[zU]at hk;omega
theorem zfl (k:Int) (g h:Gu) (l m:List Int) (w:World) (hk:zU k 4 10=true) (C:yH g l) (I:yH h m) (R:zk w g.s l) (T:zk w h.s m):
  Calls prog 165 #[.int .i64 k,g.v,h.v] w fun e p=>∃ r:Sl,e=.returned (.tuple #[((qL k g h l m).1.gu r).v,.bool (qL k g h l m).2])∧QO w.heap.size p r (qL k g h l m).1.l∧Below w.heap.size w p:=by
 have aa:=C.le;have ab:=I.le;by_cases o:(qb g || (!(k==10 || k==4)&&qb h))=true
 ·rw[XP o]
  exact(zfe k g h o w).mono fun e p ⟨i,j⟩=>⟨zi,i,QO.nil,j⟩
 ·obtain⟨t,P⟩:=zc8 o
  rcases kinds hk with rfl|rfl|rfl|rfl|U
  ·rw[show qL 4 g h l m=_ from (if_neg o).trans (if_pos rfl)]
   exact zd1 g h l w R (by omega) t
  ·rw[show qL 10 g h l m=_ from (if_neg o).trans ((if_neg (by decide)).trans (if_pos rfl))]
   exact(zff g h w t).mono fun e p ⟨i,j⟩=>⟨zi,i,QO.nil,j⟩
  ·rw[show qL 9 g h l m=_ from (if_neg o).trans ((if_neg (by decide)).trans ((if_neg (by decide)).trans (if_pos rfl)))]
   exact(zd2 g h l m w R T (by omega) (by omega) t (P (by decide) (by decide))).mono fun e p ⟨i,j⟩=>⟨zi,i,QO.nil,j⟩
  ·rw[show qL 8 g h l m=_ from (if_neg o).trans ((if_neg (by decide)).trans ((if_neg (by decide)).trans (if_neg (by decide))))]
   exact(zaI 8 (by decide) g h (zu C.span).1 (zu I.span).1 w t (P (by decide) (by decide))).mono fun e p ⟨i,j⟩=>⟨zi,by rw[i,Gu.res,<- GA 8 g h],QO.nil,j⟩
  ·rw[show qL k g h l m=_ from (if_neg o).trans ((if_neg (by omega)).trans ((if_neg (by omega)).trans (if_neg (by omega))))]
   exact(zaI k (by omega) g h (zu C.span).1 (zu I.span).1 w t (P (by omega) (by omega))).mono fun e p ⟨i,j⟩=>⟨zi,by rw[i,Gu.res,<- GA k g h],QO.nil,j⟩
theorem GD (k:Int) (g h:Gu) (l m:List Int) (w:World) (hk:zU k 4 10=true) (t:yH g l) (I:yH h m) (T:zk w g.s l) (U:zk w h.s m):
  Calls prog 82 #[.int .i64 k,g.v,h.v] w fun e p=>∃ r:Sl,e=.returned (.tuple #[((qL k g h l m).1.gu r).v,.bool (qL k g h l m).2])∧(r=g.s∧(qL k g h l m).1.l=l∨r=zi∧(qL k g h l m).1.l=[])∧Below w.heap.size w p:=by
 have aa:=t.le;have ab:=I.le;by_cases o:(qb g || (!(k==10 || k==4)&&qb h))=true
 ·rw[XP o]
  exact(zgL k g h o w).mono fun e p ⟨i,j⟩=>⟨zi,i,.inr ⟨rfl,rfl⟩,j⟩
 ·obtain⟨C,P⟩:=zc8 o
  rcases kinds hk with rfl|rfl|rfl|rfl|R
  ·rw[show qL 4 g h l m=_ from (if_neg o).trans (if_pos rfl),XO t.span,U7 t.asc]
   exact(zfg g h w C).mono fun e p ⟨i,j⟩=>⟨g.s,i,.inl ⟨rfl,rfl⟩,j⟩
  ·rw[show qL 10 g h l m=_ from (if_neg o).trans ((if_neg (by decide)).trans (if_pos rfl))]
   exact(zgM g h w C).mono fun e p ⟨i,j⟩=>⟨zi,i,.inr ⟨rfl,rfl⟩,j⟩
  ·rw[show qL 9 g h l m=_ from (if_neg o).trans ((if_neg (by decide)).trans ((if_neg (by decide)).trans (if_pos rfl)))]
   exact(zfj g h l m w T U C (P (by decide) (by decide))).mono fun e p ⟨i,j⟩=>⟨zi,by rw[i,zgN t I],.inr ⟨rfl,rfl⟩,j⟩
  ·rw[show qL 8 g h l m=_ from (if_neg o).trans ((if_neg (by decide)).trans ((if_neg (by decide)).trans (if_neg (by decide))))]
   exact(zfi g h w C (P (by decide) (by decide))).mono fun e p ⟨i,j⟩=>⟨zi,by rw[i,Gu.res,<- GA 8 g h],.inr ⟨rfl,rfl⟩,j⟩
  ·rw[show qL k g h l m=_ from (if_neg o).trans ((if_neg (by omega)).trans ((if_neg (by omega)).trans (if_neg (by omega))))]
   exact(zfh k R g h t.span I.span w C (P (by omega) (by omega))).mono fun e p ⟨i,j⟩=>⟨zi,by rw[i,Gu.res,<- GA k g h],.inr ⟨rfl,rfl⟩,j⟩
def QE {g:Type}(a b:g) (k:Nat):g:=if k=0 then a else b
def qr:List Int->Int
 | []=>0
 | e::l=>if e=0 then qr l else e
theorem JD (l m:List Int):qr (l++m)=if qr l=0 then qr m else qr l:=by
 induction l with
 | nil=>simp[qr]
 | cons e l ih=>
  by_cases h:e=0
  ·simp[qr,h,ih]
  ·simp[qr,h]
theorem zaL {l:List Int}(h:qr l=0) (e:Int):qr (l++[e])=e:=by
 rw[JD,if_pos h];by_cases g:e=0
 ·simp[qr,g]
 ·simp[qr,g]
theorem zaM {l:List Int}(h:qr l≠0) (m:List Int):qr (l++m)=qr l:=by rw[JD,if_neg h]
theorem zaN {i:Type}(f:i->Int) (g:List (List i)):qr (g.map fun l=>qr (l.map f))=qr (g.flatten.map f):=by
 induction g with
 | nil=>rfl
 | cons l g ih=>
  rw[List.flatten_cons,List.map_append,JD,List.map_cons,<- ih];rfl
theorem yR {g:Type}(l:List g) (k:Nat) (d:g) (h:k<l.length):l.take (k+1)=l.take k++[l.getD k d]:=by
 rw[List.take_add_one,List.getElem?_eq_getElem h,List.getD_eq_getElem?_getD,List.getElem?_eq_getElem h];rfl
theorem ZC {g:Type}(f:g->Int) (l:List g) (d:g) {k:Nat}(hk:k<l.length) (h:qr ((l.take k).map f)=0):qr ((l.take (k+1)).map f)=f (l.getD k d):=by
 rw[yR l k d hk,List.map_append];exact zaL h _
theorem Kr {g:Type}(f:g->Int) (l:List g) {k:Nat}(h:qr ((l.take k).map f)≠0):qr (l.map f)=qr ((l.take k).map f):=by
 conv=>lhs;rw[<- List.take_append_drop k l,List.map_append]
 exact zaM h _
structure qR (w:World) (s:Sl) (ds:List Res):Prop where
 n:s.n=ds.length
 m:s.n<=9223372036854775807
 ex:∃ ss:Nat->Sl,zZ w 7 s.p s.n (fun k=>((ds.getD k zo).gu (ss k)).cells)∧∀ k,k<s.n->zk w (ss k) (ds.getD k zo).l
theorem qR.grow {w w' : World}{s:Sl}{ds:List Res}(h:qR w s ds) (hb:Below w.heap.size w w'):qR w' s ds:=by
 obtain⟨g,i,t,j,o⟩:=h;exact⟨g,i,t,j.grow hb,fun k p=>(o k p).grow hb⟩
theorem qR.zero (w:World) (x:Option Addr) (z:Nat):qR w ⟨x,0,z⟩ []:=
 ⟨rfl,Nat.zero_le _,fun _=>zi,⟨yo rfl,0,0,fun h=>absurd h (Nat.lt_irrefl 0),fun k g=>absurd g (Nat.not_lt_zero k)⟩,fun k g=>absurd g (Nat.not_lt_zero k)⟩
structure j3 (w:World) (s:Sl) (dss:List (List Res)):Prop where
 n:s.n=dss.length
 m:s.n<=9223372036854775807
 ex:∃ rs:Nat->Sl,zZ w 1 s.p s.n (fun k=>[.slice (rs k).p (rs k).n (rs k).cap])∧∀ k,k<s.n->qR w (rs k) (dss.getD k [])
theorem j3.grow {w w' : World}{s:Sl}{g:List (List Res)}(h:j3 w s g) (hb:Below w.heap.size w w'):j3 w' s g:=by
 obtain⟨i,j,C,o,p⟩:=h;exact⟨i,j,C,o.grow hb,fun k t=>(p k t).grow hb⟩
theorem j3.zero (w:World) (x:Option Addr) (z:Nat):j3 w ⟨x,0,z⟩ []:=
 ⟨rfl,Nat.zero_le _,fun _=>zi,⟨yo rfl,0,0,fun h=>absurd h (Nat.lt_irrefl 0),fun k g=>absurd g (Nat.not_lt_zero k)⟩,fun k g=>absurd g (Nat.not_lt_zero k)⟩
structure Pv where
 none:Bool
 vars:Sl
 fields:Sl
abbrev Pv.cells (x:Pv):List Value:=[.bool x.none,.slice x.vars.p x.vars.n x.vars.cap,.slice x.fields.p x.fields.n x.fields.cap]
abbrev Pv.v (x:Pv):Value:=.agg #[.bool x.none,.slice x.vars.p x.vars.n x.vars.cap,.slice x.fields.p x.fields.n x.fields.cap]
abbrev Ks:Pv:=⟨false,zi,zi⟩
structure Pd where
 none:Bool
 vars:List Res
 fields:List (List Res)
abbrev zC:Pd:=⟨true,[],[]⟩
abbrev Qc:Pd:=⟨false,[],[]⟩
abbrev Pd.var (d:Pd) (k:Nat):Res:=d.vars.getD k zo
abbrev Pd.row (d:Pd) (k:Nat):List Res:=d.fields.getD k []
abbrev Pd.field (d:Pd) (k j:Nat):Res:=(d.fields.getD k []).getD j zo
structure zq (w:World) (x:Pv) (d:Pd):Prop where
 e:x.none=d.none
 vars:qR w x.vars d.vars
 fields:j3 w x.fields d.fields
 m:x.vars.n+x.fields.n<=9223372036854775807
theorem zq.grow {w w' : World}{x:Pv}{d:Pd}(h:zq w x d) (hb:Below w.heap.size w w'):zq w' x d:=⟨h.e,h.vars.grow hb,h.fields.grow hb,h.m⟩
theorem zq.zero (w:World):zq w Ks Qc:=⟨rfl,qR.zero w _ _,j3.zero w _ _,Nat.zero_le _⟩
def qD (d:Res):Bool:=!d.null&&d.span.none && !d.tr && !d.fa&&(d.l.length:Int)==0
theorem QT {d:Res}{s:Sl}(h:s.n=d.l.length):qb (d.gu s)=qD d:=by
 show (!d.null&&d.span.none && !d.tr && !d.fa&&(s.n:Int)==0)=_
 rw[h];rfl
abbrev q9 (p:Pg) (is:Nat->Ins) (d:Res):Int:=Qb p is (d.gu zi) d.l
def GE (p:Pg) (is:Nat->Ins) (ds:List Res):Int:=qr (ds.map (q9 p is))
def Jt (p:Pg) (is:Nat->Ins) (g:List (List Res)):Int:=qr (g.map (GE p is))
theorem Q4 (p:Pg) (is:Nat->Ins) (g:List (List Res)):Jt p is g=qr (g.flatten.map (q9 p is)):=zaN _ _
def QF (ds:List Res):Bool:=qa (fun k=>!qD (ds.getD k zo)) ds.length
def Zb (p:Pg) (is:Nat->Ins) (g:List (List Res)):Bool:=qa (fun i=>!qh p is i&&QF (g.getD i [])) g.length
def Q5 (p:Pg) (d:Pd):Bool:=(d.vars.length:Int) != p.vars || (d.fields.length:Int) != p.n || qa (fun g=>((d.row g).length:Int) != p.fields) d.fields.length
def zE (p:Pg) (is:Nat->Ins) (d:Pd):Int:=
 if d.none=true then (if 0<d.vars.length+d.fields.length then 1 else 0)
 else if Q5 p d=true then 1
 else if Jt p is (d.vars::d.fields)≠0 then Jt p is (d.vars::d.fields)
 else if Zb p is d.fields=true then 4 else 0
theorem jb (g:Gu):(Gu.cells g).length=7:=rfl
theorem ziH {l:List Gu}:∀ u∈l.flatMap Gu.cells,u.oneCell'=true:=by
 intro u i;obtain⟨x,_,g⟩:=List.mem_flatMap.1 i;simp only[Gu.cells,List.mem_cons,List.not_mem_nil,or_false]at g;rcases g with rfl|rfl|rfl|rfl|rfl|rfl|rfl<;>rfl
structure ql (w:World) (g:Gu) (d:Res):Prop where
 e:g=d.gu g.s
 l:zk w g.s d.l
theorem ql.mk' {w:World}{s:Sl}{d:Res}(h:zk w s d.l):ql w (d.gu s) d:=⟨rfl,h⟩
theorem ql.grow {w w' : World}{g:Gu}{d:Res}(h:ql w g d) (hb:Below w.heap.size w w'):ql w' g d:=⟨h.e,h.l.grow hb⟩
structure zN (w:World) (gl:List Gu) (ds:List Res):Prop where
 len:gl.length=ds.length
 at' : ∀ k,k<ds.length->ql w (gl.getD k zI) (ds.getD k zo)
theorem zN.grow {w w' : World}{gl:List Gu}{ds:List Res}(h:zN w gl ds) (hb:Below w.heap.size w w'):zN w' gl ds:=⟨h.len,fun k g=>(h.at' k g).grow hb⟩
theorem zN.nil (w:World):zN w [] []:=⟨rfl,fun k g=>absurd g (Nat.not_lt_zero k)⟩
theorem QU {g:Type}{l m:List g}{d:g}{k:Nat}(h:k<l.length):(l++m).getD k d=l.getD k d:=by
 simp[List.getD_eq_getElem?_getD,List.getElem?_append_left h]
theorem yN {g:Type}{l m:List g}{d:g}{k:Nat}(h:l.length<=k):(l++m).getD k d=m.getD (k - l.length) d:=by
 simp[List.getD_eq_getElem?_getD,List.getElem?_append_right h]
theorem zN.append {w:World}{gl i:List Gu}{ds es:List Res}(h:zN w gl ds) (j : zN w i es):zN w (gl++i) (ds++es):=by
 refine⟨by rw[List.length_append,List.length_append,h.len,j.len],fun k o=>?_⟩;rw[List.length_append]at o;rcases Nat.lt_or_ge k ds.length with g|g
 ·rw[QU (by rw[h.len];exact g),QU g]
  exact h.at' k g
 ·rw[yN (by rw[h.len];exact g),yN g,h.len]
  exact j.at' _ (by omega)
theorem zN.one {w:World}{g:Gu}{d:Res}(h:ql w g d):zN w [g] [d]:=by
 refine⟨rfl,fun k i=>?_⟩;obtain rfl:k=0:=by simpa using i
 exact h
theorem qR.gus {w:World}{s:Sl}{ds:List Res}(h:qR w s ds):∃ j,zN w j ds∧zZ w 7 s.p s.n (fun k=>Gu.cells (j.getD k zI)):=by
 obtain⟨i,t,C⟩:=h.ex;have o:∀ k,k<s.n->((List.range s.n).map fun k=>(ds.getD k zo).gu (i k)).getD k zI=(ds.getD k zo).gu (i k):=fun k g=>zV _ _ _ _ g
 refine⟨(List.range s.n).map fun k=>(ds.getD k zo).gu (i k),⟨by simp[h.n],fun k g=>?_⟩,t.congr fun k g=>by rw[o k g]⟩;rw[o k (by rw[h.n];exact g)];exact ql.mk' (C k (by rw[h.n];exact g))
theorem zN.row {w:World}{B:Nat}{p:Option Addr}{n cap:Nat}{gl:List Gu}{ds:List Res}{R:List zg}(h:zN w gl ds) (j:zB 108 7 p n cap (gl.flatMap Gu.cells) R) (t:Own B w R):qR w ⟨p,n,cap⟩ ds:=by
 obtain⟨g,o⟩:=j.listC jb zI (by decide) t;refine⟨g.trans h.len,j.max,fun k=>(gl.getD k zI).s,o.congr fun k i=>?_,fun k i=>(h.at' k (by rw[<- h.len,<- g];exact i)).l⟩;rw[<- (h.at' k (by rw[<- h.len,<- g];exact i)).e]
end Go.Proofs.YtplcndmdkabmeaaGreatDoor
