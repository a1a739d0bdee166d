/- The walks over step.truly, step.falsely, and what they make of a guess. Conditions: none. | Steps of pictures, as data. Conditions: none. | The walk over the stepper's edge. Conditions: the picture is right and of runs. | The walks over the stepper's set and the function that it hands to edge. Conditions: the index that a right program has. | The walks over step.with and the stepper's plain. Conditions: none. | The walks over the stepper's plain and its function. Conditions: one of the plain kinds. | The walks over the stepper's when and its function. Conditions: the picture is right and of runs; the index that a right program has. | The walks over create's inner functions: a guess of one new thing. Conditions: what they read lies in memory that was there. -/
import Derived.Test.YtplcndmdkabmeaaGreatDoorGua
import Derived.Test.YtplcndmdkabmeaaGreatDoorPicc
import Derived.Test.YtplcndmdkabmeaaGreatDoorGue
import Derived.Test.YtplcndmdkabmeaaGreatDoorEnd0
set_option linter.unusedSimpArgs false
set_option linter.unusedVariables false
set_option maxRecDepth 100000
set_option maxHeartbeats 4000000
namespace Go.Proofs.YtplcndmdkabmeaaGreatDoor
open Go.RowKit
theorem zfe (a b:zq) (w:World):(binOp .eql 106 (.agg #[.bool a.none,.int .i64 a.lo,.int .i64 a.hi]) (.agg #[.bool b.none,.int .i64 b.lo,.int .i64 b.hi])).run Tryz.prog w=.ok (.bool (a.none==b.none&&a.lo==b.lo&&a.hi==b.hi)) w:=by
 cases h1:(a.none==b.none)<;>cases h2:(a.lo==b.lo)<;>cases h3:(a.hi==b.hi)
 all_goals
  go_simp
  try simp_all
theorem zcM (x y:Operand) (a b:zq) (w:World):(eqGuard .eql 106 x y (.agg #[.bool a.none,.int .i64 a.lo,.int .i64 a.hi]) (.agg #[.bool b.none,.int .i64 b.lo,.int .i64 b.hi])).run Tryz.prog w=.ok () w:=by
 go_simp
theorem QB {ops:Array Oper}{Q:Exit→Act→World→Prop}{act:Act}{w:World}{rest:List Oper}{d:Option Tmp}{ty u:TypeId}{pos:String}{after:Array Edge}{x y:Operand}{a b:zq}{r:Bool}(ha:act.eval x=a.v) (hb:act.eval y=b.v) (hr:(a.none==b.none&&a.lo==b.lo&&a.hi==b.hi)=r)
  (h:wpList Tryz.prog ops Q rest (act.put d (.bool r)) w):wpList Tryz.prog ops Q (⟨d,.binOp .eql 106 x y u,ty,pos,after,none⟩::rest) act w:=by
 subst hr
 refine zdP (w':=w) ?_ ?_ h
 ·rw[ha,hb];exact zcM x y a b w
 ·rw[ha,hb];exact zfe a b w
def jt (s:zq):zq:=if (s.none==false&&s.lo==0&&s.hi==0)=true then zC else if (!s.none&&s.lo==0)=true then ⟨s.none,1,s.hi⟩ else if (!s.none&&s.hi==0)=true then ⟨s.none,s.lo,-1⟩ else s
abbrev Zs (g:Gu):Gu:=⟨false,jt g.span,g.tr,false,g.s⟩
abbrev Kn (g:Gu):Gu:=⟨g.null,ji g.span ⟨false,0,0⟩,false,g.fa,zn⟩
theorem Xr (g:Gu) (w:World):Calls Tryz.prog 160 #[g.v] w fun e w'=>e=.returned (Zs g).v∧Below w.heap.size w w':=by
 obtain⟨nl,⟨sn,slo,shi⟩,tr,fa,⟨sp,sc,scap⟩⟩:=g
 have HF:=Lib.hid (show Zs ⟨nl,⟨sn,slo,shi⟩,tr,fa,⟨sp,sc,scap⟩⟩=⟨false,if (sn==false&&slo==0&&shi==0)=true then zC else if (!sn&&slo==0)=true then ⟨sn,1,shi⟩ else if (!sn&&shi==0)=true then ⟨sn,slo,-1⟩ else ⟨sn,slo,shi⟩,tr,false,⟨sp,sc,scap⟩⟩ from rfl)
 cases h1:(sn==false&&slo==0&&shi==0) with
 | true=>
  rw[h1,if_pos rfl]at HF
  have H1:=Lib.hid h1
  clear h1
  have hL:=Loc.start w
  go_enter Tryz.func160,Tryz.ntmps160
  go_upto_region 2 with(first|(with_reducible first|refine lld hL ?_|((first|refine lbx hL ?_|refine lal hL ?_|refine lbs hL ?_);clear hL;intro bl w1 hL)|(refine zd hL ?_;clear hL;intro w1 hL)))
  refine zf [6,7,8,9,5] ?_
  refine dv0 ?_
  refine dv1 0 ?_
  apply zb
  ·intro g w hb G;replace hL:=hL.grow hb;clear G;simp only[za,fLa,fLb,sTa,sTb]
   go_wp2_with (go_at_call 106;refine(yL _ _ _).mono ?_;rintro e w3 ⟨rfl,hb3⟩;dsimp only)
   exact⟨rfl,_,rfl,(by assumption),rfl⟩
  simp only[apN,apC]
  apply zb
  ·intro g w hb G;replace hL:=hL.grow hb;have d1:=yv G 1;have d2:=yv G 2;clear G;simp only[za,fLa,fLb,sTa,sTb];simp only[d1,d2]
   refine QB (a:=⟨sn,slo,shi⟩) (b:=⟨false,0,0⟩) rfl rfl H1.out ?_;go_wp2
   exact cY
  simp only[apN,apC]
  refine dv1 3 ?_
  refine dnd hL ?_
  clear hL;intro w2 hL;simp only[zV,sTa,sTb]
  go_wp2_with (first|(with_reducible first|refine lld hL ?_|((first|refine lbx hL ?_|refine lal hL ?_|refine lbs hL ?_);clear hL;intro bl w1 hL)|(refine zd hL ?_;clear hL;intro w1 hL))|(go_at_call 181;refine(Zc _).mono ?_;rintro e w1 ⟨rfl,hb⟩;replace hL:=hL.grow hb;clear hb;dsimp only))
  (try simp only[Exit.inBlock,Exit.then]);refine rt1 ?_
  exact⟨by rw[HF.out],hL.below⟩
 | false=>
  rw[h1,if_neg (by decide)]at HF
  have H1:=Lib.hid h1
  clear h1
  cases sn with
  | true=>
   have HF2:=Lib.hid (show Zs ⟨nl,⟨true,slo,shi⟩,tr,fa,⟨sp,sc,scap⟩⟩=⟨false,⟨true,slo,shi⟩,tr,false,⟨sp,sc,scap⟩⟩ from HF.out.trans rfl)
   clear HF
   have hL:=Loc.start w
   go_enter Tryz.func160,Tryz.ntmps160
   go_upto_region 2 with(first|(with_reducible first|refine lld hL ?_|((first|refine lbx hL ?_|refine lal hL ?_|refine lbs hL ?_);clear hL;intro bl w1 hL)|(refine zd hL ?_;clear hL;intro w1 hL)))
   refine zf [6,7,8,9,5] ?_
   refine dv0 ?_
   refine dv1 0 ?_
   apply zb
   ·intro g w hb G;replace hL:=hL.grow hb;clear G;simp only[za,fLa,fLb,sTa,sTb]
    go_wp2_with (go_at_call 106;refine(yL _ _ _).mono ?_;rintro e w3 ⟨rfl,hb3⟩;dsimp only)
    exact⟨rfl,_,rfl,(by assumption),rfl⟩
   simp only[apN,apC]
   apply zb
   ·intro g w hb G;replace hL:=hL.grow hb;have d1:=yv G 1;have d2:=yv G 2;clear G;simp only[za,fLa,fLb,sTa,sTb];simp only[d1,d2]
    refine QB (a:=⟨true,slo,shi⟩) (b:=⟨false,0,0⟩) rfl rfl H1.out ?_;go_wp2
    exact cY
   simp only[apN,apC]
   refine dv1 3 ?_
   refine dnd hL ?_
   clear hL;intro w2 hL;simp only[zV,sTa,sTb]
   go_wp2_with (first|(with_reducible first|refine lld hL ?_|((first|refine lbx hL ?_|refine lal hL ?_|refine lbs hL ?_);clear hL;intro bl w1 hL)|(refine zd hL ?_;clear hL;intro w1 hL)))
   (try simp only[Exit.inBlock,Exit.then]);refine rt1 ?_
   exact⟨by rw[HF2.out],hL.below⟩
  | false=>
   cases h2:(slo==0) with
   | true=>
    have HF2:=Lib.hid (show Zs ⟨nl,⟨false,slo,shi⟩,tr,fa,⟨sp,sc,scap⟩⟩=⟨false,⟨false,1,shi⟩,tr,false,⟨sp,sc,scap⟩⟩ from HF.out.trans (by rw[h2];rfl))
    clear HF
    have hL:=Loc.start w
    go_enter Tryz.func160,Tryz.ntmps160
    go_upto_region 2 with(first|(with_reducible first|refine lld hL ?_|((first|refine lbx hL ?_|refine lal hL ?_|refine lbs hL ?_);clear hL;intro bl w1 hL)|(refine zd hL ?_;clear hL;intro w1 hL)))
    refine zf [6,7,8,9,5] ?_
    refine dv0 ?_
    refine dv1 0 ?_
    apply zb
    ·intro g w hb G;replace hL:=hL.grow hb;clear G;simp only[za,fLa,fLb,sTa,sTb]
     go_wp2_with (go_at_call 106;refine(yL _ _ _).mono ?_;rintro e w3 ⟨rfl,hb3⟩;dsimp only)
     exact⟨rfl,_,rfl,(by assumption),rfl⟩
    simp only[apN,apC]
    apply zb
    ·intro g w hb G;replace hL:=hL.grow hb;have d1:=yv G 1;have d2:=yv G 2;clear G;simp only[za,fLa,fLb,sTa,sTb];simp only[d1,d2]
     refine QB (a:=⟨false,slo,shi⟩) (b:=⟨false,0,0⟩) rfl rfl H1.out ?_;go_wp2
     exact cY
    simp only[apN,apC]
    refine dv1 3 ?_
    refine dnd hL ?_
    clear hL;intro w2 hL;simp only[zV,sTa,sTb]
    go_wp2_with (first|(with_reducible first|refine lld hL ?_|((first|refine lbx hL ?_|refine lal hL ?_|refine lbs hL ?_);clear hL;intro bl w1 hL)|(refine zd hL ?_;clear hL;intro w1 hL)))
    (try simp only[Exit.inBlock,Exit.then]);refine rt1 ?_
    exact⟨by rw[HF2.out],hL.below⟩
   | false=>
    cases h3:(shi==0) with
    | true=>
     have HF2:=Lib.hid (show Zs ⟨nl,⟨false,slo,shi⟩,tr,fa,⟨sp,sc,scap⟩⟩=⟨false,⟨false,slo,-1⟩,tr,false,⟨sp,sc,scap⟩⟩ from HF.out.trans (by rw[h2,h3];rfl))
     clear HF
     have hL:=Loc.start w
     go_enter Tryz.func160,Tryz.ntmps160
     go_upto_region 2 with(first|(with_reducible first|refine lld hL ?_|((first|refine lbx hL ?_|refine lal hL ?_|refine lbs hL ?_);clear hL;intro bl w1 hL)|(refine zd hL ?_;clear hL;intro w1 hL)))
     refine zf [6,7,8,9,5] ?_
     refine dv0 ?_
     refine dv1 0 ?_
     apply zb
     ·intro g w hb G;replace hL:=hL.grow hb;clear G;simp only[za,fLa,fLb,sTa,sTb]
      go_wp2_with (go_at_call 106;refine(yL _ _ _).mono ?_;rintro e w3 ⟨rfl,hb3⟩;dsimp only)
      exact⟨rfl,_,rfl,(by assumption),rfl⟩
     simp only[apN,apC]
     apply zb
     ·intro g w hb G;replace hL:=hL.grow hb;have d1:=yv G 1;have d2:=yv G 2;clear G;simp only[za,fLa,fLb,sTa,sTb];simp only[d1,d2]
      refine QB (a:=⟨false,slo,shi⟩) (b:=⟨false,0,0⟩) rfl rfl H1.out ?_;go_wp2
      exact cY
     simp only[apN,apC]
     refine dv1 3 ?_
     refine dnd hL ?_
     clear hL;intro w2 hL;simp only[zV,sTa,sTb]
     go_wp2_with (first|(with_reducible first|refine lld hL ?_|((first|refine lbx hL ?_|refine lal hL ?_|refine lbs hL ?_);clear hL;intro bl w1 hL)|(refine zd hL ?_;clear hL;intro w1 hL)))
     (try simp only[Exit.inBlock,Exit.then]);refine rt1 ?_
     exact⟨by rw[HF2.out],hL.below⟩
    | false=>
     have HF2:=Lib.hid (show Zs ⟨nl,⟨false,slo,shi⟩,tr,fa,⟨sp,sc,scap⟩⟩=⟨false,⟨false,slo,shi⟩,tr,false,⟨sp,sc,scap⟩⟩ from HF.out.trans (by rw[h2,h3];rfl))
     clear HF
     have hL:=Loc.start w
     go_enter Tryz.func160,Tryz.ntmps160
     go_upto_region 2 with(first|(with_reducible first|refine lld hL ?_|((first|refine lbx hL ?_|refine lal hL ?_|refine lbs hL ?_);clear hL;intro bl w1 hL)|(refine zd hL ?_;clear hL;intro w1 hL)))
     refine zf [6,7,8,9,5] ?_
     refine dv0 ?_
     refine dv1 0 ?_
     apply zb
     ·intro g w hb G;replace hL:=hL.grow hb;clear G;simp only[za,fLa,fLb,sTa,sTb]
      go_wp2_with (go_at_call 106;refine(yL _ _ _).mono ?_;rintro e w3 ⟨rfl,hb3⟩;dsimp only)
      exact⟨rfl,_,rfl,(by assumption),rfl⟩
     simp only[apN,apC]
     apply zb
     ·intro g w hb G;replace hL:=hL.grow hb;have d1:=yv G 1;have d2:=yv G 2;clear G;simp only[za,fLa,fLb,sTa,sTb];simp only[d1,d2]
      refine QB (a:=⟨false,slo,shi⟩) (b:=⟨false,0,0⟩) rfl rfl H1.out ?_;go_wp2
      exact cY
     simp only[apN,apC]
     refine dv1 3 ?_
     refine dnd hL ?_
     clear hL;intro w2 hL;simp only[zV,sTa,sTb]
     go_wp2_with (first|(with_reducible first|refine lld hL ?_|((first|refine lbx hL ?_|refine lal hL ?_|refine lbs hL ?_);clear hL;intro bl w1 hL)|(refine zd hL ?_;clear hL;intro w1 hL)))
     (try simp only[Exit.inBlock,Exit.then]);refine rt1 ?_
     exact⟨by rw[HF2.out],hL.below⟩
theorem GT (g:Gu) (w:World):Calls Tryz.prog 161 #[g.v] w fun e w'=>e=.returned (Kn g).v∧Below w.heap.size w w':=by
 obtain⟨nl,⟨sn,slo,shi⟩,tr,fa,⟨sp,sc,scap⟩⟩:=g
 have HC:=Lib.hid (fun w'=>Vu ⟨sn,slo,shi⟩ ⟨false,0,0⟩ w')
 have HF:=Lib.hid (show Kn ⟨nl,⟨sn,slo,shi⟩,tr,fa,⟨sp,sc,scap⟩⟩=⟨nl,ji ⟨sn,slo,shi⟩ ⟨false,0,0⟩,false,fa,zn⟩ from rfl)
 generalize ji ⟨sn,slo,shi⟩ ⟨false,0,0⟩=cs at HC HF
 obtain⟨c1,c2,c3⟩:=cs
 have hL:=Loc.start w
 go_enter Tryz.func161,Tryz.ntmps161
 go_upto_region 2 with(first|(with_reducible first|refine lld hL ?_|((first|refine lbx hL ?_|refine lal hL ?_|refine lbs hL ?_);clear hL;intro bl w1 hL)|(refine zd hL ?_;clear hL;intro w1 hL)))
 refine zf [5,6,7,8,9] ?_
 refine dv0 ?_
 refine dv1 0 ?_
 apply zb
 ·intro g w hb G;replace hL:=hL.grow hb;clear G;simp only[za,fLa,fLb,sTa,sTb]
  go_wp2_with (go_at_call 106;refine(yL _ _ _).mono ?_;rintro e w3 ⟨rfl,hb3⟩;dsimp only)
  exact⟨rfl,_,rfl,(by assumption),rfl⟩
 simp only[apN,apC]
 apply zb
 ·intro g w hb G;replace hL:=hL.grow hb;have d1:=yv G 1;have d2:=yv G 2;clear G;simp only[za,fLa,fLb,sTa,sTb];simp only[d1,d2]
  go_wp2_with (go_at_call 203;refine(HC.out _).mono ?_;rintro e w3 ⟨rfl,hb3⟩;dsimp only)
  exact⟨rfl,_,rfl,(by assumption),rfl⟩
 simp only[apN,apC]
 refine dv0 ?_
 refine dnd hL ?_
 clear hL;intro w2 hL;simp only[zV,sTa,sTb]
 go_wp2_with (first|(with_reducible first|refine lld hL ?_|((first|refine lbx hL ?_|refine lal hL ?_|refine lbs hL ?_);clear hL;intro bl w1 hL)|(refine zd hL ?_;clear hL;intro w1 hL)))
 (try simp only[Exit.inBlock,Exit.then]);refine rt1 ?_
 exact⟨by rw[HF.out],hL.below⟩
abbrev ya (d:Res):Res:=⟨false,jt d.span,d.tr,false,d.l⟩
abbrev yu (d:Res):Res:=⟨d.null,ji d.span ⟨false,0,0⟩,false,d.fa,[]⟩
abbrev Ko:Res:=⟨false,zC,false,false,[]⟩
def Pd.setVar (d:Pd) (k:Nat) (g:Res):Pd:={ d with vars:=d.vars.set k g }
def Pd.setField (d:Pd) (i j:Nat) (g:Res):Pd:={ d with fields:=d.fields.set i ((d.row i).set j g) }
def Pd.setRow (d:Pd) (i:Nat) (l:List Res):Pd:={ d with fields:=d.fields.set i l }
def jb (i:Ins):Res:=
 if i.kind=1 then ⟨false,⟨false,i.n,i.n⟩,false,false,[]⟩ else if i.kind=14 then ⟨false,⟨false,-i.n,i.n⟩,false,false,[]⟩ else if i.kind=2 then ⟨false,zC,i.n==1,i.n==0,[]⟩ else if i.kind=3 then ⟨true,zC,false,false,[]⟩ else Ko
def jU (g:Res):Bool:=g.null || g.tr || g.fa || !g.span.none
def qM (d:Pd) (n:Nat) (l:List Int):Res:=l.foldl (fun g s=>qB both g (d.field s.toNat n)) Ko
def yZ (d:Pd) (n:Nat) (b:Res) (l:List Int):Pd:=l.foldl (fun x s=>x.setField s.toNat n (qB both (x.field s.toNat n) b)) d
def KT (d:Pd) (at' k:Nat):Pd:=(d.setVar k ⟨false,zC,false,false,[(at' : Int)]⟩).setRow at' ((d.row at').map fun g=>{ g with null:=true })
structure Y0 where
 es:List (Int × Pd)
 wr:Bool
 fl:Bool
def jV (d:Pd) (at' : Int) (k:Nat) (g:Res):List (Int × Pd):=if qP g=true then [] else [(at' + 1,d.setVar k g)]
def zU (i:Ins) (at' : Nat) (d:Pd):Y0:=
 if i.kind=1∨i.kind=14∨i.kind=2∨i.kind=3 then ⟨jV d at' i.to.toNat (jb i),false,false⟩
 else if i.kind=11 then ⟨[((at' : Int)+1,KT d at' i.to.toNat)],false,false⟩
 else if i.kind=12 then ⟨jV d at' i.to.toNat (qM d i.n.toNat (d.var i.a.toNat).l),jU (d.var i.a.toNat),false⟩
 else if i.kind=13 then ⟨if (d.var i.a.toNat).l=[] then [] else [((at' : Int)+1,yZ d i.n.toNat (d.var i.b.toNat) (d.var i.a.toNat).l)],jU (d.var i.a.toNat),false⟩
 else if i.kind=15 then ⟨(if JF ((d.var i.a.toNat).gu ⟨none,(d.var i.a.toNat).l.length,0⟩)=true then [(i.goto,d.setVar i.a.toNat (ya (d.var i.a.toNat)))] else [])++(if noG ((d.var i.a.toNat).gu zn)=true then [((at' : Int)+1,d.setVar i.a.toNat (yu (d.var i.a.toNat)))] else []),false,false⟩
 else if i.kind=17 then ⟨if JF ((d.var i.a.toNat).gu ⟨none,(d.var i.a.toNat).l.length,0⟩)=true then [((at' : Int)+1,d.setVar i.a.toNat (ya (d.var i.a.toNat)))] else [],false,noG ((d.var i.a.toNat).gu zn)⟩
 else if i.kind=16 then ⟨[(i.goto,d)],false,false⟩
 else if i.kind=18 then ⟨[((at' : Int)+1,d)],false,false⟩
 else if i.kind=19 then ⟨[],false,false⟩
 else ⟨jV d at' i.to.toNat (qK i.kind ((d.var i.a.toNat).gu ⟨none,(d.var i.a.toNat).l.length,0⟩) ((d.var i.b.toNat).gu ⟨none,(d.var i.b.toNat).l.length,0⟩) (d.var i.a.toNat).l (d.var i.b.toNat).l).1,
  (qK i.kind ((d.var i.a.toNat).gu ⟨none,(d.var i.a.toNat).l.length,0⟩) ((d.var i.b.toNat).gu ⟨none,(d.var i.b.toNat).l.length,0⟩) (d.var i.a.toNat).l (d.var i.b.toNat).l).2,false⟩
structure EdV where
 go:Int
 x:Pv
abbrev EdV.cells (e:EdV):List Value:=[.int .i64 e.go,.bool e.x.none,.slice e.x.vars.p e.x.vars.n e.x.vars.cap,.slice e.x.fields.p e.x.fields.n e.x.fields.cap]
theorem zff (e:EdV):(EdV.cells e).length=4:=rfl
abbrev JN:EdV:=⟨0,zfM⟩
structure ym (w:World) (evs:List EdV) (es:List (Int × Pd)):Prop where
 len:evs.length=es.length
 at' : ∀ k,k<es.length→(evs.getD k JN).go=(es.getD k (0,QU)).1∧zN w (evs.getD k JN).x (es.getD k (0,QU)).2
theorem ym.nil (w:World):ym w [] []:=⟨rfl,fun k hk=>absurd hk (Nat.not_lt_zero k)⟩
theorem ym.snoc {w:World}{evs:List EdV}{es:List (Int × Pd)}(h:ym w evs es) {go:Int}{x:Pv}{d:Pd}(hx:zN w x d):ym w (evs++[⟨go,x⟩]) (es++[(go,d)]):=by
 refine⟨by simp[h.len],fun k hk=>?_⟩
 rw[List.length_append]at hk
 rcases Nat.lt_or_ge k es.length with h1|h1
 ·rw[Jd (by rw[h.len];exact h1),Jd h1]
  exact h.at' k h1
 ·have hk' : k<es.length+1:=by simpa using hk
  obtain rfl:k=es.length:=by omega
  rw[y4 (by rw[h.len];exact Nat.le_refl _),y4 (Nat.le_refl _),h.len,Nat.sub_self]
  exact⟨rfl,hx⟩
abbrev stC (i:Ins) (at' : Nat) (x:Pv) (es:Sl) (wr fl:Bool):List Value:=[.int .i64 i.kind,.int .i64 i.to,.int .i64 i.a,.int .i64 i.b,.int .i64 i.n,.int .i64 i.goto,.int .i64 at',.bool x.none,.slice x.vars.p x.vars.n x.vars.cap,.slice x.fields.p x.fields.n x.fields.cap,.slice es.p es.n es.cap,.bool wr,.bool fl]
def Stp (w0:World) (bs:Nat) (i:Ins) (at' : Nat) (x:Pv) (es:List (Int × Pd)) (wr fl:Bool) (A:List zj) (D:List zw) (w:World):Prop:=
 ∃ (s:Sl) (evs:List EdV) (Re:List zj),zM 75 4 s.p s.n s.cap (evs.flatMap EdV.cells) Re∧Loc w0 w ((bs,153,stC i at' x s wr fl)::(A++Re)) ((fun w=>ym w evs es)::D)
theorem jz:yg Tryz.prog 151:=⟨by kernel_rfl,by kernel_rfl⟩
def zf8 (w0:World) (bx:Nat) (r:Pv) (d:Pd) (bs:Nat) (sc:List Value) (A N:List zj) (D:List zw) (w:World):Prop:=
 ∃ (gv:List Gu) (gf:List (List Gu)) (rs:List Sl) (Rv Rh Rf:List zj),Ge r gv gf rs Rv Rh Rf∧Loc w0 w ((bx,54,r.cells)::(bs,153,sc)::(A++((Rv++(Rf++Rh))++N))) (zS gv gf d.vars d.fields::D)
def U9 (w0:World) (bs:Nat) (i:Ins) (at' : Nat) (x:Pv) (wr fl:Bool) (A:List zj) (D:List zw) (K:FuncId) (caps:List Value) (d d' : Pd):Prop:=
 ∀ (bx:Nat) (r:Pv) (s:Sl) (N:List zj) (D2:List zw) (w:World),(∀ S∈D,S∈D2)→r.none=false→zf8 w0 bx r d bs (stC i at' x s wr fl) A N D2 w→
  Calls Tryz.prog K (Value.pointer (some ⟨bx,0,none⟩)::caps).toArray w fun e w'=>e=.returned (.tuple #[])∧zf8 w0 bx r d' bs (stC i at' x s wr fl) A N D2 w'
theorem GU (X:zj) (Y:zj) (A E P:List zj):(X::(Y::(A++(P++E)))).Perm ((X::(Y::(A++E)))++P):=by
 refine(List.Perm.cons X (List.Perm.cons Y ?_))
 show (A++(P++E)).Perm ((A++E)++P)
 rw[List.append_assoc]
 exact List.Perm.append_left A List.perm_append_comm
theorem J8 (w0:World) (bs:Nat) (i:Ins) (at' : Nat) (x:Pv) (d d' : Pd) (es:List (Int × Pd)) (wr fl:Bool) (A:List zj) (D:List zw) (w:World) (go:Int) (K:FuncId) (caps:List Value) (he:∀ args w,(callFunc K args).run Tryz.prog w=.ok (.enter K args) w)
  (h:Stp w0 bs i at' x es wr fl A D w) (hx:zN w0 x d) (hdn:d.none=false) (hd:yE d) (hown:qb both d d=d) (hn' : d'.none=false) (hm:d'.vars.length+d'.fields.length≤9223372036854775807) (hle:es.length≤10)
  (hdo:U9 w0 bs i at' x wr fl A D K caps d d'):
  Calls Tryz.prog 162 #[.pointer (some ⟨bs,0,none⟩),.int .i64 go,.func (.func K) #[] caps.toArray] w fun e w'=>e=.returned (.tuple #[])∧Stp w0 bs i at' x (es++[(go,d')]) wr fl A D w':=by
 obtain⟨s,evs,Re,hR,hL⟩:=h
 have hwn:=fun w' (hb:Below w0.heap.size w0 w')=>Vv x d w' (hx.grow hb) hd hdn
 rw[hown]at hwn
 have hsn:=hR.flatlen zff (by decide)
 have hev:=(hL.get (S:=fun w=>ym w evs es) List.mem_cons_self).len
 have HW:=Lib.hid hwn
 have HDO:=Lib.hid hdo
 have HR:=Lib.hid hR
 have HN0:=Lib.hid hdn
 have HN:=Lib.hid (And.intro hn' (And.intro hm (show s.n≤10 by omega)))
 clear hwn hdo hR hx hdn hd hown hn' hm hle hsn hev
 obtain⟨xn,⟨xp,xvn,xc⟩,⟨xfp,xfn,xfc⟩⟩:=x
 obtain⟨sp,sn,sc⟩:=s
 obtain⟨ik,ito,ia,ib,inn,ig⟩:=i
 go_enter Tryz.func162,Tryz.ntmps162
 go_upto_region 1 with(first|((with_reducible refine lal hL ?_);clear hL;intro bx w1 hL)|(with_reducible first|refine lld hL ?_|((first|refine lbx hL ?_|refine lal hL ?_|refine lbs hL ?_);clear hL;intro bl w1 hL)|(refine zd hL ?_;clear hL;intro w1 hL))|(go_at_call 102;refine(HW.out _ hL.below).mono ?_;rintro q w3 ⟨⟨rn,⟨vp,vn,vc⟩,⟨fp,fn,fc⟩⟩,rfl,gv,gf,rs,Rv,Rh,Rf,hrn,hO,hl3⟩;replace hL:=hL.gave hl3;simp only[List.cons_append]at hL;clear hl3;dsimp only))
 have hrn2:rn=false:=by rw[show rn=d.none from hrn];exact HN0.out
 subst hrn2
 have hP:zf8 w0 bx ⟨false,⟨vp,vn,vc⟩,⟨fp,fn,fc⟩⟩ d bs (stC ⟨ik,ito,ia,ib,inn,ig⟩ at' ⟨xn,⟨xp,xvn,xc⟩,⟨xfp,xfn,xfc⟩⟩ ⟨sp,sn,sc⟩ wr fl) A Re ((fun w=>ym w evs es)::D) w1:=
  ⟨gv,gf,rs,Rv,Rh,Rf,hO,hL.perm (GU _ _ A Re (Rv++(Rf++Rh)))⟩
 have hcall:=HDO.out bx ⟨false,⟨vp,vn,vc⟩,⟨fp,fn,fc⟩⟩ ⟨sp,sn,sc⟩ Re ((fun w=>ym w evs es)::D) w1 (fun S hS=>List.mem_cons_of_mem _ hS) rfl hP
 have HCL:=Lib.hid hcall
 clear hcall hP hO hL HDO HW hrn
 go_upto_region 2 with(first|((with_reducible refine HCL.out.mono ?_);rintro e w3 ⟨rfl,hP2⟩;clear HCL;dsimp only))
 obtain⟨gv',gf',rs',Rv',Rh',Rf',hO',hL⟩:=hP2
 have hLp:=hL.perm (GU _ _ A Re (Rv'++(Rf'++Rh'))).symm
 replace hL:=hLp.facts (S:=fun w=>zN w ⟨false,⟨vp,vn,vc⟩,⟨fp,fn,fc⟩⟩ d') (fun w' hr ht=>hO'.is (B:=w0.heap.size) ⟨((List.sublist_append_right ((bx,54,_)::(bs,153,_)::(A++Re)) (Rv'++(Rf'++Rh'))).map (fun e:zj=>e.1)).nodup hLp.nodup,fun e he=>⟨hLp.ids e (List.mem_append_right _ he),hr e he⟩⟩ ht HN.out.1.symm HN.out.2.1)
 clear hO' hLp
 have h10:=HN.out.2.2
 dsimp only at h10
 obtain⟨wq,hwq⟩:∃ x,x=w3:=⟨_,rfl⟩
 subst hwq
 refine zf [14,15,16,17,18,19,20,21,22] ?_
 refine dv0 ?_
 refine dv0 ?_
 refine dv1 1 ?_
 refine dv1 2 ?_
 refine dv1 3 ?_
 refine dv0 ?_
 refine dv0 ?_
 refine dv2 5 6 ?_
 apply Jm
 ·intro g w hb G;replace hL:=hL.grow hb;have d7:=yv G 7;clear G;simp only[za,fLa,fLb,sTa,sTb];simp only[d7]
  go_wp2
  exact⟨rfl,_,rfl,(Below.refl _ _).alloc (Nat.le_refl _) _,_,hb.size,rfl,zI _ _⟩
 simp only[apN,apC]
 refine QA 0 hL (by kernel_rfl) (by kernel_rfl) (fun _ _ _ _ _ h=>h) ?_ ?_
 ·(refine Q0 rfl rfl ?_;intro g w hb G;(try simp[zi,List.filter_cons,Region.binds,z7,RAt]at G);simp only[za,List.foldl_cons,List.foldl_nil,List.set_cons_succ,List.set_cons_zero];(try simp only[G]);exact⟨_,.inl ⟨rfl,fun w=>(by go_simp<;>(try (split<;>(rename_i hs;simp[hs,cnd]))))⟩,rfl⟩)
 intro g w2 hb hR;simp only[List.length_cons,List.length_nil,Nat.reduceAdd]at hR
 have e0:=yv hR 0
 have e1:=yv hR 1
 have e2:=yv hR 2
 have e3:=yv hR 3
 have e4:=yv hR 4
 have e5:=yv hR 5
 have e6:=yv hR 6
 have e7:=yv hR 7
 obtain⟨b8,p8,e8,c8⟩:=yC (zA hR (j:=8) (by decide)) rfl rfl
 clear hR;simp only[za,fLa,fLb,sTa,sTb]
 simp only[e0,e1,e2,e3,e4,e5,e6,e7,e8]
 clear e0 e1 e2 e3 e4 e5 e6 e7 e8
 replace hL:=hL.moreAll hb (Ds:=[ja b8 _ _]) (by
  intro S hS
  simp only[List.mem_cons,List.not_mem_nil,or_false]at hS
  rcases hS with rfl
  ·exact ja.fresh p8 c8)
 simp only[List.cons_append,List.nil_append]at hL
 clear p8 c8
 clear hb
 go_wp2_with (first|(refine zz (p:=sp) (n:=sn) (cap:=sc) (z:=[.int .i64 0,.bool false,.slice none 0 0,.slice none 0 0]) (K:=(bx,_,_)::(bs,_,_)::A) (R:=Re) (news:=EdV.cells ⟨go,⟨false,⟨vp,vn,vc⟩,⟨fp,fn,fc⟩⟩⟩) HR.out hL (by simp only[List.cons_append];rfl) rfl rfl VN zcn (by decide) rfl (fun _=>⟨⟨b8,0,none⟩,rfl,fun j u hj=>by rw[zH,Nat.zero_add];exact zF (hL.get (S:=ja b8 _ _) List.mem_cons_self) j hj⟩) rfl (by simp[Value.oneCell']) (by have:maxLen=9223372036854775807:=rfl;omega) (by omega) ?_;clear hL;intro p4 cap4 R4 w4 hS4 hL;simp only[List.cons_append]at hL)|(with_reducible first|refine lld hL ?_|((first|refine lbx hL ?_|refine lal hL ?_|refine lbs hL ?_);clear hL;intro bl w1 hL)|(refine zd hL ?_;clear hL;intro w1 hL)))
 (try simp only[Exit.inBlock,Exit.then]);(first|refine yP rfl rfl ?_|refine yQ rfl rfl ?_)
 refine⟨rfl,⟨p4,sn+1,cap4⟩,evs++[⟨go,⟨false,⟨vp,vn,vc⟩,⟨fp,fn,fc⟩⟩⟩],R4,by simpa using hS4,?_⟩
 exact(hL.drop (List.sublist_cons_self _ _) (fun _ h=>List.mem_cons_of_mem _ h)).both (fun w h1 h2=>h2.snoc h1)
theorem qy {α:Type}(l:List α) (k j:Nat) (v d:α) (hk:k<l.length):(l.set k v).getD j d=if j=k then v else l.getD j d:=by
 simp only[List.getD_eq_getElem?_getD,List.getElem?_set]
 by_cases h:k=j
 ·subst h;simp[hk]
 ·rw[if_neg h,if_neg (Ne.symm h)]
theorem zX.set {w:World}{gl:List Gu}{ds:List Res}(h:zX w gl ds) {k:Nat}(hk:k<ds.length) {g:Gu}{d:Res}(hg:qq w g d):zX w (gl.set k g) (ds.set k d):=by
 refine⟨by simp[h.len],fun j hj=>?_⟩
 have hj' : j<ds.length:=by simpa using hj
 rw[qy _ _ _ _ _ (by rw[h.len];exact hk),qy _ _ _ _ _ hk]
 by_cases hjk:j=k
 ·rw[if_pos hjk,if_pos hjk];exact hg
 ·rw[if_neg hjk,if_neg hjk];exact h.at' j hj'
theorem Kp (X Y U V Z:zj) (A P N:List zj):(X::Y::U::V::(A++(([Z]++P)++N))).Perm (X::Y::U::V::Z::(A++(P++N))):=by
 refine((((?_:(A++(([Z]++P)++N)).Perm (Z::(A++(P++N)))).cons V).cons U).cons Y).cons X
 exact List.perm_middle
theorem zcN (w0:World) (bs bg bp:Nat) (i:Ins) (at' : Nat) (x:Pv) (wr fl:Bool) (A:List zj) (D:List zw) (d:Pd) (k:Nat) (g:Gu) (gd:Res) (hi:i.to=k) (hk:k<d.vars.length) (hg:(fun w=>qq w g gd)∈D):
  U9 w0 bs i at' x wr fl ((bg,108,g.cells)::(bp,151,[.pointer (some ⟨bs,0,none⟩)])::A) D 195 [.pointer (some ⟨bg,0,none⟩),.pointer (some ⟨bp,0,none⟩)] d (d.setVar k gd):=by
 intro bx r s N D2 w hsub hrn hP
 obtain⟨gv,gf,rs,Rv,Rh,Rf,hO,hL⟩:=hP
 have hgd:=(hL.get (S:=zS gv gf d.vars d.fields) List.mem_cons_self).1
 have hn:=hO.vars.flatlen jl (by decide)
 have hgl:=hgd.len
 obtain⟨bv,cs,hp,rfl,htk,hlen⟩:=hO.vars.block (by omega)
 have hput:=hO.vars.put jl zT (k:=k) (by omega) g
 have hle:=hO.vars.fits
 have hkn:k<r.vars.n:=by omega
 have HS:=Lib.hid (show k*7+g.cells.length≤cs.length by show k*7+7≤_;rw[hlen];omega)
 have HO:=Lib.hid (And.intro hO hput)
 have hmem:(fun w=>qq w g gd)∈D2:=hsub _ hg
 replace hL:=(hL.perm (Kp _ _ _ _ _ A (Rf++Rh) N).symm).drop (List.Sublist.refl _) (D':=zS gv gf d.vars d.fields::(fun w=>qq w g gd)::D2) (by
  intro S hS
  rcases List.mem_cons.1 hS with rfl|hS
  ·exact List.mem_cons_self
  ·rcases List.mem_cons.1 hS with rfl|hS
   ·exact List.mem_cons_of_mem _ hmem
   ·exact List.mem_cons_of_mem _ hS)
 clear hO hput hn hgl htk hlen hle hgd hmem hsub hg
 obtain⟨rn,⟨vp,vn,vc⟩,⟨fp,fn,fc⟩⟩:=r
 obtain⟨ik,ito,ia,ib,inn,ig⟩:=i
 obtain⟨gn,⟨gsn,glo,ghi⟩,gt,gff,⟨gp,gk,gc⟩⟩:=g
 dsimp only at hp hi hkn hrn
 subst hp hi hrn
 go_enter Tryz.func195,Tryz.ntmps195
 obtain⟨wq,hwq⟩:∃ x,x=w:=⟨_,rfl⟩
 subst hwq
 refine zf [4,5,6,7,8,9,10,11,12,13,14] ?_
 refine dv0 ?_
 refine dv1 0 ?_
 refine dv1 1 ?_
 refine dv1 2 ?_
 apply zb
 ·intro g w hb G;replace hL:=hL.grow hb;clear G;simp only[za,fLa,fLb,sTa,sTb]
  refine ldO (ze.cell jz rfl) hL ?_
  exact cY
 simp only[apN,apC]
 refine dv1 4 ?_
 refine dv1 5 ?_
 refine dv1 6 ?_
 refine dv1 7 ?_
 refine dv0 ?_
 refine dv2 3 8 ?_
 refine dnd hL ?_
 clear hL;intro w2 hL;simp only[zV,sTa,sTb]
 go_wp2_with (first|(refine qa (b:=bv) (off:=k*7) (vs:=Gu.cells ⟨gn,⟨gsn,glo,ghi⟩,gt,gff,⟨gp,gk,gc⟩⟩) (cs':=zk cs (k*7) (Gu.cells ⟨gn,⟨gsn,glo,ghi⟩,gt,gff,⟨gp,gk,gc⟩⟩)) hL rfl rfl cIn rfl zZ.sz rfl HS.out rfl ?_;clear hL;intro w' hL)|(with_reducible first|refine lld hL ?_|((first|refine lbx hL ?_|refine lal hL ?_|refine lbs hL ?_);clear hL;intro bl w1 hL)|(refine zd hL ?_;clear hL;intro w1 hL)))
 (try simp only[Exit.inBlock,Exit.then]);(first|refine yP rfl rfl ?_|refine yQ rfl rfl ?_)
 obtain⟨⟨h1,h2,h3⟩,hput⟩:=HO.out
 refine⟨rfl,gv.set k ⟨gn,⟨gsn,glo,ghi⟩,gt,gff,⟨gp,gk,gc⟩⟩,gf,rs,[(bv,108,zk cs (k*7) (Gu.cells ⟨gn,⟨gsn,glo,ghi⟩,gt,gff,⟨gp,gk,gc⟩⟩))],Rh,Rf,⟨hput,h2,h3⟩,?_⟩
 exact((hL.perm (Kp _ _ _ _ _ A (Rf++Rh) N)).both (U:=zS (gv.set k ⟨gn,⟨gsn,glo,ghi⟩,gt,gff,⟨gp,gk,gc⟩⟩) gf (d.setVar k gd).vars (d.setVar k gd).fields) fun w h4 h5=>⟨h4.1.set hk h5,h4.2⟩)
structure qS (w0:World) (x:Pv) (d:Pd):Prop where
 x:zN w0 x d
 n:d.none=false
 few:yE d
 own:qb both d d=d
 m:d.vars.length+d.fields.length≤9223372036854775807
theorem Stp.drop2 {w0:World}{bs:Nat}{i:Ins}{at' : Nat}{x:Pv}{es:List (Int × Pd)}{wr fl:Bool}{A:List zj}{U V:zj}{D:List zw}{w:World}(h:Stp w0 bs i at' x es wr fl (U::V::A) D w):Stp w0 bs i at' x es wr fl A D w:=by
 obtain⟨s,evs,Re,hR,hL⟩:=h
 exact⟨s,evs,Re,hR,hL.drop (.cons_cons _ (.cons _ (.cons _ (List.Sublist.refl _)))) (fun _ h=>h)⟩
theorem Stp.push2 {w0:World}{bs:Nat}{i:Ins}{at' : Nat}{x:Pv}{wr fl:Bool}{A:List zj}{U V:zj}{D:List zw}{w:World}{s:Sl}{evs:List EdV}{Re:List zj}{es:List (Int × Pd)}(hR:zM 75 4 s.p s.n s.cap (evs.flatMap EdV.cells) Re)
  (hL:Loc w0 w (U::V::(bs,153,stC i at' x s wr fl)::(A++Re)) ((fun w=>ym w evs es)::D)):Stp w0 bs i at' x es wr fl (U::V::A) D w:=by
 refine⟨s,evs,Re,hR,hL.perm ?_⟩
 exact(List.Perm.swap _ _ _).trans ((List.Perm.swap _ _ _).cons _)
theorem zfg:∀ args w,(callFunc 195 args).run Tryz.prog w=.ok (.enter 195 args) w:=fun args w=>by kernel_rfl
theorem J9 (w0:World) (bs:Nat) (i:Ins) (at' : Nat) (x:Pv) (d:Pd) (es:List (Int × Pd)) (wr fl:Bool) (A:List zj) (D:List zw) (w:World) (k:Nat) (g:Gu) (gd:Res)
  (h:Stp w0 bs i at' x es wr fl A D w) (ok:qS w0 x d) (hi:i.to=k) (hk:k<d.vars.length) (hg:(fun w=>qq w g gd)∈D) (hle:es.length≤10) (ha:at'≤1000000):
  Calls Tryz.prog 153 #[.pointer (some ⟨bs,0,none⟩),g.v] w fun e w'=>e=.returned (.tuple #[])∧Stp w0 bs i at' x (es++jV d at' k gd) wr fl A D w':=by
 obtain⟨s,evs,Re,hR,hL⟩:=h
 have hgd:=hL.get (S:=fun w=>qq w g gd) (List.mem_cons_of_mem _ hg)
 have hem:=fun w'=>yF g w'
 have hee:qj g=qP gd:=by
  have h1:=hgd.e
  rw[h1]
  exact Za hgd.l.n
 rw[hee]at hem
 have HE:=Lib.hid (fun (bg bp:Nat) (w1:World) (h1:Stp w0 bs i at' x es wr fl ((bg,108,g.cells)::(bp,151,[.pointer (some ⟨bs,0,none⟩)])::A) D w1)=>J8 w0 bs i at' x d (d.setVar k gd) es wr fl _ D w1 ((at' : Int)+1) 195 [.pointer (some ⟨bg,0,none⟩),.pointer (some ⟨bp,0,none⟩)] zfg h1 ok.x ok.n ok.few ok.own ok.n (by show (d.vars.set k gd).length+d.fields.length≤_;rw[List.length_set];exact ok.m) hle (zcN w0 bs bg bp i at' x wr fl A D d k g gd hi hk hg))
 have HR:=Lib.hid hR
 have HS:=Lib.hid (show jV d at' k gd=if qP gd=true then [] else [((at' : Int)+1,d.setVar k gd)] from rfl)
 clear hR ok hgd hee
 generalize qP gd=em at hem HS
 have HEM:=Lib.hid hem
 clear hem hg
 obtain⟨gn,⟨gsn,glo,ghi⟩,gt,gff,⟨gp,gk,gc⟩⟩:=g
 obtain⟨ik,ito,ia,ib,inn,ig⟩:=i
 dsimp only at hi
 subst hi
 obtain⟨xn,⟨xp,xvn,xc⟩,⟨xfp,xfn,xfc⟩⟩:=x
 obtain⟨sp,sn,sc⟩:=s
 cases em with
 | true=>
  go_enter Tryz.func153,Tryz.ntmps153
  go_wp2_with (first|(with_reducible first|refine lld hL ?_|((first|refine lbx hL ?_|refine lal hL ?_|refine lbs hL ?_);clear hL;intro bl w1 hL)|(refine zd hL ?_;clear hL;intro w1 hL))|(go_at_call 147;refine(HEM.out _).mono ?_;rintro e w1 ⟨rfl,hb⟩;replace hL:=hL.grow hb;clear hb;dsimp only))
  (try simp only[Exit.inBlock,Exit.then]);(first|refine yP rfl rfl ?_|refine yQ rfl rfl ?_)
  refine⟨rfl,?_⟩
  rw[HS.out]
  simp only[if_true,List.append_nil]
  exact⟨⟨sp,sn,sc⟩,evs,Re,HR.out,hL.drop (.cons _ (.cons _ (List.Sublist.refl _))) (fun _ h=>h)⟩
 | false=>
  go_enter Tryz.func153,Tryz.ntmps153
  go_step
  go_step
  go_step
  ((with_reducible refine lbx hL ?_);clear hL;intro bp w1 hL)
  ((with_reducible refine lbx hL ?_);clear hL;intro bg w1 hL)
  go_upto_region 2 with(first|(with_reducible first|refine lld hL ?_|((first|refine lbx hL ?_|refine lal hL ?_|refine lbs hL ?_);clear hL;intro bl w1 hL)|(refine zd hL ?_;clear hL;intro w1 hL))|(go_at_call 147;refine(HEM.out _).mono ?_;rintro e w1 ⟨rfl,hb⟩;replace hL:=hL.grow hb;clear hb;dsimp only))
  obtain⟨wq,hwq⟩:∃ x,x=w1:=⟨_,rfl⟩
  subst hwq
  refine zf [7,8,9,10,11,12,13] ?_
  apply zb
  ·intro g w hb G;replace hL:=hL.grow hb;clear G;simp only[za,fLa,fLb,sTa,sTb]
   refine ldO (ze.cell jz rfl) hL ?_
   exact cY
  simp only[apN,apC]
  apply zb
  ·intro g w hb G;replace hL:=hL.grow hb;clear G;simp only[za,fLa,fLb,sTa,sTb]
   refine ldO (ze.cell jz rfl) hL ?_
   exact cY
  simp only[apN,apC]
  refine dv1 1 ?_
  refine dv1 2 ?_
  refine dv1 3 ?_
  refine dv1 4 ?_
  refine dv0 ?_
  refine dnd hL ?_
  clear hL;intro w2 hL;simp only[zV,sTa,sTb]
  have hM:=HE.out bg bp w2 (Stp.push2 HR.out hL)
  have HM:=Lib.hid hM
  clear hM HE
  go_wp2_with (first|(go_at_call 162;refine HM.out.mono ?_;rintro e w3 ⟨rfl,hM⟩;dsimp only))
  (try simp only[Exit.inBlock,Exit.then]);(first|refine yP rfl rfl ?_|refine yQ rfl rfl ?_)
  refine⟨rfl,?_⟩
  rw[HS.out]
  simpa using hM.drop2
theorem GV (w0 w:World) (L0:List zj) (D:List zw) (K:FuncId) (caps:List Value) (gd:Res) (he:∀ args w,(callFunc K args).run Tryz.prog w=.ok (.enter K args) w) (hL:Loc w0 w L0 D)
  (hdo:∀ (bg:Nat) (N:List zj) (w1:World),Loc w0 w1 ((bg,108,qu.cells)::(L0++N)) D→Calls Tryz.prog K (Value.pointer (some ⟨bg,0,none⟩)::caps).toArray w1 fun e w2=>e=.returned (.tuple #[])∧∃ g:Gu,Loc w0 w2 ((bg,108,g.cells)::(L0++N)) ((fun w=>qq w g gd)::D)):
  Calls Tryz.prog 196 #[.func (.func K) #[] caps.toArray] w fun e w2=>∃ g:Gu,e=.returned g.v∧Loc w0 w2 L0 ((fun w=>qq w g gd)::D):=by
 have HDO:=Lib.hid hdo
 clear hdo
 go_enter Tryz.func196,Tryz.ntmps196
 go_upto_region 1 with(first|((with_reducible refine lal hL ?_);clear hL;intro b2 w1 hL))
 go_upto_region 2 with(first|((with_reducible refine lal hL ?_);clear hL;intro b3 w1 hL)|(with_reducible first|refine lld hL ?_|((first|refine lbx hL ?_|refine lal hL ?_|refine lbs hL ?_);clear hL;intro bl w1 hL)|(refine zd hL ?_;clear hL;intro w1 hL))|(go_at_call 136;refine(jk _).mono ?_;rintro e w1 ⟨rfl,hb⟩;replace hL:=hL.grow hb;clear hb;dsimp only))
 have hcall:=HDO.out b3 [(b2,108,[.bool false,.bool false,.int .i64 0,.int .i64 0,.bool false,.bool false,.slice none 0 0])] w1 (hL.perm ((List.perm_append_comm (l₁:=L0) (l₂:=[(b2,108,_)])).cons _))
 have HCL:=Lib.hid hcall
 clear hcall hL HDO
 go_upto_region 3 with(first|((with_reducible refine HCL.out.mono ?_);rintro e w3 ⟨rfl,⟨gn,⟨gsn,glo,ghi⟩,gt,gff,⟨gp,gk,gc⟩⟩,hL⟩;clear HCL;dsimp only))
 replace hL:=hL.perm ((List.perm_append_comm (l₁:=[(b2,108,_)]) (l₂:=L0)).cons _)
 simp only[List.cons_append,List.nil_append]at hL
 go_wp2_with (first|(with_reducible first|refine lld hL ?_|((first|refine lbx hL ?_|refine lal hL ?_|refine lbs hL ?_);clear hL;intro bl w1 hL)|(refine zd hL ?_;clear hL;intro w1 hL)))
 (try simp only[Exit.inBlock,Exit.then]);refine rt1 ?_
 exact⟨⟨gn,⟨gsn,glo,ghi⟩,gt,gff,⟨gp,gk,gc⟩⟩,rfl,hL.drop (.cons _ (.cons _ (List.Sublist.refl _))) (fun _ h=>h)⟩
theorem zd0 : ∀ args w,(callFunc 197 args).run Tryz.prog w=.ok (.enter 197 args) w:=fun args w=>by kernel_rfl
theorem za9 (w0:World) (bg b1 bs:Nat) (U:zj) (i:Ins) (at' : Nat) (x:Pv) (s:Sl) (wr fl:Bool) (X:List zj) (D:List zw) (w:World) (hk:i.kind=1∨i.kind=14∨i.kind=2∨i.kind=3) (hr:-2147483648≤i.n∧i.n≤2147483647)
  (hL:Loc w0 w ((bg,108,qu.cells)::U::(b1,151,[.pointer (some ⟨bs,0,none⟩)])::(bs,153,stC i at' x s wr fl)::X) D):
  Calls Tryz.prog 197 #[.pointer (some ⟨bg,0,none⟩),.pointer (some ⟨b1,0,none⟩)] w fun e w2=>e=.returned (.tuple #[])∧∃ g:Gu,Loc w0 w2 ((bg,108,g.cells)::U::(b1,151,[.pointer (some ⟨bs,0,none⟩)])::(bs,153,stC i at' x s wr fl)::X) ((fun w=>qq w g (jb i))::D):=by
 obtain⟨ik,ito,ia,ib,inn,ig⟩:=i
 obtain⟨xn,⟨xp,xvn,xc⟩,⟨xfp,xfn,xfc⟩⟩:=x
 obtain⟨sp,sn,sc⟩:=s
 dsimp only at hk hr
 obtain⟨hr1,hr2⟩:=hr
 rcases hk with rfl|rfl|rfl|rfl
 ·go_enter Tryz.func197,Tryz.ntmps197
  go_upto_region 2 with(first|(with_reducible refine ldO (ze.cell jz rfl) hL ?_)|(with_reducible first|refine lld hL ?_|((first|refine lbx hL ?_|refine lal hL ?_|refine lbs hL ?_);clear hL;intro bl w1 hL)|(refine zd hL ?_;clear hL;intro w1 hL)))
  obtain⟨wq,hwq⟩:∃ x,x=w:=⟨_,rfl⟩
  subst hwq
  refine zf [10,11,12,13,14,15,16,17,18,19,20,21,22,23] ?_
  refine dv0 ?_
  apply zb
  ·intro g w hb G;replace hL:=hL.grow hb;clear G;simp only[za,fLa,fLb,sTa,sTb]
   (with_reducible refine ldO (ze.cell jz rfl) hL ?_)
   exact cY
  simp only[apN,apC]
  refine dv1 1 ?_
  refine dv1 2 ?_
  refine dv1 3 ?_
  refine dv1 4 ?_
  apply zb
  ·intro g w hb G;replace hL:=hL.grow hb;clear G;simp only[za,fLa,fLb,sTa,sTb]
   (with_reducible refine ldO (ze.cell jz rfl) hL ?_)
   exact cY
  simp only[apN,apC]
  refine dv1 6 ?_
  refine dv1 7 ?_
  refine dv1 8 ?_
  refine dv1 9 ?_
  apply zb
  ·intro g w hb G;replace hL:=hL.grow hb;have d5:=yv G 5;have d10:=yv G 10;clear G;simp only[za,fLa,fLb,sTa,sTb];simp only[d5,d10]
   go_wp2_with (go_at_call 106;refine(yL _ _ _).mono ?_;rintro e w3 ⟨rfl,hb3⟩;dsimp only)
   exact⟨rfl,_,rfl,(by assumption),rfl⟩
  simp only[apN,apC]
  refine dv1 0 ?_
  refine dv1 12 ?_
  refine dnd hL ?_
  clear hL;intro w2 hL;simp only[zV,sTa,sTb]
  go_wp2_with (first|(with_reducible refine ldO (ze.cell jz rfl) hL ?_)|(with_reducible first|refine lld hL ?_|((first|refine lbx hL ?_|refine lal hL ?_|refine lbs hL ?_);clear hL;intro bl w1 hL)|(refine zd hL ?_;clear hL;intro w1 hL)))
  (try simp only[Exit.inBlock,Exit.then]);(first|refine yP rfl rfl ?_|refine yQ rfl rfl ?_)
  exact⟨rfl,⟨false,⟨false,inn,inn⟩,false,false,zn⟩,hL.pure (fun w=>⟨rfl,zp.nil w⟩)⟩
 ·go_enter Tryz.func197,Tryz.ntmps197
  go_upto_region 4 with(first|(with_reducible refine ldO (ze.cell jz rfl) hL ?_)|(with_reducible first|refine lld hL ?_|((first|refine lbx hL ?_|refine lal hL ?_|refine lbs hL ?_);clear hL;intro bl w1 hL)|(refine zd hL ?_;clear hL;intro w1 hL)))
  obtain⟨wq,hwq⟩:∃ x,x=w:=⟨_,rfl⟩
  subst hwq
  refine zf [26,27,28,29,30,31,32,33,34,35,36,37,38,39,40] ?_
  refine dv0 ?_
  apply zb
  ·intro g w hb G;replace hL:=hL.grow hb;clear G;simp only[za,fLa,fLb,sTa,sTb]
   (with_reducible refine ldO (ze.cell jz rfl) hL ?_)
   exact cY
  simp only[apN,apC]
  refine dv1 1 ?_
  refine dv1 2 ?_
  refine dv1 3 ?_
  refine dv1 4 ?_
  refine dv1 5 ?_
  apply zb
  ·intro g w hb G;replace hL:=hL.grow hb;clear G;simp only[za,fLa,fLb,sTa,sTb]
   (with_reducible refine ldO (ze.cell jz rfl) hL ?_)
   exact cY
  simp only[apN,apC]
  refine dv1 7 ?_
  refine dv1 8 ?_
  refine dv1 9 ?_
  refine dv1 10 ?_
  apply zb
  ·intro g w hb G;replace hL:=hL.grow hb;have d6:=yv G 6;have d11:=yv G 11;clear G;simp only[za,fLa,fLb,sTa,sTb];simp only[d6,d11]
   go_wp2_with (go_at_call 106;refine(yL _ _ _).mono ?_;rintro e w3 ⟨rfl,hb3⟩;dsimp only)
   exact⟨rfl,_,rfl,(by assumption),rfl⟩
  simp only[apN,apC]
  refine dv1 0 ?_
  refine dv1 13 ?_
  refine dnd hL ?_
  clear hL;intro w2 hL;simp only[zV,sTa,sTb]
  go_wp2_with (first|(with_reducible refine ldO (ze.cell jz rfl) hL ?_)|(with_reducible first|refine lld hL ?_|((first|refine lbx hL ?_|refine lal hL ?_|refine lbs hL ?_);clear hL;intro bl w1 hL)|(refine zd hL ?_;clear hL;intro w1 hL)))
  (try simp only[Exit.inBlock,Exit.then]);(first|refine yP rfl rfl ?_|refine yQ rfl rfl ?_)
  exact⟨rfl,⟨false,⟨false,-inn,inn⟩,false,false,zn⟩,hL.pure (fun w=>⟨rfl,zp.nil w⟩)⟩
 ·go_enter Tryz.func197,Tryz.ntmps197
  go_upto_region 6 with(first|(with_reducible refine ldO (ze.cell jz rfl) hL ?_)|(with_reducible first|refine lld hL ?_|((first|refine lbx hL ?_|refine lal hL ?_|refine lbs hL ?_);clear hL;intro bl w1 hL)|(refine zd hL ?_;clear hL;intro w1 hL)))
  obtain⟨wq,hwq⟩:∃ x,x=w:=⟨_,rfl⟩
  subst hwq
  refine zf [43,44,45,46,47,48,49,50,51,52,53,54,55,56,57,58] ?_
  refine dv0 ?_
  refine dv0 ?_
  apply zb
  ·intro g w hb G;replace hL:=hL.grow hb;clear G;simp only[za,fLa,fLb,sTa,sTb]
   (with_reducible refine ldO (ze.cell jz rfl) hL ?_)
   exact cY
  simp only[apN,apC]
  refine dv1 2 ?_
  refine dv1 3 ?_
  refine dv1 4 ?_
  refine dv1 5 ?_
  refine dv1 6 ?_
  apply zb
  ·intro g w hb G;replace hL:=hL.grow hb;clear G;simp only[za,fLa,fLb,sTa,sTb]
   (with_reducible refine ldO (ze.cell jz rfl) hL ?_)
   exact cY
  simp only[apN,apC]
  refine dv1 8 ?_
  refine dv1 9 ?_
  refine dv1 10 ?_
  refine dv1 11 ?_
  refine dv1 12 ?_
  refine dv1 0 ?_
  refine dv1 14 ?_
  refine Xe [1,13] hL (by kernel_rfl) (by kernel_rfl) (fun _ _ _ _ _ h=>h) ?_ ?_
  ·intro i hi;simp only[List.mem_cons,List.not_mem_nil,or_false]at hi;rcases hi with rfl|rfl
   ·(refine Q0 rfl rfl ?_;intro g w hb G;(try simp[zi,List.filter_cons,Region.binds,z7,RAt]at G);simp only[za,List.foldl_cons,List.foldl_nil,List.set_cons_succ,List.set_cons_zero];(try simp only[G]);exact⟨_,.inl ⟨rfl,fun w=>(by go_simp<;>(try (split<;>(rename_i hs;simp[hs,cnd]))))⟩,rfl⟩)
   ·(refine Q0 rfl rfl ?_;intro g w hb G;(try simp[zi,List.filter_cons,Region.binds,z7,RAt]at G);simp only[za,List.foldl_cons,List.foldl_nil,List.set_cons_succ,List.set_cons_zero];(try simp only[G]);exact⟨_,.inl ⟨rfl,fun w=>(by go_simp<;>(try (split<;>(rename_i hs;simp[hs,cnd]))))⟩,rfl⟩)
  intro g w2 hb hR;simp only[List.length_cons,List.length_nil,Nat.reduceAdd]at hR
  have e0:=yv hR 0
  have e1:=yv hR 1
  have e2:=yv hR 2
  have e3:=yv hR 3
  have e4:=yv hR 4
  have e5:=yv hR 5
  have e6:=yv hR 6
  have e7:=yv hR 7
  have e8:=yv hR 8
  have e9:=yv hR 9
  have e10:=yv hR 10
  have e11:=yv hR 11
  have e12:=yv hR 12
  have e13:=yv hR 13
  have e14:=yv hR 14
  have e15:=yv hR 15
  clear hR;simp only[za,fLa,fLb,sTa,sTb]
  simp only[e0,e1,e2,e3,e4,e5,e6,e7,e8,e9,e10,e11,e12,e13,e14,e15]
  clear e0 e1 e2 e3 e4 e5 e6 e7 e8 e9 e10 e11 e12 e13 e14 e15
  replace hL:=hL.grow hb
  clear hb
  go_wp2_with (first|(with_reducible refine ldO (ze.cell jz rfl) hL ?_)|(with_reducible first|refine lld hL ?_|((first|refine lbx hL ?_|refine lal hL ?_|refine lbs hL ?_);clear hL;intro bl w1 hL)|(refine zd hL ?_;clear hL;intro w1 hL)))
  (try simp only[Exit.inBlock,Exit.then]);(first|refine yP rfl rfl ?_|refine yQ rfl rfl ?_)
  exact⟨rfl,⟨false,zC,inn==1,inn==0,zn⟩,hL.pure (fun w=>⟨rfl,zp.nil w⟩)⟩
 ·go_enter Tryz.func197,Tryz.ntmps197
  go_wp2_with (first|(with_reducible refine ldO (ze.cell jz rfl) hL ?_)|(with_reducible first|refine lld hL ?_|((first|refine lbx hL ?_|refine lal hL ?_|refine lbs hL ?_);clear hL;intro bl w1 hL)|(refine zd hL ?_;clear hL;intro w1 hL)))
  (try simp only[Exit.inBlock,Exit.then]);(first|refine yP rfl rfl ?_|refine yQ rfl rfl ?_)
  exact⟨rfl,⟨true,zC,false,false,zn⟩,hL.pure (fun w=>⟨rfl,zp.nil w⟩)⟩
theorem Yo (w0:World) (bs:Nat) (i:Ins) (at' : Nat) (x:Pv) (es:List (Int × Pd)) (wr fl:Bool) (A:List zj) (D:List zw) (w:World) (h:Stp w0 bs i at' x es wr fl A D w) (hk:i.kind=1∨i.kind=14∨i.kind=2∨i.kind=3) (hr:-2147483648≤i.n∧i.n≤2147483647):
  Calls Tryz.prog 154 #[.pointer (some ⟨bs,0,none⟩)] w fun e w2=>∃ g:Gu,e=.returned g.v∧Stp w0 bs i at' x es wr fl A ((fun w=>qq w g (jb i))::D) w2:=by
 obtain⟨s,evs,Re,hR,hL⟩:=h
 have HP:=Lib.hid (fun (b1:Nat) (U:zj) (w1:World) (hL1:Loc w0 w1 (U::(b1,151,[.pointer (some ⟨bs,0,none⟩)])::(bs,153,stC i at' x s wr fl)::(A++Re)) ((fun w=>ym w evs es)::D))=>GV w0 w1 _ _ 197 [.pointer (some ⟨b1,0,none⟩)] (jb i) zd0 hL1 (fun bg N w2 hL2=>za9 w0 bg b1 bs U i at' x s wr fl ((A++Re)++N) _ w2 hk hr hL2))
 have HR:=Lib.hid hR
 clear hR
 obtain⟨ik,ito,ia,ib,inn,ig⟩:=i
 obtain⟨xn,⟨xp,xvn,xc⟩,⟨xfp,xfn,xfc⟩⟩:=x
 obtain⟨sp,sn,sc⟩:=s
 go_enter Tryz.func154,Tryz.ntmps154
 go_upto_region 1 with(first|(with_reducible first|refine lld hL ?_|((first|refine lbx hL ?_|refine lal hL ?_|refine lbs hL ?_);clear hL;intro bl w1 hL)|(refine zd hL ?_;clear hL;intro w1 hL)))
 go_wp2_with (first|(go_at_call 196;refine(HP.out _ _ _ hL).mono ?_;rintro e w3 ⟨⟨gn,⟨gsn,glo,ghi⟩,gt,gff,⟨gp,gk,gc⟩⟩,rfl,hL3⟩;clear hL;have hL:=hL3;clear hL3;dsimp only)|(with_reducible first|refine lld hL ?_|((first|refine lbx hL ?_|refine lal hL ?_|refine lbs hL ?_);clear hL;intro bl w1 hL)|(refine zd hL ?_;clear hL;intro w1 hL)))
 (try simp only[Exit.inBlock,Exit.then]);refine rt1 ?_
 refine⟨⟨gn,⟨gsn,glo,ghi⟩,gt,gff,⟨gp,gk,gc⟩⟩,rfl,⟨sp,sn,sc⟩,evs,Re,HR.out,hL.drop (.cons _ (.cons _ (List.Sublist.refl _))) (fun S hS=>?_)⟩
 rcases List.mem_cons.1 hS with rfl|hS
 ·exact List.mem_cons_of_mem _ List.mem_cons_self
 ·rcases List.mem_cons.1 hS with rfl|hS
  ·exact List.mem_cons_self
  ·exact List.mem_cons_of_mem _ (List.mem_cons_of_mem _ hS)
theorem Loc.facts1 {w0 w:World}{L:List zj}{D:List zw}{S U:zw}(h:Loc w0 w L (S::D)) (hu:∀ w,S w→U w):Loc w0 w L (U::D):=by
 have h2:=h.drop (List.Sublist.refl _) (D':=S::S::D) (fun V hV=>by
  rcases List.mem_cons.1 hV with rfl|hV
  ·exact List.mem_cons_self
  ·exact hV)
 exact h2.both (fun w h1 _=>hu w h1)
theorem zfh:∀ args w,(callFunc 202 args).run Tryz.prog w=.ok (.enter 202 args) w:=fun args w=>by kernel_rfl
theorem zgC:yg Tryz.prog 110:=⟨by kernel_rfl,by kernel_rfl⟩
theorem zba (w0:World) (bs b7 bp:Nat) (i:Ins) (at' : Nat) (x:Pv) (wr fl:Bool) (A:List zj) (D:List zw) (d:Pd) (a:Nat) (K:FuncId) (F:Gu→Gu) (FD:Res→Res) (he:∀ args w,(callFunc K args).run Tryz.prog w=.ok (.enter K args) w)
  (hf:∀ g w,Calls Tryz.prog K #[Gu.v g] w fun e w'=>e=.returned (F g).v∧Below w.heap.size w w') (hF:∀ w g dd,qq w g dd→qq w (F g) (FD dd)) (hi:i.a=a) (ha:a<d.vars.length):
  U9 w0 bs i at' x wr fl ((b7,110,[.func (.func K) #[] #[]])::(bp,151,[.pointer (some ⟨bs,0,none⟩)])::A) D 202 [.pointer (some ⟨b7,0,none⟩),.pointer (some ⟨bp,0,none⟩)] d (d.setVar a (FD (d.var a))):=by
 intro bx r s N D2 w hsub hrn hP
 obtain⟨gv,gf,rs,Rv,Rh,Rf,hO,hL⟩:=hP
 have hgd:=(hL.get (S:=zS gv gf d.vars d.fields) List.mem_cons_self).1
 have hn:=hO.vars.flatlen jl (by decide)
 have hgl:=hgd.len
 obtain⟨bv,cs,hp,rfl,htk,hlen⟩:=hO.vars.block (by omega)
 have hel:=hO.vars.elem jl zT (k:=a) (by omega)
 have hput:=hO.vars.put jl zT (k:=a) (by omega) (F (gv.getD a zT))
 have hle:=hO.vars.fits
 have hkn:a<r.vars.n:=by omega
 have HS:=Lib.hid (show a*7+(F (gv.getD a zT)).cells.length≤cs.length by show a*7+7≤_;rw[hlen];omega)
 have HO:=Lib.hid (And.intro hO hput)
 have HA:=Lib.hid (show ze Tryz.prog 108 cs (a*7) (gv.getD a zT).v from ze.agg zZ hel rfl)
 have HC:=Lib.hid (fun w'=>hf (gv.getD a zT) w')
 have HDT:=Lib.hid (fun w' (h:zS gv gf d.vars d.fields w')=>show zS (gv.set a (F (gv.getD a zT))) gf (d.setVar a (FD (d.var a))).vars (d.setVar a (FD (d.var a))).fields w' from ⟨h.1.set ha (hF _ _ _ (h.1.at' a ha)),h.2⟩)
 generalize d.setVar a (FD (d.var a))=d2 at HDT ⊢
 replace hL:=hL.perm (Kp _ _ _ _ _ A (Rf++Rh) N).symm
 clear hO hput hn hgl htk hlen hle hgd hsub hf hF hel
 obtain⟨rn,⟨vp,vn,vc⟩,⟨fp,fn,fc⟩⟩:=r
 obtain⟨ik,ito,ia,ib,inn,ig⟩:=i
 dsimp only at hp hi hkn hrn
 subst hp hi hrn
 generalize gv.getD a zT=g at *
 generalize F g=g' at *
 obtain⟨gn,⟨gsn,glo,ghi⟩,gt,gff,⟨gp,gk,gc⟩⟩:=g
 obtain⟨gn',⟨gsn',glo',ghi'⟩,gt',gff',⟨gp',gk',gc'⟩⟩:=g'
 go_enter Tryz.func202,Tryz.ntmps202
 obtain⟨wq,hwq⟩:∃ x,x=w:=⟨_,rfl⟩
 subst hwq
 refine zf [4,5,6,7,8,9,10,11,12,13,14,15,16,17,18,19,20,21,22,23,24,25,26] ?_
 refine dv0 ?_
 refine dv1 0 ?_
 refine dv1 1 ?_
 refine dv1 2 ?_
 apply zb
 ·intro g w hb G;replace hL:=hL.grow hb;clear G;simp only[za,fLa,fLb,sTa,sTb]
  refine ldO (ze.cell jz rfl) hL ?_
  exact cY
 simp only[apN,apC]
 refine dv1 4 ?_
 refine dv1 5 ?_
 refine dv1 6 ?_
 refine dv1 7 ?_
 apply zb
 ·intro g w hb G;replace hL:=hL.grow hb;clear G;simp only[za,fLa,fLb,sTa,sTb]
  refine ldO (ze.cell zgC rfl) hL ?_
  exact cY
 simp only[apN,apC]
 refine dv0 ?_
 refine dv1 10 ?_
 refine dv1 11 ?_
 refine dv1 12 ?_
 apply zb
 ·intro g w hb G;replace hL:=hL.grow hb;clear G;simp only[za,fLa,fLb,sTa,sTb]
  refine ldO (ze.cell jz rfl) hL ?_
  exact cY
 simp only[apN,apC]
 refine dv1 14 ?_
 refine dv1 15 ?_
 refine dv1 16 ?_
 refine dv1 17 ?_
 refine dv2 13 18 ?_
 apply zb
 ·intro g w hb G;replace hL:=hL.grow hb;have d19:=yv G 19;clear G;simp only[za,fLa,fLb,sTa,sTb];simp only[d19]
  refine zR hL rfl rfl cIn HA.out ?_
  exact cY
 simp only[apN,apC]
 apply zb
 ·intro g w hb G;replace hL:=hL.grow hb;have d9:=yv G 9;have d20:=yv G 20;clear G;simp only[za,fLa,fLb,sTa,sTb];simp only[d9,d20]
  go_wp2_with ((with_reducible refine(HC.out _).mono ?_);rintro e w3 ⟨rfl,hb3⟩;dsimp only)
  exact⟨rfl,_,rfl,hb3,rfl⟩
 simp only[apN,apC]
 refine dv2 3 8 ?_
 refine dnd hL ?_
 clear hL;intro w2 hL;simp only[zV,sTa,sTb]
 go_wp2_with (first|(refine qa (b:=bv) (off:=a*7) (vs:=Gu.cells ⟨gn',⟨gsn',glo',ghi'⟩,gt',gff',⟨gp',gk',gc'⟩⟩) (cs':=zk cs (a*7) (Gu.cells ⟨gn',⟨gsn',glo',ghi'⟩,gt',gff',⟨gp',gk',gc'⟩⟩)) hL rfl rfl cIn rfl zZ.sz rfl HS.out rfl ?_;clear hL;intro w' hL)|(with_reducible first|refine lld hL ?_|((first|refine lbx hL ?_|refine lal hL ?_|refine lbs hL ?_);clear hL;intro bl w1 hL)|(refine zd hL ?_;clear hL;intro w1 hL)))
 (try simp only[Exit.inBlock,Exit.then]);(first|refine yP rfl rfl ?_|refine yQ rfl rfl ?_)
 obtain⟨⟨h1,h2,h3⟩,hput⟩:=HO.out
 refine⟨rfl,_,gf,rs,[(bv,108,zk cs (a*7) (Gu.cells ⟨gn',⟨gsn',glo',ghi'⟩,gt',gff',⟨gp',gk',gc'⟩⟩))],Rh,Rf,⟨hput,h2,h3⟩,?_⟩
 exact(hL.perm (Kp _ _ _ _ _ A (Rf++Rh) N)).facts1 HDT.out
theorem Va (w0:World) (bs:Nat) (i:Ins) (at' : Nat) (x:Pv) (d:Pd) (es:List (Int × Pd)) (wr fl:Bool) (A:List zj) (D:List zw) (w:World) (a:Nat) (may:Bool) (go:Int) (K:FuncId) (F:Gu→Gu) (FD:Res→Res) (he:∀ args w,(callFunc K args).run Tryz.prog w=.ok (.enter K args) w)
  (hf:∀ g w,Calls Tryz.prog K #[Gu.v g] w fun e w'=>e=.returned (F g).v∧Below w.heap.size w w') (hF:∀ w g dd,qq w g dd→qq w (F g) (FD dd)) (h:Stp w0 bs i at' x es wr fl A D w) (ok:qS w0 x d) (hi:i.a=a) (ha:a<d.vars.length) (hle:es.length≤10):
  Calls Tryz.prog 159 #[.pointer (some ⟨bs,0,none⟩),.bool may,.int .i64 go,.func (.func K) #[] #[]] w fun e w'=>e=.returned (.tuple #[])∧Stp w0 bs i at' x (es++if may=true then [(go,d.setVar a (FD (d.var a)))] else []) wr fl A D w':=by
 obtain⟨s,evs,Re,hR,hL⟩:=h
 have HE:=Lib.hid (fun (b7 bp:Nat) (w1:World) (h1:Stp w0 bs i at' x es wr fl ((b7,110,[.func (.func K) #[] #[]])::(bp,151,[.pointer (some ⟨bs,0,none⟩)])::A) D w1)=>J8 w0 bs i at' x d (d.setVar a (FD (d.var a))) es wr fl _ D w1 go 202 [.pointer (some ⟨b7,0,none⟩),.pointer (some ⟨bp,0,none⟩)] zfh h1 ok.x ok.n ok.few ok.own ok.n (by show (d.vars.set a _).length+d.fields.length≤_;rw[List.length_set];exact ok.m) hle (zba w0 bs b7 bp i at' x wr fl A D d a K F FD he hf hF hi ha))
 have HR:=Lib.hid hR
 clear hR ok hf hF
 generalize d.setVar a (FD (d.var a))=d' at *
 obtain⟨sp,sn,sc⟩:=s
 cases may with
 | false=>
  go_enter Tryz.func159,Tryz.ntmps159
  go_wp2_with (first|(with_reducible first|refine lld hL ?_|((first|refine lbx hL ?_|refine lal hL ?_|refine lbs hL ?_);clear hL;intro bl w1 hL)|(refine zd hL ?_;clear hL;intro w1 hL)))
  (try simp only[Exit.inBlock,Exit.then]);(first|refine yP rfl rfl ?_|refine yQ rfl rfl ?_)
  refine⟨rfl,?_⟩
  have hM:Stp w0 bs i at' x es wr fl A D _:=⟨⟨sp,sn,sc⟩,evs,Re,HR.out,hL.drop (.cons _ (.cons _ (List.Sublist.refl _))) (fun _ h=>h)⟩
  simpa using hM
 | true=>
  go_enter Tryz.func159,Tryz.ntmps159
  go_step
  go_step
  go_step
  ((with_reducible refine lbx hL ?_);clear hL;intro bp w1 hL)
  ((with_reducible refine lbx hL ?_);clear hL;intro b7 w1 hL)
  go_wp2_with (first|(with_reducible refine ldO (ze.cell jz rfl) hL ?_)|(with_reducible first|refine lld hL ?_|((first|refine lbx hL ?_|refine lal hL ?_|refine lbs hL ?_);clear hL;intro bl w1 hL)|(refine zd hL ?_;clear hL;intro w1 hL))|(go_at_call 162;refine(HE.out b7 bp _ (Stp.push2 HR.out hL)).mono ?_;rintro e w3 ⟨rfl,hM⟩;dsimp only))
  (try simp only[Exit.inBlock,Exit.then]);(first|refine yP rfl rfl ?_|refine yQ rfl rfl ?_)
  exact⟨rfl,by simpa using hM.drop2⟩
theorem zd1:∀ args w,(callFunc 199 args).run Tryz.prog w=.ok (.enter 199 args) w:=fun args w=>by kernel_rfl
abbrev Yy (at' : Nat):Res:=⟨false,zC,false,false,[(at' : Int)]⟩
theorem X1 (w0:World) (bg b1 bs at' : Nat) (N:List zj) (w:World) (hr1:zg Tryz.prog 151 w0 b1 0 (.pointer (some ⟨bs,0,none⟩))) (hr2:zg Tryz.prog 3 w0 bs 6 (.int .i64 at')) (hL:Loc w0 w ((bg,108,qu.cells)::([]++N)) []):
  Calls Tryz.prog 199 #[.pointer (some ⟨bg,0,none⟩),.pointer (some ⟨b1,0,none⟩)] w fun e w2=>e=.returned (.tuple #[])∧∃ g:Gu,Loc w0 w2 ((bg,108,g.cells)::([]++N)) [fun w=>qq w g (Yy at')]:=by
 have HR1:=Lib.hid hr1
 have HR2:=Lib.hid hr2
 clear hr1 hr2
 go_enter Tryz.func199,Tryz.ntmps199
 go_wp2_with (first|(with_reducible refine ldB HR1.out hL ?_)|(with_reducible refine ldB HR2.out hL ?_)|(with_reducible first|refine lld hL ?_|((first|refine lbx hL ?_|refine lal hL ?_|refine lbs hL ?_);clear hL;intro bl w1 hL)|(refine zd hL ?_;clear hL;intro w1 hL)))
 (try simp only[Exit.inBlock,Exit.then]);(first|refine yP rfl rfl ?_|refine yQ rfl rfl ?_)
 refine⟨rfl,⟨false,zC,false,false,⟨some ⟨bl,0,none⟩,1,1⟩⟩,?_⟩
 have hLp:=hL.perm (L':=((bg,108,Gu.cells ⟨false,zC,false,false,⟨some ⟨bl,0,none⟩,1,1⟩⟩)::([]++N))++[(bl,3,[.int .i64 at'])]) List.perm_append_comm
 refine hLp.fact fun w' hr=>⟨rfl,?_⟩
 exact zM.ints (B:=0) (l:=[(at' : Int)]) (zM.full rfl (by decide)) ⟨by simp,fun e he=>⟨Nat.zero_le _,hr e he⟩⟩
theorem GW (b1 bs at' : Nat) (w:World) (hr1:zg Tryz.prog 151 w b1 0 (.pointer (some ⟨bs,0,none⟩))) (hr2:zg Tryz.prog 3 w bs 6 (.int .i64 at')):
  Calls Tryz.prog 196 #[.func (.func 199) #[] #[.pointer (some ⟨b1,0,none⟩)]] w fun e w2=>∃ g:Gu,e=.returned g.v∧Loc w w2 [] [fun w=>qq w g (Yy at')]:=
 GV w w [] [] 199 [.pointer (some ⟨b1,0,none⟩)] (Yy at') zd1 (Loc.start w) (fun bg N w1 hL1=>X1 w bg b1 bs at' N w1 hr1 hr2 hL1)
def zd2 (wq:World) (at' : Nat):Value→World→Prop:=fun v w=>∃ g:Gu,v=g.v∧Loc wq w [] [fun w=>qq w g (Yy at')]
theorem zd2.stable {wq:World}{at' : Nat}:jC (zd2 wq at'):=by
 rintro v w w' hb ⟨g,h1,h2⟩;exact⟨g,h1,h2.grow hb⟩
theorem j9.get {rs:List Sl}{gf:List (List Gu)}{Rf:List zj}(h:j9 rs gf Rf):∀ k,k<rs.length→∃ Ra R Rb,Rf=Ra++(R++Rb)∧zM 108 7 (rs.getD k zn).p (rs.getD k zn).n (rs.getD k zn).cap ((gf.getD k []).flatMap Gu.cells) R∧
  ∀ gl' R',zM 108 7 (rs.getD k zn).p (rs.getD k zn).n (rs.getD k zn).cap (gl'.flatMap Gu.cells) R'→j9 rs (gf.set k gl') (Ra++(R'++Rb)):=by
 induction h with
 | nil=>intro k hk;exact absurd hk (Nat.not_lt_zero k)
 | @cons s gl R rs gf Rf h hs ih=>
  intro k hk
  cases k with
  | zero=>exact⟨[],R,Rf,rfl,h,fun gl' R' h'=>(show j9 (s::rs) (gl'::gf) (R'++Rf) from j9.cons (s:=s) (gl:=gl') (R:=R') h' hs)⟩
  | succ k=>
   obtain⟨Ra,R1,Rb,e1,e2,e3⟩:=ih k (by simpa using hk)
   exact⟨R++Ra,R1,Rb,by rw[e1,List.append_assoc],e2,fun gl' R' h'=>by
    rw[List.append_assoc];exact .cons h (e3 gl' R' h')⟩
theorem ju.set {w:World}{gf:List (List Gu)}{fs:List (List Res)}(h:ju w gf fs) {k:Nat}(hk:k<fs.length) {gl:List Gu}{ds:List Res}(hg:zX w gl ds):ju w (gf.set k gl) (fs.set k ds):=by
 refine⟨by simp[h.len],fun j hj=>?_⟩
 have hj' : j<fs.length:=by simpa using hj
 rw[qy _ _ _ _ _ (by rw[h.len];exact hk),qy _ _ _ _ _ hk]
 by_cases hjk:j=k
 ·rw[if_pos hjk,if_pos hjk];exact hg
 ·rw[if_neg hjk,if_neg hjk];exact h.at' j hj'
end Go.Proofs.YtplcndmdkabmeaaGreatDoor
