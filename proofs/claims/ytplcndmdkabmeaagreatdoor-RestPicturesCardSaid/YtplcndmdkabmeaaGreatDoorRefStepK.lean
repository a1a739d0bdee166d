/- The walk over the reference's StepPicture, kind by kind: what is expected. Conditions: the picture is right and of runs; the instruction is right. -/
import Derived.Test.YtplcndmdkabmeaaGreatDoorRefStepJ0
set_option linter.unusedSimpArgs false
set_option linter.unusedVariables false
set_option maxRecDepth 100000
set_option maxHeartbeats 20000000
namespace Go.Proofs.YtplcndmdkabmeaaGreatDoor
open Go.Proofs.Tryz
open Go.RowKit
theorem zit (p:Pg) (is:Nat->Ins) (i:Ins) (x:Pv) (d:Pd) (gx:List Gu) (at' : Nat) (w:World) (aV:zf p is=0) (hc:zy w p is) (a9:zq w x d) (bH:JQ w x d gx) (ok:q2 p is d) (aS:at' < p.n) (hi:is at'=i) (hk:i.kind=17):q7 p at' x d gx (zJ i at' d) w:=by
 have bO:=(zp aV).1;have cx:=bO.n1;have b0:=(zp aV).2 at' aS;rw[hi]at b0;have b1:=qG b0;have cQ:=jv b0;have bx:=qq.of ok aV;have cr:=ju.of bx.r bO;have b4:=za (fun T (cP:Below w.heap.size w T)=>qU x d T (a9.grow cP) cr);have c6:d.vars.length+d.fields.length<=9223372036854775807:=(qV.of ok aV a9).m;have cc:=za c6;obtain⟨a5,aA,c4,bC⟩:=hc;have c5:=c4 (by omega);have bA:=zd.agg (P:=prog) jP (bC at' aS).1 (fun j v bI=>(bC at' aS).2 j v bI) rfl;rw[hi]at bA;have ca:=za (show zd prog 86 w a5 (aA+at' * 6) (Ins.v i) from bA);have bS:=a9.e;have bD:=ok.none;rw[bD]at bS;have cF:=a9.vars.n;have cE:=a9.vars.m;rw[show zJ i at' d=⟨if Jf ((d.var i.a.toNat).gu ⟨none,(d.var i.a.toNat).l.length,0⟩)=true then [((at' : Int)+1,d.setVar i.a.toNat (jV (d.var i.a.toNat)))] else [],false,noG ((d.var i.a.toNat).gu zi)⟩ by unfold zJ;rw[if_neg (by omega),if_neg (by omega),if_neg (by omega),if_neg (by omega),if_neg (by omega),if_pos hk]];obtain⟨cw,bw⟩:=idx (b1.a (by rw[hk];decide)) bx.r.vars;obtain⟨a6,aB,c7,bB⟩:=bH.l.ex;have c8:=c7 (by omega);have bF:=bH.d.at' i.a.toNat bw;have bM:=zd.agg (P:=prog) zO (bB i.a.toNat (by omega)).1 (bB i.a.toNat (by omega)).2 rfl;obtain⟨bk,bP⟩:∃ s,gx.getD i.a.toNat zI=(d.var i.a.toNat).gu s:=⟨_,bF.e⟩;have cy:zk w bk (d.var i.a.toNat).l:=by have:=bF.l;rw[bP]at this;exact this
 rw[bP]at bM;have b2:=za (show zd prog 108 w a6 (aB+i.a.toNat*7) ((d.var i.a.toNat).gu bk).v from bM);have cn:i.a.toNat<x.vars.n:=by omega
 have br:=za bD;have b9:=fun T=>Zg ((d.var i.a.toNat).gu bk) T
 have c1:noG ((d.var i.a.toNat).gu bk)=noG ((d.var i.a.toNat).gu zi):=rfl;simp only[zc5 cy.n,c1]at b9;have ac:=za bw;have ch:=za (bx.r.vg _ bw).span;generalize cX:Jf ((d.var i.a.toNat).gu ⟨none,(d.var i.a.toNat).l.length,0⟩)=yes at *;generalize cT:noG ((d.var i.a.toNat).gu zi)=no at *;have b3:=za b9;clear b9 c1 cX cT;clear a9 bH aV b1 cQ bx bO b0 cr c4 bC bA hi bD c6 ok c7 bB bF bM bP cy bw;unfold q7;generalize i.a.toNat=a at *;generalize cv:d.var a=g at *;obtain⟨dr,ba,dq,aW,aZ,aY⟩:=i;obtain⟨dy,⟨dz,dA,bl⟩,⟨bo,bn,bm⟩⟩:=x;obtain⟨bg,be,ds,bf,bd⟩:=p;dsimp only at hk c5 cx aS bS cF cE cw c8 cn;subst hk c5 bS cF cw c8;obtain⟨ak,⟨C,t,ghi⟩,gt,aj,bu⟩:=g;obtain⟨bh,bi,bj⟩:=bk;dsimp only[Res.gu]at b2 b3 ch;have bq:=za cv;clear cv;generalize cq:(if yes=true then [(((at' : Int)+1),d.setVar a (jV ⟨ak,⟨C,t,ghi⟩,gt,aj,bu⟩))] else [])=aD;have bp:=za cq;clear cq;have dm:nA 17=true:=by decide
 have dn:nB 17=false:=by decide
 have J:=Loc.start w;go_enter func40,ntmps40;go_step;go_step;go_step
 ((with_reducible refine lbx J ?_);clear J;intro aK w1 J)
 ((with_reducible refine lbx J ?_);clear J;intro aL w1 J)
 go_upto_region 4 with(with_reducible first|refine ldB ca.out J ?_|(refine lal J ?_;clear J;intro aM w1 J)|refine lld J ?_|((first|refine lbx J ?_|refine lal J ?_|refine lbs J ?_);clear J;intro o w1 J)|(refine zc J ?_;clear J;intro w1 J))
 go_upto_region 5 with(first|(go_at_call 20;refine(b4.out _ J.below).mono ?_;rintro q dc ⟨⟨cH,⟨dv,ab,ah⟩,⟨ag,fn,af⟩⟩,rfl,bv,b7,du,de,a4,a3,cB,a0,aT⟩;replace J:=J.gave aT;simp only[aX]at J;clear aT;dsimp only)|(with_reducible first|(refine lal J ?_;clear J;intro aH w1 J)|refine lld J ?_|((first|refine lbx J ?_|refine lal J ?_|refine lbs J ?_);clear J;intro o w1 J)|(refine zc J ?_;clear J;intro w1 J)))
 have bN:cH=false:=by rw[show cH=d.none from cB];exact br.out
 subst bN;clear cB;have ct:=(J.get (S:=zH bv b7 d.vars d.fields) List.mem_cons_self).1;have c2:=a0.vars.flatlen jb (by decide);have cR:=ct.len
 (try dsimp only at c2)
 obtain⟨I,az,c9,rfl,cV,bJ⟩:=a0.vars.block (show 0<ab by have:=ac.out;omega);have cJ:=za (show zn prog 108 az (a*7) (bv.getD a zI).v from zn.agg zO (a0.vars.elem jb zI (k:=a) (show a<ab by have:=ac.out;omega)) rfl);have bL:=fun g=>a0.vars.put jb zI (k:=a) (show a<ab by have:=ac.out;omega) g
 have cz:=a0.vars.fits
 (try dsimp only at c9 bL cz bJ)
 subst c9;have dj:a<ab:=by have:=ac.out;omega
 have cL:=za (fun g:Gu=>show a*7+g.cells.length<=az.length by show a*7+7<=_;rw[bJ];omega);have cK:=za (And.intro bL a0);clear ct c2 cR cV bL cz bJ a0;simp only[aX]at J;go_upto_region 6 with(with_reducible first|(refine lbs J ?_;clear J;intro aN w1 J)|refine lld J ?_|((first|refine lbx J ?_|refine lal J ?_|refine lbs J ?_);clear J;intro o w1 J)|(refine zc J ?_;clear J;intro w1 J))
 go_upto_region 7 with(first|(go_at_call 78;refine cg J (zt _) ?_;clear J;intro w1 J;dsimp only)|((with_reducible refine lal J ?_);clear J;first|(have cU:ay=ay:=rfl;clear cU;intro aI w1 J)|intro ay w1 J)|(with_reducible first|refine lld J ?_|((first|refine lbx J ?_|refine lal J ?_|refine lbs J ?_);clear J;intro o w1 J)|(refine zc J ?_;clear J;intro w1 J)))
 go_upto_region 13 with(first|(with_reducible refine ldB b2.out J ?_)|(go_at_call 74;refine cg J (qj _ _) ?_;clear J;intro w1 J;dsimp only)|(go_at_call 75;refine cg J (qk _ _) ?_;clear J;intro w1 J;dsimp only)|(go_at_call 78;refine cg J (zt _) ?_;clear J;intro w1 J;dsimp only)|(with_reducible first|(refine lal J ?_;clear J;intro aJ w1 J)|refine lld J ?_|((first|refine lbx J ?_|refine lal J ?_|refine lbs J ?_);clear J;intro o w1 J)|(refine zc J ?_;clear J;intro w1 J)))
 go_upto_region 25 with(first|(go_at_call 79;refine cg J (b3.out _) ?_;clear J;intro w1 J;dsimp only)|(with_reducible first|refine lld J ?_|((first|refine lbx J ?_|refine lal J ?_|refine lbs J ?_);clear J;intro o w1 J)|(refine zc J ?_;clear J;intro w1 J)))
 go_step;go_step;go_step;go_step;go_step;go_step;go_step;go_step;go_cut [18] from 338 (fun c wc=>∃ (s:Sl) (aP:List EdV) (b5:List zg),c=.slice s.p s.n s.cap∧zB 75 4 s.p s.n s.cap (aP.flatMap EdV.cells) b5∧Loc w wc (((aJ,108,[.bool false,.bool true,.int .i64 0,.int .i64 0,.bool false,.bool false,.slice none 0 0])::(aI,108,[.bool false,.bool true,.int .i64 0,.int .i64 0,.bool false,.bool false,.slice none 0 0])::(ay,108,[.bool ak,.bool C,.int .i64 t,.int .i64 ghi,.bool gt,.bool aj,.slice bh bi bj])::(aN,75,[.int .i64 ((at' : Int)+1),.bool false,.slice (some ⟨I,0,none⟩) ab ah,.slice ag fn af])::(aH,54,[.bool false,.slice (some ⟨I,0,none⟩) ab ah,.slice ag fn af])::(aM,86,[.int .i64 17,.int .i64 ba,.int .i64 a,.int .i64 aW,.int .i64 aZ,.int .i64 aY])::(aL,54,[.bool false,.slice (some ⟨a6,aB,none⟩) d.vars.length bl,.slice bo bn bm])::(aK,27,[.int .i64 bg,.int .i64 be,.slice (some ⟨a5,aA,none⟩) bf bd])::(I,108,az)::(a3++a4))++b5) [fun w=>j8 w aP aD,zH bv b7 d.vars d.fields])
 case first=>
  cases yes with
  | false=>
   go_wp2_with (with_reducible first|refine lld J ?_|((first|refine lbx J ?_|refine lal J ?_|refine lbs J ?_);clear J;intro o w1 J)|(refine zc J ?_;clear J;intro w1 J));go_meet
   case rel=>exact⟨zi,[],[],rfl,zB.nil,(J.pure (S:=fun w=>j8 w [] aD) (fun w=>by rw[<- bp.out];exact j8.nil w)).conv (by simp only[List.append_nil])⟩
  | true=>
   go_upto_region 28 with(first|(go_at_call 20;refine(b4.out _ J.below).mono ?_;rintro q dc ⟨⟨cI,⟨dw,ad,ax⟩,⟨aw,av,au⟩⟩,rfl,a7,aQ,da,df,aF,aE,cC,ae,aT⟩;replace J:=J.gave aT;simp only[aX]at J;clear aT;have cf:=za cC;clear cC;dsimp only)|(with_reducible first|(refine lal J ?_;clear J;intro bs w1 J)|refine lld J ?_|((first|refine lbx J ?_|refine lal J ?_|refine lbs J ?_);clear J;intro o w1 J)|(refine zc J ?_;clear J;intro w1 J)))
   have bN:cI=false:=by rw[show cI=d.none from cf.out];exact br.out
   clear cf;subst bN;have bG:=(J.get (S:=zH a7 aQ d.vars d.fields) List.mem_cons_self).1;have cs:=bG.at' a ac.out;have c3:=ae.vars.flatlen jb (by decide);have cS:=bG.len
   (try dsimp only at c3)
   obtain⟨aa,ar,cA,rfl,cW,bK⟩:=ae.vars.block (show 0<ad by have:=ac.out;omega);have bE:=ae.vars.elem jb zI (k:=a) (show a<ad by have:=ac.out;omega);have a8:=fun g=>ae.vars.put jb zI (k:=a) (show a<ad by have:=ac.out;omega) g
   have c0:=ae.vars.fits
   (try dsimp only at cA a8 c0 bK)
   subst cA;have dp:a<ad:=by have:=ac.out;omega
   have cd:=za (fun g:Gu=>show a*7+g.cells.length<=ar.length by show a*7+7<=_;rw[bK];omega);have cb:=za (And.intro a8 ae);have bz:=cs.e;unfold Pd.var at bq;rw[bq.out]at bz;obtain⟨⟨u1,u2,u3⟩,bR⟩:∃ s:Sl,s=(a7.getD a zI).s:=⟨_,rfl⟩;rw[<- bR]at bz;have bW:=za (show zn prog 108 ar (a*7) (Gu.v ⟨ak,⟨C,t,ghi⟩,gt,aj,⟨u1,u2,u3⟩⟩) from zn.agg zO (by rw[bz]at bE;exact bE) rfl);have bZ:=za (show ∀ T,zH a7 aQ d.vars d.fields T->zk T ⟨u1,u2,u3⟩ bu from fun T h=>by
    have b8:=(h.1.at' a ac.out).l;rw[bq.out]at b8;rw[bR];exact b8)
   clear bG cs c3 cS cW a8 c0 bK bE ae bR bz;replace J:=J.perm (((((((((((List.perm_middle.symm).cons _).cons _).cons _).cons _).cons _).cons _).cons _).cons _).cons _).cons _);go_upto_region 29 with(with_reducible first|refine ldO bW.out J ?_|(refine lal J ?_;clear J;intro bt w1 J)|refine lld J ?_|((first|refine lbx J ?_|refine lal J ?_|refine lbs J ?_);clear J;intro o w1 J)|(refine zc J ?_;clear J;intro w1 J))
   go_step;go_step;go_step;go_step
   ((with_reducible refine zc J ?_);clear J;intro w1 J)
   go_step;go_step;go_step
   ((with_reducible refine zc J ?_);clear J;intro w1 J)
   go_step;go_step;go_step;go_step;simp only[Act.put,List.setIfInBounds_toArray,List.set_cons_zero,List.set_cons_succ];go_cut [] from 338 (fun wc=>Loc w wc ((bt,108,[.bool false,.bool (ji ⟨C,t,ghi⟩).none,.int .i64 (ji ⟨C,t,ghi⟩).lo,.int .i64 (ji ⟨C,t,ghi⟩).hi,.bool gt,.bool false,.slice u1 u2 u3])::(bs,54,[.bool false,.slice (some ⟨aa,0,none⟩) ad ax,.slice aw av au])::(aJ,108,[.bool false,.bool true,.int .i64 0,.int .i64 0,.bool false,.bool false,.slice none 0 0])::(aI,108,[.bool false,.bool true,.int .i64 0,.int .i64 0,.bool false,.bool false,.slice none 0 0])::(ay,108,[.bool ak,.bool C,.int .i64 t,.int .i64 ghi,.bool gt,.bool aj,.slice bh bi bj])::(aN,75,[.int .i64 ((at' : Int)+1),.bool false,.slice (some ⟨I,0,none⟩) ab ah,.slice ag fn af])::(aH,54,[.bool false,.slice (some ⟨I,0,none⟩) ab ah,.slice ag fn af])::(aM,86,[.int .i64 17,.int .i64 ba,.int .i64 a,.int .i64 aW,.int .i64 aZ,.int .i64 aY])::(aL,54,[.bool false,.slice (some ⟨a6,aB,none⟩) d.vars.length bl,.slice bo bn bm])::(aK,27,[.int .i64 bg,.int .i64 be,.slice (some ⟨a5,aA,none⟩) bf bd])::(I,108,az)::(aa,108,ar)::((a3++a4)++(aE++aF))) [zH a7 aQ d.vars d.fields,zH bv b7 d.vars d.fields])
   case first=>
    clear cd cb bZ bW cL cK cJ b4 b3 b2 ca bp ac br cc bq aS cx cE cn;cases C with
    | true=>
     go_wp2_with (with_reducible first|refine lld J ?_|((first|refine lbx J ?_|refine lal J ?_|refine lbs J ?_);clear J;intro o w1 J)|(refine zc J ?_;clear J;intro w1 J));go_meet
     case rel=>rw[VR];exact J
    | false=>
     have aU:=zde ch.out
     (try dsimp only at aU)
     by_cases aC:t=0
     ·subst aC
      by_cases al:ghi=0
      ·subst al
       clear aU;go_upto_region 31 with(with_reducible first|refine lld J ?_|((first|refine lbx J ?_|refine lal J ?_|refine lbs J ?_);clear J;intro o w1 J)|(refine zc J ?_;clear J;intro w1 J))
       obtain⟨bV,a1⟩:∃ x,x=w1:=⟨_,rfl⟩;subst a1;refine zb [109,110,111,112,113,114,21,22] ?_
       iterate 8 refine qdv ?_
       refine dnd J ?_;clear J;intro bU J;simp only[zr,sTa,sTb];go_wp2_with (with_reducible first|refine lld J ?_|((first|refine lbx J ?_|refine lal J ?_|refine lbs J ?_);clear J;intro o w1 J)|(refine zc J ?_;clear J;intro w1 J));go_meet
       case rel=>rw[VS];exact J
      ·have cZ:(ghi==0)=false:=by simpa using al
       have cG:decide (ghi<1)=false:=by simp;omega
       have a2:=za al;clear aU al;go_upto_region 31 with(with_reducible first|refine lld J ?_|((first|refine lbx J ?_|refine lal J ?_|refine lbs J ?_);clear J;intro o w1 J)|(refine zc J ?_;clear J;intro w1 J))
       obtain⟨bV,a1⟩:∃ x,x=w1:=⟨_,rfl⟩;subst a1;refine zb [109,110,111,112,113,114,21,22] ?_
       iterate 8 refine qdv ?_
       refine dnd J ?_;clear J;intro bU J;simp only[zr,sTa,sTb];go_wp2_with (with_reducible first|refine lld J ?_|((first|refine lbx J ?_|refine lal J ?_|refine lbs J ?_);clear J;intro o w1 J)|(refine zc J ?_;clear J;intro w1 J));go_meet
       case rel=>rw[za1 a2.out];exact J
     ·have cZ:(t==0)=false:=by simpa using aC
      by_cases al:ghi=0
      ·subst al
       have cG:decide (-1<t)=false:=by simp;omega
       have a2:=za aC;clear aU aC;go_upto_region 31 with(with_reducible first|refine lld J ?_|((first|refine lbx J ?_|refine lal J ?_|refine lbs J ?_);clear J;intro o w1 J)|(refine zc J ?_;clear J;intro w1 J))
       obtain⟨bV,a1⟩:∃ x,x=w1:=⟨_,rfl⟩;subst a1;refine zb [109,110,111,112,113,114,21,22] ?_
       iterate 8 refine qdv ?_
       refine dnd J ?_;clear J;intro bU J;simp only[zr,sTa,sTb];go_wp2_with (with_reducible first|refine lld J ?_|((first|refine lbx J ?_|refine lal J ?_|refine lbs J ?_);clear J;intro o w1 J)|(refine zc J ?_;clear J;intro w1 J));go_meet
       case rel=>rw[za2 a2.out];exact J
      ·have dt:(ghi==0)=false:=by simpa using al
       have cG:decide (ghi<t)=false:=by simp;omega
       have a2:=za (And.intro aC al);clear aU aC al;go_upto_region 31 with(with_reducible first|refine lld J ?_|((first|refine lbx J ?_|refine lal J ?_|refine lbs J ?_);clear J;intro o w1 J)|(refine zc J ?_;clear J;intro w1 J))
       obtain⟨bV,a1⟩:∃ x,x=w1:=⟨_,rfl⟩;subst a1;refine zb [109,110,111,112,113,114,21,22] ?_
       iterate 8 refine qdv ?_
       refine dnd J ?_;clear J;intro bU J;simp only[zr,sTa,sTb];go_wp2_with (with_reducible first|refine lld J ?_|((first|refine lbx J ?_|refine lal J ?_|refine lbs J ?_);clear J;intro o w1 J)|(refine zc J ?_;clear J;intro w1 J));go_meet
       case rel=>rw[VT a2.out.1 a2.out.2];exact J
   clear J;have J:=hcut;clear hcut;replace J:=J.conv (L':=(bt,108,Gu.cells ⟨false,ji ⟨C,t,ghi⟩,gt,false,⟨u1,u2,u3⟩⟩)::(bs,54,[.bool false,.slice (some ⟨aa,0,none⟩) ad ax,.slice aw av au])::(aJ,108,[.bool false,.bool true,.int .i64 0,.int .i64 0,.bool false,.bool false,.slice none 0 0])::(aI,108,[.bool false,.bool true,.int .i64 0,.int .i64 0,.bool false,.bool false,.slice none 0 0])::(ay,108,[.bool ak,.bool C,.int .i64 t,.int .i64 ghi,.bool gt,.bool aj,.slice bh bi bj])::(aN,75,[.int .i64 ((at' : Int)+1),.bool false,.slice (some ⟨I,0,none⟩) ab ah,.slice ag fn af])::(aH,54,[.bool false,.slice (some ⟨I,0,none⟩) ab ah,.slice ag fn af])::(aM,86,[.int .i64 17,.int .i64 ba,.int .i64 a,.int .i64 aW,.int .i64 aZ,.int .i64 aY])::(aL,54,[.bool false,.slice (some ⟨a6,aB,none⟩) d.vars.length bl,.slice bo bn bm])::(aK,27,[.int .i64 bg,.int .i64 be,.slice (some ⟨a5,aA,none⟩) bf bd])::(I,108,az)::(aa,108,ar)::((a3++a4)++(aE++aF))) rfl;have cu:∀ T,zH a7 aQ d.vars d.fields T->ql T ⟨false,ji ⟨C,t,ghi⟩,gt,false,⟨u1,u2,u3⟩⟩ (jV ⟨ak,⟨C,t,ghi⟩,gt,aj,bu⟩):=fun T h=>⟨rfl,bZ.out T h⟩
   have bY:=za cu;clear cu;generalize cD:ji ⟨C,t,ghi⟩=db at J bY;have dd:=za cD;clear cD;obtain⟨aq,ao,an⟩:=db;go_upto_region 43 with(first|(refine zR (b:=aa) (off:=a*7) (vs:=Gu.cells ⟨false,⟨aq,ao,an⟩,gt,false,⟨u1,u2,u3⟩⟩) (cs':=zj ar (a*7) (Gu.cells ⟨false,⟨aq,ao,an⟩,gt,false,⟨u1,u2,u3⟩⟩)) J rfl rfl cIn rfl zO.sz rfl (cd.out ⟨false,⟨aq,ao,an⟩,gt,false,⟨u1,u2,u3⟩⟩) rfl ?_;clear J;intro w1 J)|(with_reducible first|(refine lal J ?_;clear J;intro ck w1 J)|refine lld J ?_|((first|refine lbx J ?_|refine lal J ?_|refine lbs J ?_);clear J;intro o w1 J)|(refine zc J ?_;clear J;intro w1 J)))
   obtain⟨a8,ae⟩:=cb.out;have cm:VI ⟨false,⟨some ⟨aa,0,none⟩,ad,ax⟩,⟨aw,av,au⟩⟩ (a7.set a ⟨false,⟨aq,ao,an⟩,gt,false,⟨u1,u2,u3⟩⟩) aQ da [(aa,108,zj ar (a*7) (Gu.cells ⟨false,⟨aq,ao,an⟩,gt,false,⟨u1,u2,u3⟩⟩))] aF aE:=⟨a8 ⟨false,⟨aq,ao,an⟩,gt,false,⟨u1,u2,u3⟩⟩,ae.heads,ae.rows⟩;clear a8 ae;have cl:=J.perm ((((((((((((((X2 (aa,108,zj ar (a*7) (Gu.cells ⟨false,⟨aq,ao,an⟩,gt,false,⟨u1,u2,u3⟩⟩)) (a3++a4) (aE++aF))).cons _).cons _).cons _).cons _).cons _).cons _).cons _).cons _).cons _).cons _).cons _).cons _);clear J;have J:=cl;clear cl;replace J:=J.conv (L':=((ck,75,[.int .i64 ((at' : Int)+1),.bool false,.slice (some ⟨aa,0,none⟩) ad ax,.slice aw av au])::(bt,108,Gu.cells ⟨false,⟨aq,ao,an⟩,gt,false,⟨u1,u2,u3⟩⟩)::(bs,54,[.bool false,.slice (some ⟨aa,0,none⟩) ad ax,.slice aw av au])::(aJ,108,[.bool false,.bool true,.int .i64 0,.int .i64 0,.bool false,.bool false,.slice none 0 0])::(aI,108,[.bool false,.bool true,.int .i64 0,.int .i64 0,.bool false,.bool false,.slice none 0 0])::(ay,108,[.bool ak,.bool C,.int .i64 t,.int .i64 ghi,.bool gt,.bool aj,.slice bh bi bj])::(aN,75,[.int .i64 ((at' : Int)+1),.bool false,.slice (some ⟨I,0,none⟩) ab ah,.slice ag fn af])::(aH,54,[.bool false,.slice (some ⟨I,0,none⟩) ab ah,.slice ag fn af])::(aM,86,[.int .i64 17,.int .i64 ba,.int .i64 a,.int .i64 aW,.int .i64 aZ,.int .i64 aY])::(aL,54,[.bool false,.slice (some ⟨a6,aB,none⟩) d.vars.length bl,.slice bo bn bm])::(aK,27,[.int .i64 bg,.int .i64 be,.slice (some ⟨a5,aA,none⟩) bf bd])::(I,108,az)::(a3++a4))++((aa,108,zj ar (a*7) (Gu.cells ⟨false,⟨aq,ao,an⟩,gt,false,⟨u1,u2,u3⟩⟩))::(aE++aF))) rfl;replace J:=J.facts (S:=fun w=>zq w ⟨false,⟨some ⟨aa,0,none⟩,ad,ax⟩,⟨aw,av,au⟩⟩ (d.setVar a (jV ⟨ak,⟨C,t,ghi⟩,gt,aj,bu⟩))) (fun T b1 bQ=>cm.is (B:=w.heap.size) ⟨J.tailNodup,fun e cp=>⟨J.ids e (List.mem_append_right _ cp),b1 e cp⟩⟩ ⟨by
    have cN:=bY.out T bQ;exact bQ.1.set ac.out cN,bQ.2⟩ br.out.symm (by show (d.vars.set a _).length+_<=_;rw[List.length_set];exact cc.out))
   clear cm;go_wp2_with (first|((with_reducible refine lbs J ?_);clear J;intro b6 w1 J)|(refine zF (p:=none) (n:=0) (cap:=0) (z:=[.int .i64 0,.bool false,.slice none 0 0,.slice none 0 0]) (K:=(b6,_,_)::(ck,_,_)::(bt,_,_)::(bs,_,_)::_) (R:=[]) (news:=EdV.cells ⟨((at' : Int)+1),⟨false,⟨some ⟨aa,0,none⟩,ad,ax⟩,⟨aw,av,au⟩⟩⟩) zB.nil J (by simp only[List.append_nil];rfl) rfl rfl V6 zdh (by decide) rfl (fun _=>⟨⟨b6,0,none⟩,rfl,fun j u bI=>by rw[zG,Nat.zero_add];exact zP (J.heap (b:=b6) cIn) j bI⟩) rfl (by simp[Value.oneCell']) (by have:maxLen=9223372036854775807:=rfl;omega) (by omega) ?_;clear J;intro bc aO cj dx aR J;simp only[List.cons_append]at J)|(with_reducible first|refine lld J ?_|((first|refine lbx J ?_|refine lal J ?_|refine lbs J ?_);clear J;intro o w1 J)|(refine zc J ?_;clear J;intro w1 J)));go_meet
   case rel=>
    refine⟨⟨bc,1,aO⟩,[⟨((at' : Int)+1),⟨false,⟨some ⟨aa,0,none⟩,ad,ax⟩,⟨aw,av,au⟩⟩⟩],cj,rfl,by simpa using aR,?_⟩;exact(J.drop (L':=((aJ,108,[.bool false,.bool true,.int .i64 0,.int .i64 0,.bool false,.bool false,.slice none 0 0])::(aI,108,[.bool false,.bool true,.int .i64 0,.int .i64 0,.bool false,.bool false,.slice none 0 0])::(ay,108,[.bool ak,.bool C,.int .i64 t,.int .i64 ghi,.bool gt,.bool aj,.slice bh bi bj])::(aN,75,[.int .i64 ((at' : Int)+1),.bool false,.slice (some ⟨I,0,none⟩) ab ah,.slice ag fn af])::(aH,54,[.bool false,.slice (some ⟨I,0,none⟩) ab ah,.slice ag fn af])::(aM,86,[.int .i64 17,.int .i64 ba,.int .i64 a,.int .i64 aW,.int .i64 aZ,.int .i64 aY])::(aL,54,[.bool false,.slice (some ⟨a6,aB,none⟩) d.vars.length bl,.slice bo bn bm])::(aK,27,[.int .i64 bg,.int .i64 be,.slice (some ⟨a5,aA,none⟩) bf bd])::(I,108,az)::(a3++a4))++cj) (.cons _ (.cons _ (.cons _ (.cons _ (List.Sublist.refl _))))) (fun _ h=>h)).turn (fun w h=>by rw[<- bp.out];exact(j8.nil w).snoc h)
 clear J;obtain⟨⟨bc,bb,aO⟩,aP,b5,rfl,aR,J⟩:=hcut;have cM:=za aR;have dk:bb<=1:=by
  have b8:bb=aP.length:=aR.flatlen zgE (by decide);have dh:=(J.get (S:=fun w=>j8 w aP aD) List.mem_cons_self).len;have di:aD.length<=1:=by rw[<- bp.out];split<;>simp
  omega
 clear aR;go_wp2_with (with_reducible first|refine lld J ?_|((first|refine lbx J ?_|refine lal J ?_|refine lbs J ?_);clear J;intro o w1 J)|(refine zc J ?_;clear J;intro w1 J))
 (try simp only[Exit.inBlock,Exit.then]);refine rt3 ?_
 refine⟨⟨bc,bb,aO⟩,rfl,?_⟩;exact((J.edges (s:=⟨bc,bb,aO⟩) cM.out).turn (U:=fun w=>zN w gx d.vars->jS w ⟨bc,bb,aO⟩ aD) (fun w h _=>h)).drop (List.nil_sublist _) (fun S cO=>by rw[List.mem_singleton.1 cO];exact List.mem_cons_self)
end Go.Proofs.YtplcndmdkabmeaaGreatDoor
