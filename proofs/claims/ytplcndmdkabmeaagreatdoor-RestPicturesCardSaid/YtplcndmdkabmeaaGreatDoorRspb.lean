/- The walk over the reference's StepPicture, kind by kind: what is made of one guess, of two. Conditions: the picture is right and of runs; the instruction is right. -/
import Derived.Test.YtplcndmdkabmeaaGreatDoorRspa
set_option linter.unusedSimpArgs false
set_option linter.unusedVariables false
set_option maxRecDepth 100000
set_option maxHeartbeats 4000000
namespace Go.Proofs.YtplcndmdkabmeaaGreatDoor
open Go.Proofs.Tryz
open Go.RowKit
theorem zgQ (p:Pg) (is:Nat->Ins) (i:Ins) (x:Pv) (d:Pd) (gx:List Gu) (at' : Nat) (w:World) (ak:zf p is=0) (hc:zy w p is) (ah:zq w x d) (b1:JQ w x d gx) (ok:q2 p is d) (az:at' < p.n) (hi:is at'=i) (hk:i.kind=2) (bg:i.n=0):q7 p at' x d gx (zJ i at' d) w:=by
 have aS:=(zp ak).1;have b3:=aS.n1;have a0:=(zp ak).2 at' az;rw[hi]at a0;have bm:=qG a0;have bz:=jv a0;have aO:=qq.of ok ak;have ba:=ju.of aO.r aS;have bq:=za (fun ao (bx:Below w.heap.size w ao)=>qU x d ao (ah.grow bx) ba);have bk:d.vars.length+d.fields.length<=9223372036854775807:=(qV.of ok ak ah).m;have bu:=za bk;obtain⟨ai,an,bi,aN⟩:=hc;have bj:=bi (by omega);have aM:=zd.agg (P:=prog) jP (aN at' az).1 (fun j v b2=>(aN at' az).2 j v b2) rfl;rw[hi]at aM;have bs:=za (show zd prog 86 w ai (an+at' * 6) (Ins.v i) from aM);have aT:=ah.e;have aP:=ok.none;rw[aP]at aT;have bo:=ah.vars.n;have b7:=ah.vars.m;rw[show zJ i at' d=⟨jK d at' i.to.toNat (qZ i),false,false⟩ by unfold zJ;rw[if_pos (by omega)]];have aU:=za aP;obtain⟨bc,bd⟩:=idx (bm.to (by rw[hk];decide)) aO.r.vars;have aq:=za bd;clear ah b1 ak bm bz aO aS a0 ba bi aN aM hi aP bk ok;clear bd;unfold q7;generalize i.to.toNat=k at *;obtain⟨bC,bE,a1,a2,bD,a3⟩:=i;obtain⟨bK,⟨aC,bL,a8⟩,⟨aB,aA,a9⟩⟩:=x;obtain⟨a7,a5,bF,a6,a4⟩:=p;dsimp only at bc bg;subst bc bg;dsimp only at hk bj b3 az aT bo b7;subst hk bj aT bo;have bA:nA 2=false:=by decide
 have bB:nB 2=false:=by decide
 have J:=Loc.start w;go_enter func40,ntmps40;go_step;go_step;go_step
 ((with_reducible refine lbx J ?_);clear J;intro ax w1 J)
 ((with_reducible refine lbx J ?_);clear J;intro ay w1 J)
 go_upto_region 4 with(with_reducible first|refine ldB bs.out J ?_|(refine lal J ?_;clear J;intro I w1 J)|refine lld J ?_|((first|refine lbx J ?_|refine lal J ?_|refine lbs J ?_);clear J;intro ae w1 J)|(refine zc J ?_;clear J;intro w1 J))
 go_upto_region 5 with(first|(go_at_call 20;refine(bq.out _ J.below).mono ?_;rintro q bJ ⟨⟨bp,⟨bH,R,ad⟩,⟨aa,fn,T⟩⟩,rfl,aW,aV,bG,Rv,au,ar,bn,ab,be⟩;replace J:=J.gave be;simp only[aX]at J;clear be;dsimp only)|(with_reducible first|(refine lal J ?_;clear J;intro av w1 J)|refine lld J ?_|((first|refine lbx J ?_|refine lal J ?_|refine lbs J ?_);clear J;intro ae w1 J)|(refine zc J ?_;clear J;intro w1 J)))
 have b5:bp=false:=by rw[show bp=d.none from bn];exact aU.out
 subst b5;clear bn;have bb:=(J.get (S:=zH aW aV d.vars d.fields) List.mem_cons_self).1;have bh:=ab.vars.flatlen jb (by decide);have b0:=bb.len
 (try dsimp only at bh)
 obtain⟨o,af,bl,rfl,b6,aR⟩:=ab.vars.block (show 0<R by have:=aq.out;omega);have al:=fun t=>ab.vars.put jb zI (k:=k) (show k<R by have:=aq.out;omega) t
 have bf:=ab.vars.fits
 (try dsimp only at bl al bf aR)
 subst bl;have b9:k<R:=by have:=aq.out;omega
 have bv:=za (fun t:Gu=>show k*7+t.cells.length<=af.length by show k*7+7<=_;rw[aR];omega);have bt:=za (And.intro al ab);clear bb bh b0 b6 al bf aR ab;simp only[aX]at J;go_upto_region 6 with(with_reducible first|(refine lbs J ?_;clear J;intro aj w1 J)|refine lld J ?_|((first|refine lbx J ?_|refine lal J ?_|refine lbs J ?_);clear J;intro ae w1 J)|(refine zc J ?_;clear J;intro w1 J))
 go_upto_region 7 with(first|(go_at_call 78;refine cg J (zt _) ?_;clear J;intro w1 J;dsimp only)|((with_reducible refine lal J ?_);clear J;first|(have b4:ag=ag:=rfl;clear b4;intro aw w1 J)|intro ag w1 J)|(with_reducible first|refine lld J ?_|((first|refine lbx J ?_|refine lal J ?_|refine lbs J ?_);clear J;intro ae w1 J)|(refine zc J ?_;clear J;intro w1 J)))
 go_upto_region 13 with(first|(go_at_call 74;refine cg J (qj _ _) ?_;clear J;intro w1 J;dsimp only)|(go_at_call 75;refine cg J (qk _ _) ?_;clear J;intro w1 J;dsimp only)|(go_at_call 78;refine cg J (zt _) ?_;clear J;intro w1 J;dsimp only)|(with_reducible first|(refine lal J ?_;clear J;intro C w1 J)|refine lld J ?_|((first|refine lbx J ?_|refine lal J ?_|refine lbs J ?_);clear J;intro ae w1 J)|(refine zc J ?_;clear J;intro w1 J)))
 have br:=za (fun ao=>zK ⟨false,zA,false,true,zi⟩ ao);go_upto_region 81 with(with_reducible first|refine lld J ?_|((first|refine lbx J ?_|refine lal J ?_|refine lbs J ?_);clear J;intro ae w1 J)|(refine zc J ?_;clear J;intro w1 J))
 have aY:=J.conv (L':=(fun l=>(C,108,[.bool false,.bool true,.int .i64 0,.int .i64 0,bif lst l 7 then .bool false else .bool false,bif lst l 9 then .bool true else .bool false,.slice none 0 0])::(aw,108,[.bool false,.bool true,.int .i64 0,.int .i64 0,.bool false,.bool false,.slice none 0 0])::(ag,108,[.bool false,.bool true,.int .i64 0,.int .i64 0,.bool false,.bool false,.slice none 0 0])::(aj,75,[.int .i64 ((at' : Int)+1),.bool false,.slice (some ⟨o,0,none⟩) R ad,.slice aa fn T])::(av,54,[.bool false,.slice (some ⟨o,0,none⟩) R ad,.slice aa fn T])::(I,86,[.int .i64 2,.int .i64 k,.int .i64 a1,.int .i64 a2,.int .i64 0,.int .i64 a3])::(ay,54,[.bool false,.slice aC d.vars.length a8,.slice aB aA a9])::(ax,27,[.int .i64 a7,.int .i64 a5,.slice (some ⟨ai,an,none⟩) a6 a4])::(o,108,af)::(ar++au)) (Array.replicate 10 false)) (by simp only[KG,cond_false]);refine YZ (w0:=_) [316,317,318,319,320,321,322,323] [(0,316,.pointer (some ⟨I,4,none⟩)),(1,317,.int .i64 0),(2,318,.bool false),(3,319,.pointer (some ⟨I,4,none⟩)),(4,320,.int .i64 0),(5,321,.bool true),(6,322,.pointer (some ⟨C,4,none⟩)),(8,323,.pointer (some ⟨C,5,none⟩))] (fun l=>(C,108,[.bool false,.bool true,.int .i64 0,.int .i64 0,bif lst l 7 then .bool false else .bool false,bif lst l 9 then .bool true else .bool false,.slice none 0 0])::(aw,108,[.bool false,.bool true,.int .i64 0,.int .i64 0,.bool false,.bool false,.slice none 0 0])::(ag,108,[.bool false,.bool true,.int .i64 0,.int .i64 0,.bool false,.bool false,.slice none 0 0])::(aj,75,[.int .i64 ((at' : Int)+1),.bool false,.slice (some ⟨o,0,none⟩) R ad,.slice aa fn T])::(av,54,[.bool false,.slice (some ⟨o,0,none⟩) R ad,.slice aa fn T])::(I,86,[.int .i64 2,.int .i64 k,.int .i64 a1,.int .i64 a2,.int .i64 0,.int .i64 a3])::(ay,54,[.bool false,.slice aC d.vars.length a8,.slice aB aA a9])::(ax,27,[.int .i64 a7,.int .i64 a5,.slice (some ⟨ai,an,none⟩) a6 a4])::(o,108,af)::(ar++au)) (by kernel_rfl) (by kernel_rfl) aY ⟨?_,?_,?_,?_,?_,?_,?_,?_,?_,?_,trivial⟩ ?_
 all_goals clear J aY
 ·intro l t w hi g y
  have J:=g.loc
  try dsimp only at J
  refine zX (d:=316) (x:=.pointer (some ⟨I,4,none⟩)) (by kernel_rfl) cMm g (by simp only[ze (show (7:Nat)≠0 by decide),ze (show (9:Nat)≠0 by decide)]) ?_;clear y;simp only[fD];go_wp2;exact cY
 ·intro l t w hi g y
  have J:=g.loc
  try dsimp only at J
  have d0:=g.vals (0,316,.pointer (some ⟨I,4,none⟩)) cMm (y 0 (by decide))
  try dsimp only at d0
  refine zX (d:=317) (x:=.int .i64 0) (by kernel_rfl) cMm g (by simp only[ze (show (7:Nat)≠1 by decide),ze (show (9:Nat)≠1 by decide)]) ?_;clear y;simp only[fD];simp only[d0];go_wp2_with (with_reducible first|refine lld J ?_|refine ldD J ?_);exact cY
 ·intro l t w hi g y
  have J:=g.loc
  try dsimp only at J
  have d1:=g.vals (1,317,.int .i64 0) cMm (y 1 (by decide))
  try dsimp only at d1
  refine zX (d:=318) (x:=.bool false) (by kernel_rfl) cMm g (by simp only[ze (show (7:Nat)≠2 by decide),ze (show (9:Nat)≠2 by decide)]) ?_;clear y;simp only[fD];simp only[d1];go_wp2;exact cY
 ·intro l t w hi g y
  have J:=g.loc
  try dsimp only at J
  refine zX (d:=319) (x:=.pointer (some ⟨I,4,none⟩)) (by kernel_rfl) cMm g (by simp only[ze (show (7:Nat)≠3 by decide),ze (show (9:Nat)≠3 by decide)]) ?_;clear y;simp only[fD];go_wp2;exact cY
 ·intro l t w hi g y
  have J:=g.loc
  try dsimp only at J
  have d3:=g.vals (3,319,.pointer (some ⟨I,4,none⟩)) cMm (y 3 (by decide))
  try dsimp only at d3
  refine zX (d:=320) (x:=.int .i64 0) (by kernel_rfl) cMm g (by simp only[ze (show (7:Nat)≠4 by decide),ze (show (9:Nat)≠4 by decide)]) ?_;clear y;simp only[fD];simp only[d3];go_wp2_with (with_reducible first|refine lld J ?_|refine ldD J ?_);exact cY
 ·intro l t w hi g y
  have J:=g.loc
  try dsimp only at J
  have d4:=g.vals (4,320,.int .i64 0) cMm (y 4 (by decide))
  try dsimp only at d4
  refine zX (d:=321) (x:=.bool true) (by kernel_rfl) cMm g (by simp only[ze (show (7:Nat)≠5 by decide),ze (show (9:Nat)≠5 by decide)]) ?_;clear y;simp only[fD];simp only[d4];go_wp2;exact cY
 ·intro l t w hi g y
  have J:=g.loc
  try dsimp only at J
  refine zX (d:=322) (x:=.pointer (some ⟨C,4,none⟩)) (by kernel_rfl) cMm g (by simp only[ze (show (7:Nat)≠6 by decide),ze (show (9:Nat)≠6 by decide)]) ?_;clear y;simp only[fD];go_wp2;exact cY
 ·intro l t w hi g y
  have J:=g.loc
  try dsimp only at J
  have d6:=g.vals (6,322,.pointer (some ⟨C,4,none⟩)) cMm (y 6 (by decide))
  try dsimp only at d6
  have d2:=g.vals (2,318,.bool false) cMm (y 2 (by decide))
  try dsimp only at d2
  refine Z9 (i:=7) (L:=(C,108,[.bool false,.bool true,.int .i64 0,.int .i64 0,.bool false,bif lst l 9 then .bool true else .bool false,.slice none 0 0])::(aw,108,[.bool false,.bool true,.int .i64 0,.int .i64 0,.bool false,.bool false,.slice none 0 0])::(ag,108,[.bool false,.bool true,.int .i64 0,.int .i64 0,.bool false,.bool false,.slice none 0 0])::(aj,75,[.int .i64 ((at' : Int)+1),.bool false,.slice (some ⟨o,0,none⟩) R ad,.slice aa fn T])::(av,54,[.bool false,.slice (some ⟨o,0,none⟩) R ad,.slice aa fn T])::(I,86,[.int .i64 2,.int .i64 k,.int .i64 a1,.int .i64 a2,.int .i64 0,.int .i64 a3])::(ay,54,[.bool false,.slice aC d.vars.length a8,.slice aB aA a9])::(ax,27,[.int .i64 a7,.int .i64 a5,.slice (some ⟨ai,an,none⟩) a6 a4])::(o,108,af)::(ar++au)) g (by kernel_rfl) (by simp only[q1 hi,ze (show (9:Nat)≠7 by decide),cond_true]) ?_;clear y;simp only[fD];simp only[d6,d2]
  ((with_reducible refine zc J ?_);clear J;intro w1 J)
  exact⟨rfl,rfl,J⟩
 ·intro l t w hi g y
  have J:=g.loc
  try dsimp only at J
  refine zX (d:=323) (x:=.pointer (some ⟨C,5,none⟩)) (by kernel_rfl) cMm g (by simp only[ze (show (7:Nat)≠8 by decide),ze (show (9:Nat)≠8 by decide)]) ?_;clear y;simp only[fD];go_wp2;exact cY
 ·intro l t w hi g y
  have J:=g.loc
  try dsimp only at J
  have d8:=g.vals (8,323,.pointer (some ⟨C,5,none⟩)) cMm (y 8 (by decide))
  try dsimp only at d8
  have d5:=g.vals (5,321,.bool true) cMm (y 5 (by decide))
  try dsimp only at d5
  refine Z9 (i:=9) (L:=(C,108,[.bool false,.bool true,.int .i64 0,.int .i64 0,bif lst l 7 then .bool false else .bool false,.bool true,.slice none 0 0])::(aw,108,[.bool false,.bool true,.int .i64 0,.int .i64 0,.bool false,.bool false,.slice none 0 0])::(ag,108,[.bool false,.bool true,.int .i64 0,.int .i64 0,.bool false,.bool false,.slice none 0 0])::(aj,75,[.int .i64 ((at' : Int)+1),.bool false,.slice (some ⟨o,0,none⟩) R ad,.slice aa fn T])::(av,54,[.bool false,.slice (some ⟨o,0,none⟩) R ad,.slice aa fn T])::(I,86,[.int .i64 2,.int .i64 k,.int .i64 a1,.int .i64 a2,.int .i64 0,.int .i64 a3])::(ay,54,[.bool false,.slice aC d.vars.length a8,.slice aB aA a9])::(ax,27,[.int .i64 a7,.int .i64 a5,.slice (some ⟨ai,an,none⟩) a6 a4])::(o,108,af)::(ar++au)) g (by kernel_rfl) (by simp only[q1 hi,ze (show (7:Nat)≠9 by decide),cond_true]) ?_;clear y;simp only[fD];simp only[d8,d5]
  ((with_reducible refine zc J ?_);clear J;intro w1 J)
  exact⟨rfl,rfl,J⟩
 intro t bI l aQ J ac;simp only[aQ 7 (by decide),aQ 9 (by decide),cond_true]at J;have aD:=ac (0,316,.pointer (some ⟨I,4,none⟩)) cMm (show (0:Nat)<10 by decide);have aE:=ac (1,317,.int .i64 0) cMm (show (1:Nat)<10 by decide);have aF:=ac (2,318,.bool false) cMm (show (2:Nat)<10 by decide);have aH:=ac (3,319,.pointer (some ⟨I,4,none⟩)) cMm (show (3:Nat)<10 by decide);have aI:=ac (4,320,.int .i64 0) cMm (show (4:Nat)<10 by decide);have aJ:=ac (5,321,.bool true) cMm (show (5:Nat)<10 by decide);have aK:=ac (6,322,.pointer (some ⟨C,4,none⟩)) cMm (show (6:Nat)<10 by decide);have aL:=ac (8,323,.pointer (some ⟨C,5,none⟩)) cMm (show (8:Nat)<10 by decide)
 try dsimp only at aD aE aF aH aI aJ aK aL
 clear ac aQ;simp only[fD];simp only[aD,aE,aF,aH,aI,aJ,aK,aL];clear aD aE aF aH aI aJ aK aL;go_upto_region 84 with(with_reducible first|refine lld J ?_|((first|refine lbx J ?_|refine lal J ?_|refine lbs J ?_);clear J;intro ae w1 J)|(refine zc J ?_;clear J;intro w1 J))
 replace J:=J.pure (S:=fun w=>zN w gx d.vars->ql w ⟨false,zA,false,true,zi⟩ ⟨false,zA,false,true,[]⟩) (fun w _=>⟨rfl,zk.nil w⟩);go_wp2_with (first|(go_at_call 83;refine cg J (br.out _) ?_;clear J;intro w1 J;dsimp only)|(refine zR (b:=o) (off:=k*7) (vs:=Gu.cells ⟨false,zA,false,true,zi⟩) (cs':=zj af (k*7) (Gu.cells ⟨false,zA,false,true,zi⟩)) J rfl rfl cIn rfl zO.sz rfl (bv.out ⟨false,zA,false,true,zi⟩) rfl ?_;clear J;intro ao J)|(with_reducible first|refine lld J ?_|((first|refine lbx J ?_|refine lal J ?_|refine lbs J ?_);clear J;intro ae w1 J)|(refine zc J ?_;clear J;intro w1 J)))
 (try simp only[Exit.inBlock,Exit.then]);refine rt3 ?_
 obtain⟨al,ab⟩:=bt.out;refine⟨⟨some ⟨aj,0,none⟩,1,1⟩,rfl,?_⟩;exact((J.both (U:=fun w=>zN w gx d.vars->zH (aW.set k ⟨false,zA,false,true,zi⟩) aV (d.setVar k ⟨false,zA,false,true,[]⟩).vars (d.setVar k ⟨false,zA,false,true,[]⟩).fields w) (fun w bw aZ hc=>⟨aZ.1.set aq.out (bw hc),aZ.2⟩)).drop (.cons _ (.cons _ (.cons _ (.cons_cons _ (.cons _ (.cons _ (.cons _ (.cons _ (List.Sublist.refl _))))))))) (fun _ h=>h)).edge1 (K:=[]) (r:=⟨false,⟨some ⟨o,0,none⟩,R,ad⟩,⟨aa,fn,T⟩⟩) (Rv:=[(o,108,zj af (k*7) (Gu.cells ⟨false,zA,false,true,zi⟩))]) ⟨al ⟨false,zA,false,true,zi⟩,ab.heads,ab.rows⟩ aU.out.symm (by show (d.vars.set k _).length+_<=_;rw[List.length_set];exact bu.out)
theorem zgR (p:Pg) (is:Nat->Ins) (i:Ins) (x:Pv) (d:Pd) (gx:List Gu) (at' : Nat) (w:World) (ak:zf p is=0) (hc:zy w p is) (ah:zq w x d) (b1:JQ w x d gx) (ok:q2 p is d) (az:at' < p.n) (hi:is at'=i) (hk:i.kind=2) (bg:i.n=1):q7 p at' x d gx (zJ i at' d) w:=by
 have aS:=(zp ak).1;have b3:=aS.n1;have a0:=(zp ak).2 at' az;rw[hi]at a0;have bm:=qG a0;have bz:=jv a0;have aO:=qq.of ok ak;have ba:=ju.of aO.r aS;have bq:=za (fun ao (bx:Below w.heap.size w ao)=>qU x d ao (ah.grow bx) ba);have bk:d.vars.length+d.fields.length<=9223372036854775807:=(qV.of ok ak ah).m;have bu:=za bk;obtain⟨ai,an,bi,aN⟩:=hc;have bj:=bi (by omega);have aM:=zd.agg (P:=prog) jP (aN at' az).1 (fun j v b2=>(aN at' az).2 j v b2) rfl;rw[hi]at aM;have bs:=za (show zd prog 86 w ai (an+at' * 6) (Ins.v i) from aM);have aT:=ah.e;have aP:=ok.none;rw[aP]at aT;have bo:=ah.vars.n;have b7:=ah.vars.m;rw[show zJ i at' d=⟨jK d at' i.to.toNat (qZ i),false,false⟩ by unfold zJ;rw[if_pos (by omega)]];have aU:=za aP;obtain⟨bc,bd⟩:=idx (bm.to (by rw[hk];decide)) aO.r.vars;have aq:=za bd;clear ah b1 ak bm bz aO aS a0 ba bi aN aM hi aP bk ok;clear bd;unfold q7;generalize i.to.toNat=k at *;obtain⟨bC,bE,a1,a2,bD,a3⟩:=i;obtain⟨bK,⟨aC,bL,a8⟩,⟨aB,aA,a9⟩⟩:=x;obtain⟨a7,a5,bF,a6,a4⟩:=p;dsimp only at bc bg;subst bc bg;dsimp only at hk bj b3 az aT bo b7;subst hk bj aT bo;have bA:nA 2=false:=by decide
 have bB:nB 2=false:=by decide
 have J:=Loc.start w;go_enter func40,ntmps40;go_step;go_step;go_step
 ((with_reducible refine lbx J ?_);clear J;intro ax w1 J)
 ((with_reducible refine lbx J ?_);clear J;intro ay w1 J)
 go_upto_region 4 with(with_reducible first|refine ldB bs.out J ?_|(refine lal J ?_;clear J;intro I w1 J)|refine lld J ?_|((first|refine lbx J ?_|refine lal J ?_|refine lbs J ?_);clear J;intro ae w1 J)|(refine zc J ?_;clear J;intro w1 J))
 go_upto_region 5 with(first|(go_at_call 20;refine(bq.out _ J.below).mono ?_;rintro q bJ ⟨⟨bp,⟨bH,R,ad⟩,⟨aa,fn,T⟩⟩,rfl,aW,aV,bG,Rv,au,ar,bn,ab,be⟩;replace J:=J.gave be;simp only[aX]at J;clear be;dsimp only)|(with_reducible first|(refine lal J ?_;clear J;intro av w1 J)|refine lld J ?_|((first|refine lbx J ?_|refine lal J ?_|refine lbs J ?_);clear J;intro ae w1 J)|(refine zc J ?_;clear J;intro w1 J)))
 have b5:bp=false:=by rw[show bp=d.none from bn];exact aU.out
 subst b5;clear bn;have bb:=(J.get (S:=zH aW aV d.vars d.fields) List.mem_cons_self).1;have bh:=ab.vars.flatlen jb (by decide);have b0:=bb.len
 (try dsimp only at bh)
 obtain⟨o,af,bl,rfl,b6,aR⟩:=ab.vars.block (show 0<R by have:=aq.out;omega);have al:=fun t=>ab.vars.put jb zI (k:=k) (show k<R by have:=aq.out;omega) t
 have bf:=ab.vars.fits
 (try dsimp only at bl al bf aR)
 subst bl;have b9:k<R:=by have:=aq.out;omega
 have bv:=za (fun t:Gu=>show k*7+t.cells.length<=af.length by show k*7+7<=_;rw[aR];omega);have bt:=za (And.intro al ab);clear bb bh b0 b6 al bf aR ab;simp only[aX]at J;go_upto_region 6 with(with_reducible first|(refine lbs J ?_;clear J;intro aj w1 J)|refine lld J ?_|((first|refine lbx J ?_|refine lal J ?_|refine lbs J ?_);clear J;intro ae w1 J)|(refine zc J ?_;clear J;intro w1 J))
 go_upto_region 7 with(first|(go_at_call 78;refine cg J (zt _) ?_;clear J;intro w1 J;dsimp only)|((with_reducible refine lal J ?_);clear J;first|(have b4:ag=ag:=rfl;clear b4;intro aw w1 J)|intro ag w1 J)|(with_reducible first|refine lld J ?_|((first|refine lbx J ?_|refine lal J ?_|refine lbs J ?_);clear J;intro ae w1 J)|(refine zc J ?_;clear J;intro w1 J)))
 go_upto_region 13 with(first|(go_at_call 74;refine cg J (qj _ _) ?_;clear J;intro w1 J;dsimp only)|(go_at_call 75;refine cg J (qk _ _) ?_;clear J;intro w1 J;dsimp only)|(go_at_call 78;refine cg J (zt _) ?_;clear J;intro w1 J;dsimp only)|(with_reducible first|(refine lal J ?_;clear J;intro C w1 J)|refine lld J ?_|((first|refine lbx J ?_|refine lal J ?_|refine lbs J ?_);clear J;intro ae w1 J)|(refine zc J ?_;clear J;intro w1 J)))
 have br:=za (fun ao=>zK ⟨false,zA,true,false,zi⟩ ao);go_upto_region 81 with(with_reducible first|refine lld J ?_|((first|refine lbx J ?_|refine lal J ?_|refine lbs J ?_);clear J;intro ae w1 J)|(refine zc J ?_;clear J;intro w1 J))
 have aY:=J.conv (L':=(fun l=>(C,108,[.bool false,.bool true,.int .i64 0,.int .i64 0,bif lst l 7 then .bool true else .bool false,bif lst l 9 then .bool false else .bool false,.slice none 0 0])::(aw,108,[.bool false,.bool true,.int .i64 0,.int .i64 0,.bool false,.bool false,.slice none 0 0])::(ag,108,[.bool false,.bool true,.int .i64 0,.int .i64 0,.bool false,.bool false,.slice none 0 0])::(aj,75,[.int .i64 ((at' : Int)+1),.bool false,.slice (some ⟨o,0,none⟩) R ad,.slice aa fn T])::(av,54,[.bool false,.slice (some ⟨o,0,none⟩) R ad,.slice aa fn T])::(I,86,[.int .i64 2,.int .i64 k,.int .i64 a1,.int .i64 a2,.int .i64 1,.int .i64 a3])::(ay,54,[.bool false,.slice aC d.vars.length a8,.slice aB aA a9])::(ax,27,[.int .i64 a7,.int .i64 a5,.slice (some ⟨ai,an,none⟩) a6 a4])::(o,108,af)::(ar++au)) (Array.replicate 10 false)) (by simp only[KG,cond_false]);refine YZ (w0:=_) [316,317,318,319,320,321,322,323] [(0,316,.pointer (some ⟨I,4,none⟩)),(1,317,.int .i64 1),(2,318,.bool true),(3,319,.pointer (some ⟨I,4,none⟩)),(4,320,.int .i64 1),(5,321,.bool false),(6,322,.pointer (some ⟨C,4,none⟩)),(8,323,.pointer (some ⟨C,5,none⟩))] (fun l=>(C,108,[.bool false,.bool true,.int .i64 0,.int .i64 0,bif lst l 7 then .bool true else .bool false,bif lst l 9 then .bool false else .bool false,.slice none 0 0])::(aw,108,[.bool false,.bool true,.int .i64 0,.int .i64 0,.bool false,.bool false,.slice none 0 0])::(ag,108,[.bool false,.bool true,.int .i64 0,.int .i64 0,.bool false,.bool false,.slice none 0 0])::(aj,75,[.int .i64 ((at' : Int)+1),.bool false,.slice (some ⟨o,0,none⟩) R ad,.slice aa fn T])::(av,54,[.bool false,.slice (some ⟨o,0,none⟩) R ad,.slice aa fn T])::(I,86,[.int .i64 2,.int .i64 k,.int .i64 a1,.int .i64 a2,.int .i64 1,.int .i64 a3])::(ay,54,[.bool false,.slice aC d.vars.length a8,.slice aB aA a9])::(ax,27,[.int .i64 a7,.int .i64 a5,.slice (some ⟨ai,an,none⟩) a6 a4])::(o,108,af)::(ar++au)) (by kernel_rfl) (by kernel_rfl) aY ⟨?_,?_,?_,?_,?_,?_,?_,?_,?_,?_,trivial⟩ ?_
 all_goals clear J aY
 ·intro l t w hi g y
  have J:=g.loc
  try dsimp only at J
  refine zX (d:=316) (x:=.pointer (some ⟨I,4,none⟩)) (by kernel_rfl) cMm g (by simp only[ze (show (7:Nat)≠0 by decide),ze (show (9:Nat)≠0 by decide)]) ?_;clear y;simp only[fD];go_wp2;exact cY
 ·intro l t w hi g y
  have J:=g.loc
  try dsimp only at J
  have d0:=g.vals (0,316,.pointer (some ⟨I,4,none⟩)) cMm (y 0 (by decide))
  try dsimp only at d0
  refine zX (d:=317) (x:=.int .i64 1) (by kernel_rfl) cMm g (by simp only[ze (show (7:Nat)≠1 by decide),ze (show (9:Nat)≠1 by decide)]) ?_;clear y;simp only[fD];simp only[d0];go_wp2_with (with_reducible first|refine lld J ?_|refine ldD J ?_);exact cY
 ·intro l t w hi g y
  have J:=g.loc
  try dsimp only at J
  have d1:=g.vals (1,317,.int .i64 1) cMm (y 1 (by decide))
  try dsimp only at d1
  refine zX (d:=318) (x:=.bool true) (by kernel_rfl) cMm g (by simp only[ze (show (7:Nat)≠2 by decide),ze (show (9:Nat)≠2 by decide)]) ?_;clear y;simp only[fD];simp only[d1];go_wp2;exact cY
 ·intro l t w hi g y
  have J:=g.loc
  try dsimp only at J
  refine zX (d:=319) (x:=.pointer (some ⟨I,4,none⟩)) (by kernel_rfl) cMm g (by simp only[ze (show (7:Nat)≠3 by decide),ze (show (9:Nat)≠3 by decide)]) ?_;clear y;simp only[fD];go_wp2;exact cY
 ·intro l t w hi g y
  have J:=g.loc
  try dsimp only at J
  have d3:=g.vals (3,319,.pointer (some ⟨I,4,none⟩)) cMm (y 3 (by decide))
  try dsimp only at d3
  refine zX (d:=320) (x:=.int .i64 1) (by kernel_rfl) cMm g (by simp only[ze (show (7:Nat)≠4 by decide),ze (show (9:Nat)≠4 by decide)]) ?_;clear y;simp only[fD];simp only[d3];go_wp2_with (with_reducible first|refine lld J ?_|refine ldD J ?_);exact cY
 ·intro l t w hi g y
  have J:=g.loc
  try dsimp only at J
  have d4:=g.vals (4,320,.int .i64 1) cMm (y 4 (by decide))
  try dsimp only at d4
  refine zX (d:=321) (x:=.bool false) (by kernel_rfl) cMm g (by simp only[ze (show (7:Nat)≠5 by decide),ze (show (9:Nat)≠5 by decide)]) ?_;clear y;simp only[fD];simp only[d4];go_wp2;exact cY
 ·intro l t w hi g y
  have J:=g.loc
  try dsimp only at J
  refine zX (d:=322) (x:=.pointer (some ⟨C,4,none⟩)) (by kernel_rfl) cMm g (by simp only[ze (show (7:Nat)≠6 by decide),ze (show (9:Nat)≠6 by decide)]) ?_;clear y;simp only[fD];go_wp2;exact cY
 ·intro l t w hi g y
  have J:=g.loc
  try dsimp only at J
  have d6:=g.vals (6,322,.pointer (some ⟨C,4,none⟩)) cMm (y 6 (by decide))
  try dsimp only at d6
  have d2:=g.vals (2,318,.bool true) cMm (y 2 (by decide))
  try dsimp only at d2
  refine Z9 (i:=7) (L:=(C,108,[.bool false,.bool true,.int .i64 0,.int .i64 0,.bool true,bif lst l 9 then .bool false else .bool false,.slice none 0 0])::(aw,108,[.bool false,.bool true,.int .i64 0,.int .i64 0,.bool false,.bool false,.slice none 0 0])::(ag,108,[.bool false,.bool true,.int .i64 0,.int .i64 0,.bool false,.bool false,.slice none 0 0])::(aj,75,[.int .i64 ((at' : Int)+1),.bool false,.slice (some ⟨o,0,none⟩) R ad,.slice aa fn T])::(av,54,[.bool false,.slice (some ⟨o,0,none⟩) R ad,.slice aa fn T])::(I,86,[.int .i64 2,.int .i64 k,.int .i64 a1,.int .i64 a2,.int .i64 1,.int .i64 a3])::(ay,54,[.bool false,.slice aC d.vars.length a8,.slice aB aA a9])::(ax,27,[.int .i64 a7,.int .i64 a5,.slice (some ⟨ai,an,none⟩) a6 a4])::(o,108,af)::(ar++au)) g (by kernel_rfl) (by simp only[q1 hi,ze (show (9:Nat)≠7 by decide),cond_true]) ?_;clear y;simp only[fD];simp only[d6,d2]
  ((with_reducible refine zc J ?_);clear J;intro w1 J)
  exact⟨rfl,rfl,J⟩
 ·intro l t w hi g y
  have J:=g.loc
  try dsimp only at J
  refine zX (d:=323) (x:=.pointer (some ⟨C,5,none⟩)) (by kernel_rfl) cMm g (by simp only[ze (show (7:Nat)≠8 by decide),ze (show (9:Nat)≠8 by decide)]) ?_;clear y;simp only[fD];go_wp2;exact cY
 ·intro l t w hi g y
  have J:=g.loc
  try dsimp only at J
  have d8:=g.vals (8,323,.pointer (some ⟨C,5,none⟩)) cMm (y 8 (by decide))
  try dsimp only at d8
  have d5:=g.vals (5,321,.bool false) cMm (y 5 (by decide))
  try dsimp only at d5
  refine Z9 (i:=9) (L:=(C,108,[.bool false,.bool true,.int .i64 0,.int .i64 0,bif lst l 7 then .bool true else .bool false,.bool false,.slice none 0 0])::(aw,108,[.bool false,.bool true,.int .i64 0,.int .i64 0,.bool false,.bool false,.slice none 0 0])::(ag,108,[.bool false,.bool true,.int .i64 0,.int .i64 0,.bool false,.bool false,.slice none 0 0])::(aj,75,[.int .i64 ((at' : Int)+1),.bool false,.slice (some ⟨o,0,none⟩) R ad,.slice aa fn T])::(av,54,[.bool false,.slice (some ⟨o,0,none⟩) R ad,.slice aa fn T])::(I,86,[.int .i64 2,.int .i64 k,.int .i64 a1,.int .i64 a2,.int .i64 1,.int .i64 a3])::(ay,54,[.bool false,.slice aC d.vars.length a8,.slice aB aA a9])::(ax,27,[.int .i64 a7,.int .i64 a5,.slice (some ⟨ai,an,none⟩) a6 a4])::(o,108,af)::(ar++au)) g (by kernel_rfl) (by simp only[q1 hi,ze (show (7:Nat)≠9 by decide),cond_true]) ?_;clear y;simp only[fD];simp only[d8,d5]
  ((with_reducible refine zc J ?_);clear J;intro w1 J)
  exact⟨rfl,rfl,J⟩
 intro t bI l aQ J ac;simp only[aQ 7 (by decide),aQ 9 (by decide),cond_true]at J;have aD:=ac (0,316,.pointer (some ⟨I,4,none⟩)) cMm (show (0:Nat)<10 by decide);have aE:=ac (1,317,.int .i64 1) cMm (show (1:Nat)<10 by decide);have aF:=ac (2,318,.bool true) cMm (show (2:Nat)<10 by decide);have aH:=ac (3,319,.pointer (some ⟨I,4,none⟩)) cMm (show (3:Nat)<10 by decide);have aI:=ac (4,320,.int .i64 1) cMm (show (4:Nat)<10 by decide);have aJ:=ac (5,321,.bool false) cMm (show (5:Nat)<10 by decide);have aK:=ac (6,322,.pointer (some ⟨C,4,none⟩)) cMm (show (6:Nat)<10 by decide);have aL:=ac (8,323,.pointer (some ⟨C,5,none⟩)) cMm (show (8:Nat)<10 by decide)
 try dsimp only at aD aE aF aH aI aJ aK aL
 clear ac aQ;simp only[fD];simp only[aD,aE,aF,aH,aI,aJ,aK,aL];clear aD aE aF aH aI aJ aK aL;go_upto_region 84 with(with_reducible first|refine lld J ?_|((first|refine lbx J ?_|refine lal J ?_|refine lbs J ?_);clear J;intro ae w1 J)|(refine zc J ?_;clear J;intro w1 J))
 replace J:=J.pure (S:=fun w=>zN w gx d.vars->ql w ⟨false,zA,true,false,zi⟩ ⟨false,zA,true,false,[]⟩) (fun w _=>⟨rfl,zk.nil w⟩);go_wp2_with (first|(go_at_call 83;refine cg J (br.out _) ?_;clear J;intro w1 J;dsimp only)|(refine zR (b:=o) (off:=k*7) (vs:=Gu.cells ⟨false,zA,true,false,zi⟩) (cs':=zj af (k*7) (Gu.cells ⟨false,zA,true,false,zi⟩)) J rfl rfl cIn rfl zO.sz rfl (bv.out ⟨false,zA,true,false,zi⟩) rfl ?_;clear J;intro ao J)|(with_reducible first|refine lld J ?_|((first|refine lbx J ?_|refine lal J ?_|refine lbs J ?_);clear J;intro ae w1 J)|(refine zc J ?_;clear J;intro w1 J)))
 (try simp only[Exit.inBlock,Exit.then]);refine rt3 ?_
 obtain⟨al,ab⟩:=bt.out;refine⟨⟨some ⟨aj,0,none⟩,1,1⟩,rfl,?_⟩;exact((J.both (U:=fun w=>zN w gx d.vars->zH (aW.set k ⟨false,zA,true,false,zi⟩) aV (d.setVar k ⟨false,zA,true,false,[]⟩).vars (d.setVar k ⟨false,zA,true,false,[]⟩).fields w) (fun w bw aZ hc=>⟨aZ.1.set aq.out (bw hc),aZ.2⟩)).drop (.cons _ (.cons _ (.cons _ (.cons_cons _ (.cons _ (.cons _ (.cons _ (.cons _ (List.Sublist.refl _))))))))) (fun _ h=>h)).edge1 (K:=[]) (r:=⟨false,⟨some ⟨o,0,none⟩,R,ad⟩,⟨aa,fn,T⟩⟩) (Rv:=[(o,108,zj af (k*7) (Gu.cells ⟨false,zA,true,false,zi⟩))]) ⟨al ⟨false,zA,true,false,zi⟩,ab.heads,ab.rows⟩ aU.out.symm (by show (d.vars.set k _).length+_<=_;rw[List.length_set];exact bu.out)
theorem Loc.factHead {w0 w:World}{b:Nat}{T:TypeId}{i:List Value}{L:List zg}{D:List zl}{S:zl}(h:Loc w0 w ((b,T,i)::L) D) (j:∀ g : World,g.heap[b]? = some (.cells i.toArray T (0,0))->S g):Loc w0 w L (S::D):=
 (h.perm (L':=L++[(b,T,i)]) List.perm_append_comm).fact (fun g o=>j g (o _ (List.mem_singleton.2 rfl)))
theorem Loc.also {w0 w:World}{L:List zg}{D:List zl}{S U:zl}(h:Loc w0 w L D) (i:S∈D) (j:∀ w,S w->U w):Loc w0 w L (U::D):=
 (h.drop (List.Sublist.refl _) (D':=S::D) (fun V g=>by
  rcases List.mem_cons.1 g with rfl|g
  ·exact i
  ·exact g)).turn j
theorem zfp {w:World}{b:Nat}{n:Int}(h:w.heap[b]? = some (.cells [Value.int .i64 n].toArray 3 (0,0))):zk w ⟨some ⟨b,0,none⟩,1,1⟩ [n]:=
 zB.ints (B:=0) (l:=[n]) (zB.full rfl (by decide)) ⟨by simp,fun e g=>by rw[List.mem_singleton.1 g];exact⟨Nat.zero_le _,h⟩⟩
theorem XR (H:zg) (R g i:List zg):((g++(R++i))++[H]).Perm (H::(R++(g++i))):=by
 refine List.perm_append_comm.trans ?_;show (H::(g++(R++i))).Perm _
 exact(List.perm_append_comm_assoc _ _ _).cons _
theorem zh6 (p:Pg) (is:Nat->Ins) (i:Ins) (x:Pv) (d:Pd) (gx:List Gu) (at' : Nat) (w:World) (aw:zf p is=0) (hc:zy w p is) (aj:zq w x d) (bI:JQ w x d gx) (ok:q2 p is d) (ar:at' < p.n) (hi:is at'=i) (hk:i.kind=11):q7 p at' x d gx (zJ i at' d) w:=by
 have aK:=(zp aw).1;have bJ:=aK.n1;have a4:=(zp aw).2 at' ar;rw[hi]at a4;have bn:=qG a4;have bE:=jv a4;have a3:=qq.of ok aw;have aH:=ju.of a3.r aK;have bv:=za (fun af (bD:Below w.heap.size w af)=>qU x d af (aj.grow bD) aH);have bl:d.vars.length+d.fields.length<=9223372036854775807:=(qV.of ok aw aj).m;have b0:=za bl;obtain⟨aW,bt,bi,aE⟩:=hc;have bj:=bi (by omega);have aD:=zd.agg (P:=prog) jP (aE at' ar).1 (fun j v hj=>(aE at' ar).2 j v hj) rfl;rw[hi]at aD;have bx:=za (show zd prog 86 w aW (bt+at' * 6) (Ins.v i) from aD);have aM:=aj.e;have aF:=ok.none;rw[aF]at aM;have bs:=aj.vars.n;have bO:=aj.vars.m;rw[show zJ i at' d=⟨[((at' : Int)+1,K5 d at' i.to.toNat)],false,false⟩ by unfold zJ;rw[if_neg (by omega),if_pos hk]];have aP:=za aF;obtain⟨bc,bd⟩:=idx (bn.to (by rw[hk];decide)) a3.r.vars;have ay:=za bd;have au:at' < d.fields.length:=by rw[ok.fields];exact ar
 have bq:((d.row at').length:Int)=p.fields:=a3.r.rows at' au;have cr:(d.row at').length<=1000:=aH.rows at' au;have ab:=za au;have aQ:=za (fun j (hj:j<(d.row at').length)=>And.intro (Uz (d.row at') hj) (XJ (d.row at') hj));have aR:=za (show K5 d at' i.to.toNat=⟨d.none,d.vars.set i.to.toNat (Yf at'),d.fields.set at' (jh (d.row at') (d.row at').length)⟩ by rw[Vp];rfl);have a6:=za (fun j (hj:j<=(d.row at').length)=>Vq (d.row at') hj);have aS:=za (show jh (d.row at') 0=d.fields.getD at' [] by simp[jh,Pd.row]);clear aj bI aw bn bE a3 aK a4 aH bi aE aD hi aF bl ok;clear bd au;generalize d.row at'=t at *;unfold q7;generalize i.to.toNat=k at *;obtain⟨cs,ct,bQ,bR,bT,bS⟩:=i;obtain⟨cz,⟨ch,c0,cb⟩,⟨cf,cd,cc⟩⟩:=x;obtain⟨bW,cv,cu,bV,bU⟩:=p;dsimp only at bc bq;subst bc bq;dsimp only at hk bj bJ ar aM bs bO;subst hk bj aM bs;have cp:nA 11=false:=by decide
 have cq:nB 11=false:=by decide
 have J:=Loc.start w;go_enter func40,ntmps40;go_step;go_step;go_step
 ((with_reducible refine lbx J ?_);clear J;intro b6 w1 J)
 ((with_reducible refine lbx J ?_);clear J;intro b7 w1 J)
 go_upto_region 4 with(with_reducible first|refine ldB bx.out J ?_|(refine lal J ?_;clear J;intro b8 w1 J)|refine lld J ?_|((first|refine lbx J ?_|refine lal J ?_|refine lbs J ?_);clear J;intro aa w1 J)|(refine zc J ?_;clear J;intro w1 J))
 go_upto_region 5 with(first|(go_at_call 20;refine(bv.out _ J.below).mono ?_;rintro q cy ⟨⟨bu,⟨cx,ak,aN⟩,⟨cl,fn,aB⟩⟩,rfl,aq,ac,ax,Rv,ck,cj,bp,o,be⟩;replace J:=J.gave be;simp only[aX]at J;clear be;dsimp only)|(with_reducible first|(refine lal J ?_;clear J;intro b3 w1 J)|refine lld J ?_|((first|refine lbx J ?_|refine lal J ?_|refine lbs J ?_);clear J;intro aa w1 J)|(refine zc J ?_;clear J;intro w1 J)))
 have bM:bu=false:=by rw[show bu=d.none from bp];exact aP.out
 subst bM;clear bp;have bb:=(J.get (S:=zH aq ac d.vars d.fields) List.mem_cons_self).1;have aI:=(J.get (S:=zH aq ac d.vars d.fields) List.mem_cons_self).2;have bN:ax.length=d.fields.length:=by rw[o.rows.len,aI.len]
 have bG:fn=ax.length:=o.heads.flatlen (f:=Sl.row) (es:=1) (fun _=>rfl) (by decide);obtain⟨ag,az,bk,rfl,-,-⟩:=o.heads.block (show 0<fn by have:=ab.out;omega);obtain⟨a8,R,a9,rfl,a2,bo⟩:=o.rows.get at' (by have:=ab.out;omega);have aJ:(ax.getD at' zi).n=t.length:=by
  have ad:=(a2.flatlen jb (by decide)).trans (aI.at' at' ab.out).len;rw[<- aS.out]at ad;exact ad.trans (a6.out 0 (Nat.zero_le _))
 have aU:=za bo;have a7:=za a2;have a5:=za (show zn prog 51 az at' (ax.getD at' zi).v from zn.cell jZ (o.heads.at1 (k:=at') (show at' < fn by have:=ab.out;omega)));have bg:=a2.max;have cm:fn<=maxLen:=o.heads.max;clear bo a2 aI;generalize ax.getD at' zi=row at a7 aU a5 aJ bg;obtain⟨bZ,cw,bY⟩:=row
 (try dsimp only at bk)
 dsimp only at aJ bg;dsimp only[Sl.v]at a5;subst bk aJ;have au:at' < fn:=by have:=ab.out;omega
 clear bN bG;have bh:=o.vars.flatlen jb (by decide);have bH:=bb.len
 (try dsimp only at bh)
 obtain⟨ah,a0,bm,rfl,aL,av⟩:=o.vars.block (show 0<ak by have:=ay.out;omega);have T:=fun g=>o.vars.put jb zI (k:=k) (show k<ak by have:=ay.out;omega) g
 have bf:=o.vars.fits
 (try dsimp only at bm T bf av)
 subst bm;have cn:k<ak:=by have:=ay.out;omega
 have b1:=za (fun g:Gu=>show k*7+g.cells.length<=a0.length by show k*7+7<=_;rw[av];omega);have bz:=za (And.intro T o);clear bb bh bH aL T bf av o;simp only[aX]at J;go_upto_region 6 with(with_reducible first|(refine lbs J ?_;clear J;intro aY w1 J)|refine lld J ?_|((first|refine lbx J ?_|refine lal J ?_|refine lbs J ?_);clear J;intro aa w1 J)|(refine zc J ?_;clear J;intro w1 J))
 go_upto_region 7 with(first|(go_at_call 78;refine cg J (zt _) ?_;clear J;intro w1 J;dsimp only)|((with_reducible refine lal J ?_);clear J;first|(have bL:aA=aA:=rfl;clear bL;intro b4 w1 J)|intro aA w1 J)|(with_reducible first|refine lld J ?_|((first|refine lbx J ?_|refine lal J ?_|refine lbs J ?_);clear J;intro aa w1 J)|(refine zc J ?_;clear J;intro w1 J)))
 go_upto_region 13 with(first|(go_at_call 74;refine cg J (qj _ _) ?_;clear J;intro w1 J;dsimp only)|(go_at_call 75;refine cg J (qk _ _) ?_;clear J;intro w1 J;dsimp only)|(go_at_call 78;refine cg J (zt _) ?_;clear J;intro w1 J;dsimp only)|(with_reducible first|(refine lal J ?_;clear J;intro b5 w1 J)|refine lld J ?_|((first|refine lbx J ?_|refine lal J ?_|refine lbs J ?_);clear J;intro aa w1 J)|(refine zc J ?_;clear J;intro w1 J)))
 have bw:=za (fun b af=>zK ⟨false,zA,false,false,⟨some ⟨b,0,none⟩,1,1⟩⟩ af);go_upto_region 72 with(with_reducible first|(refine lbs J ?_;clear J;intro I w1 J)|refine lld J ?_|((first|refine lbx J ?_|refine lal J ?_|refine lbs J ?_);clear J;intro aa w1 J)|(refine zc J ?_;clear J;intro w1 J))
 replace J:=((J.factHead (S:=fun w=>ql w ⟨false,zA,false,false,⟨some ⟨I,0,none⟩,1,1⟩⟩ (Yf at')) (fun af bP=>⟨rfl,zfp bP⟩)).perm (((((((((((XR (ag,51,az) R a8 a9).symm).cons _).cons _).cons _).cons _).cons _).cons _).cons _).cons _).cons _)).also (S:=zH aq ac d.vars d.fields) (List.mem_cons_of_mem _ List.mem_cons_self) (U:=fun w=>zN w (ac.getD at' []) (jh t 0)) (fun w h=>by rw[aS.out];exact h.2.at' at' ab.out);generalize ac.getD at' []=b9 at J a7;go_wp2_with (with_reducible first|refine lld J ?_|((first|refine lbx J ?_|refine lal J ?_|refine lbs J ?_);clear J;intro aa w1 J)|(refine zc J ?_;clear J;intro w1 J));go_loopw [27] (fun c ca=>∃ (j:Nat) (C:List Gu) (al : List zg),j<=t.length∧c=.int .i64 j∧zB 108 7 bZ t.length bY (C.flatMap Gu.cells) al∧Loc w ca ((b5,108,[.bool false,.bool true,.int .i64 0,.int .i64 0,.bool false,.bool false,.slice (some ⟨I,0,none⟩) 1 1])::(b4,108,[.bool false,.bool true,.int .i64 0,.int .i64 0,.bool false,.bool false,.slice none 0 0])::(aA,108,[.bool false,.bool true,.int .i64 0,.int .i64 0,.bool false,.bool false,.slice none 0 0])::(aY,75,[.int .i64 ((at' : Int)+1),.bool false,.slice (some ⟨ah,0,none⟩) ak aN,.slice (some ⟨ag,0,none⟩) fn aB])::(b3,54,[.bool false,.slice (some ⟨ah,0,none⟩) ak aN,.slice (some ⟨ag,0,none⟩) fn aB])::(b8,86,[.int .i64 11,.int .i64 k,.int .i64 bQ,.int .i64 bR,.int .i64 bT,.int .i64 bS])::(b7,54,[.bool false,.slice ch d.vars.length cb,.slice cf cd cc])::(b6,27,[.int .i64 bW,.int .i64 (t.length:Int),.slice (some ⟨aW,bt,none⟩) bV bU])::(ah,108,a0)::(ag,51,az)::(al++(a8++a9))) [fun w=>zN w C (jh t j),fun w=>ql w ⟨false,zA,false,false,⟨some ⟨I,0,none⟩,1,1⟩⟩ (Yf at'),zH aq ac d.vars d.fields]) (fun c _=>t.length - (intOf c).toNat)
 case atStart=>exact⟨0,b9,R,Nat.zero_le _,rfl,a7.out,J⟩
 case round=>
  obtain⟨j,C,al,hj,rfl,ai,J⟩:=hrel;by_cases ae:j<t.length
  ·obtain⟨aZ,an,bK,rfl,aL,av⟩:=ai.block (by omega)
   have ba:=ai.elem jb zI (k:=j) ae;have T:=ai.put jb zI (k:=j) ae { C.getD j zI with null:=true };have br:zj an (j*7) [.bool true]=zj an (j*7) (Gu.cells { C.getD j zI with null:=true }):=Yn ba;rw[<- br]at T;have bF:=ai.fits;have b2:=za (show j*7+1<=an.length by omega);have aT:=za T;have aO:=za (fun w (h:zN w C (jh t j))=>show zN w (C.set j { C.getD j zI with null:=true }) (jh t (j+1)) by
    rw[<- (aQ.out j ae).1];have aC:=h.at' j (by rw[a6.out j hj];exact ae);rw[(aQ.out j ae).2]at aC;exact h.set (by rw[a6.out j hj];exact ae) ⟨congrArg (fun g:Gu=>{ g with null:=true }) aC.e,aC.l⟩)
   clear ba T br aL av bF ai;generalize C.set j { C.getD j zI with null:=true }=bA at aT aO;subst bK;simp only[aX]at J;go_wp2_with (first|(with_reducible refine ldO a5.out J ?_)|(refine zR (b:=aZ) (off:=j*7) (vs:=[.bool true]) (cs':=zj an (j*7) [.bool true]) J rfl rfl cIn rfl J0.sz rfl b2.out rfl ?_;clear J;intro af J)|(with_reducible first|refine lld J ?_|((first|refine lbx J ?_|refine lal J ?_|refine lbs J ?_);clear J;intro aa w1 J)|(refine zc J ?_;clear J;intro w1 J)));go_roundw
   case rel=>exact⟨j+1,bA,[(aZ,108,zj an (j*7) [.bool true])],by omega,by go_num,aT.out,J.facts1' aO.out⟩
   case measure=>simp[intOf];omega
  ·obtain rfl:j=t.length:=by omega
   clear ae;go_wp2_with (first|(go_at_call 83;refine cg J (bw.out I _) ?_;clear J;intro w1 J;dsimp only)|(refine zR (b:=ah) (off:=k*7) (vs:=Gu.cells ⟨false,zA,false,false,⟨some ⟨I,0,none⟩,1,1⟩⟩) (cs':=zj a0 (k*7) (Gu.cells ⟨false,zA,false,false,⟨some ⟨I,0,none⟩,1,1⟩⟩)) J rfl rfl cIn rfl zO.sz rfl (b1.out ⟨false,zA,false,false,⟨some ⟨I,0,none⟩,1,1⟩⟩) rfl ?_;clear J;intro af J)|(with_reducible first|refine lld J ?_|((first|refine lbx J ?_|refine lal J ?_|refine lbs J ?_);clear J;intro aa w1 J)|(refine zc J ?_;clear J;intro w1 J)))
   (try simp only[Exit.inBlock,Exit.then]);refine rt3 ?_
   obtain⟨T,o⟩:=bz.out;refine⟨⟨some ⟨aY,0,none⟩,1,1⟩,rfl,?_⟩;have bB:=J.perm ((((((((((XR (ag,51,az) al a8 a9).cons _).cons _).cons _).cons _).cons _).cons _).cons _).cons _).cons _);have bC:=((bB.both (U:=fun w=>zN w C (jh t t.length)∧ql w ⟨false,zA,false,false,⟨some ⟨I,0,none⟩,1,1⟩⟩ (Yf at')) (fun w ad a1=>⟨ad,a1⟩)).both (U:=fun w=>zN w gx d.vars->zH (aq.set k ⟨false,zA,false,false,⟨some ⟨I,0,none⟩,1,1⟩⟩) (ac.set at' C) (K5 d at' k).vars (K5 d at' k).fields w) (fun w ad a1 _=>by
    rw[aR.out];exact⟨a1.1.set ay.out ad.2,a1.2.set ab.out ad.1⟩)).drop (.cons _ (.cons _ (.cons _ (.cons_cons _ (.cons _ (.cons _ (.cons _ (.cons _ (List.Sublist.refl _))))))))) (fun _ h=>h)
   exact bC.edge1 (K:=[]) (r:=⟨false,⟨some ⟨ah,0,none⟩,ak,aN⟩,⟨some ⟨ag,0,none⟩,fn,aB⟩⟩) (Rv:=[(ah,108,zj a0 (k*7) (Gu.cells ⟨false,zA,false,false,⟨some ⟨I,0,none⟩,1,1⟩⟩))]) ⟨T ⟨false,zA,false,false,⟨some ⟨I,0,none⟩,1,1⟩⟩,o.heads,aU.out C al ai⟩ aP.out.symm (by rw[aR.out];show (d.vars.set k _).length+(d.fields.set at' _).length<=_;rw[List.length_set,List.length_set];exact b0.out)
theorem zh7 (p:Pg) (is:Nat->Ins) (i:Ins) (x:Pv) (d:Pd) (gx:List Gu) (at' : Nat) (w:World) (a2:zf p is=0) (hc:zy w p is) (ab:zq w x d) (bm:JQ w x d gx) (ok:q2 p is d) (aK:at' < p.n) (hi:is at'=i) (hk:i.kind=12):q7 p at' x d gx (zJ i at' d) w:=by
 have bs:=(zp a2).1;have da:=bs.n1;have aN:=(zp a2).2 at' aK;rw[hi]at aN;have ah:=qG aN;have cV:=jv aN;have ag:=qq.of ok a2;have bP:=ju.of ag.r bs;have cF:=za (fun ae (I:Below w.heap.size w ae)=>qU x d ae (ab.grow I) bP);have cm:d.vars.length+d.fields.length<=9223372036854775807:=(qV.of ok a2 ab).m;have cK:=za cm;obtain⟨aY,bx,ch,bj⟩:=hc;have cj:=ch (by omega);have bf:=zd.agg (P:=prog) jP (bj at' aK).1 (fun j v bW=>(bj at' aK).2 j v bW) rfl;rw[hi]at bf;have cH:=za (show zd prog 86 w aY (bx+at' * 6) (Ins.v i) from bf);have bw:=ab.e;have bk:=ok.none;rw[bk]at bw;have cz:=ab.vars.n;have dm:=ab.vars.m;rw[show zJ i at' d=⟨jK d at' i.to.toNat (qQ d i.n.toNat (d.var i.a.toNat).l),jJ (d.var i.a.toNat),false⟩ by unfold zJ;rw[if_neg (by omega),if_neg (by omega),if_pos hk]];obtain⟨bS,bg⟩:=idx (ah.a (by rw[hk];decide)) ag.r.vars;obtain⟨ba,bz,cn,bi⟩:=bm.l.ex;have cp:=cn (by omega);have bl:=bm.d.at' i.a.toNat bg;have br:=zd.agg (P:=prog) zO (bi i.a.toNat (by omega)).1 (bi i.a.toNat (by omega)).2 rfl;obtain⟨b1,bt⟩:∃ s,gx.getD i.a.toNat zI=(d.var i.a.toNat).gu s:=⟨_,bl.e⟩;have aL:zk w b1 (d.var i.a.toNat).l:=by have:=bl.l;rw[bt]at this;exact this
 rw[bt]at br;have b3:=za (show zd prog 108 w ba (bz+i.a.toNat*7) ((d.var i.a.toNat).gu b1).v from br);have cT:i.a.toNat<x.vars.n:=by omega
 have b6:=za bk;obtain⟨bV,bY⟩:=idx (ah.to (by rw[hk];decide)) ag.r.vars;have aE:=za bY;have bT:i.n=(i.n.toNat:Int):=by have:=ah.f (.inl hk);omega
 have cx:=ag.sites (n:=i.n.toNat) (by have:=ah.f (.inl hk);omega) bg;obtain⟨c6,cb,bU⟩:=ab.fields.ex;have bQ:=ab.fields.n;have cW:=ab.fields.m;obtain⟨dv,dL,cr,bN⟩:=aL.at'.ex;have bu:=aL.n;have cy:=aL.m;have aW:=za cr;have aQ:=za bN;have b7:=za cx.at';obtain⟨bG,of,ck,bh⟩:=cb.ex;have ac:=fun m (dE:m<d.fields.length) (aM:i.n.toNat<(d.row m).length)=>show ∃ (r:Sl) (au a5:Nat) (t:Sl),r.p=some ⟨au,a5,none⟩∧i.n.toNat<r.n∧r.n<=9223372036854775807∧zd prog 51 w bG (of+m) r.v∧zd prog 108 w au (a5+i.n.toNat*7) ((d.field m i.n.toNat).gu t).v∧zk w t (d.field m i.n.toNat).l from by
  have aq:=bU m (by omega);obtain⟨dr,db,cZ⟩:=aq.ex;obtain⟨au,a5,dd,bM⟩:=db.ex;have a0:(c6 m).n=(d.row m).length:=aq.n;have bp:=aq.m;exact⟨c6 m,au,a5,dr i.n.toNat,dd (by rw[a0];omega),by rw[a0];exact aM,bp,KQ (bh m (by omega)).1 (bh m (by omega)).2,zd.agg (P:=prog) zO (bM i.n.toNat (by rw[a0];exact aM)).1 (bM i.n.toNat (by rw[a0];exact aM)).2 rfl,cZ i.n.toNat (by rw[a0];exact aM)⟩
 have cl:0<d.fields.length->x.fields.p=some ⟨bG,of,none⟩:=fun h=>ck (by omega)
 have cD:=za ac;have aV:=za cl;have aR:=za (fun j=>(jH.get ag.fews i.n.toNat ((d.var i.a.toNat).l.take j) Kk jH.noth).ins);have cG:=za (fun m=>(ag.fews m i.n.toNat).ins);have aU:=za (fun k hk=>Vo d i.n.toNat (d.var i.a.toNat).l k hk);have aS:=za (show qQ d i.n.toNat ((d.var i.a.toNat).l.take 0)=Kk from rfl);have aT:=za (show qQ d i.n.toNat ((d.var i.a.toNat).l.take (d.var i.a.toNat).l.length)=qQ d i.n.toNat (d.var i.a.toNat).l by rw[List.take_length]);have ar:=za (show jK d at' i.to.toNat (qQ d i.n.toNat (d.var i.a.toNat).l)=if qD (qQ d i.n.toNat (d.var i.a.toNat).l)=true then [] else [((at' : Int)+1,d.setVar i.to.toNat (qQ d i.n.toNat (d.var i.a.toNat).l))] from rfl);clear ab bm a2 ah cV ag bs aN bP ch bj bf hi bk cm ok cn bi bl br bt aL bg;clear bY cx cb bU cr bN ck bh ac cl;generalize i.n.toNat=n at *;unfold q7;generalize i.to.toNat=k at *;generalize i.a.toNat=a at *;generalize d.var a=o at *;obtain⟨dI,dK,dH,c0,dJ,c1⟩:=i;obtain⟨dU,⟨dW,dX,cA⟩,⟨cC,dS,cB⟩⟩:=x;obtain⟨c5,c3,dM,c4,c2⟩:=p;dsimp only at bV bT bQ cW aV bu cy;subst bV bT bQ;dsimp only at hk cj da aK bw cz dm bS cp cT;subst hk cj bw cz bS cp;obtain⟨bd,⟨be,bI,bH⟩,gt,bc,gl⟩:=o;obtain⟨c7,dQ,c8⟩:=b1;dsimp only[Res.gu]at b3 bu cy aW aQ b7 aR aU aS aT ar;subst bu;have dF:nA 12=true:=by decide
 have dG:nB 12=false:=by decide
 have J:=Loc.start w;go_enter func40,ntmps40;go_step;go_step;go_step
 ((with_reducible refine lbx J ?_);clear J;intro bD g J)
 ((with_reducible refine lbx J ?_);clear J;intro bE g J)
 go_upto_region 4 with(with_reducible first|refine ldB cH.out J ?_|(refine lal J ?_;clear J;intro bF g J)|refine lld J ?_|((first|refine lbx J ?_|refine lal J ?_|refine lbs J ?_);clear J;intro C g J)|(refine zc J ?_;clear J;intro g J))
 go_upto_region 5 with(first|(go_at_call 20;refine(cF.out _ J.below).mono ?_;rintro q ds ⟨⟨b0,⟨dR,ad,a7⟩,⟨ax,fn,aw⟩⟩,rfl,aJ,aI,dP,Rv,b9,b8,cw,T,bZ⟩;replace J:=J.gave bZ;simp only[aX]at J;clear bZ;dsimp only)|(with_reducible first|(refine lal J ?_;clear J;intro bA g J)|refine lld J ?_|((first|refine lbx J ?_|refine lal J ?_|refine lbs J ?_);clear J;intro C g J)|(refine zc J ?_;clear J;intro g J)))
 have dj:b0=false:=by rw[show b0=d.none from cw];exact b6.out
 subst dj;clear cw;have aa:=(J.get (S:=zH aJ aI d.vars d.fields) List.mem_cons_self).1;have cf:=T.vars.flatlen jb (by decide);have cX:=aa.len
 (try dsimp only at cf)
 obtain⟨bv,av,cs,rfl,dk,bn⟩:=T.vars.block (show 0<ad by have:=aE.out;omega);have a3:=fun o=>T.vars.put jb zI (k:=k) (show k<ad by have:=aE.out;omega) o
 have ca:=T.vars.fits
 (try dsimp only at cs a3 ca bn)
 subst cs;have dD:k<ad:=by have:=aE.out;omega
 have cL:=za (fun o:Gu=>show k*7+o.cells.length<=av.length by show k*7+7<=_;rw[bn];omega);have cJ:=za (And.intro a3 T);clear aa cf cX dk a3 ca bn T;simp only[aX]at J;go_upto_region 6 with(with_reducible first|(refine lbs J ?_;clear J;intro aZ g J)|refine lld J ?_|((first|refine lbx J ?_|refine lal J ?_|refine lbs J ?_);clear J;intro C g J)|(refine zc J ?_;clear J;intro g J))
 go_upto_region 7 with(first|(go_at_call 78;refine cg J (zt _) ?_;clear J;intro g J;dsimp only)|((with_reducible refine lal J ?_);clear J;first|(have df:aF=aF:=rfl;clear df;intro bB g J)|intro aF g J)|(with_reducible first|refine lld J ?_|((first|refine lbx J ?_|refine lal J ?_|refine lbs J ?_);clear J;intro C g J)|(refine zc J ?_;clear J;intro g J)))
 go_upto_region 13 with(first|(with_reducible refine ldB b3.out J ?_)|(go_at_call 74;refine cg J (qj _ _) ?_;clear J;intro g J;dsimp only)|(go_at_call 75;refine cg J (qk _ _) ?_;clear J;intro g J;dsimp only)|(go_at_call 78;refine cg J (zt _) ?_;clear J;intro g J;dsimp only)|(with_reducible first|(refine lal J ?_;clear J;intro bC g J)|refine lld J ?_|((first|refine lbx J ?_|refine lal J ?_|refine lbs J ?_);clear J;intro C g J)|(refine zc J ?_;clear J;intro g J)))
 go_upto_region 65 with(with_reducible first|refine lld J ?_|((first|refine lbx J ?_|refine lal J ?_|refine lbs J ?_);clear J;intro C g J)|(refine zc J ?_;clear J;intro g J))
 go_cut [15] from 338 (fun c wc=>c=.bool (bd || gt || bc || !be)∧Loc w wc ((bC,108,[.bool false,.bool true,.int .i64 0,.int .i64 0,.bool false,.bool false,.slice none 0 0])::(bB,108,[.bool false,.bool true,.int .i64 0,.int .i64 0,.bool false,.bool false,.slice none 0 0])::(aF,108,[.bool bd,.bool be,.int .i64 bI,.int .i64 bH,.bool gt,.bool bc,.slice c7 gl.length c8])::(aZ,75,[.int .i64 ((at' : Int)+1),.bool false,.slice (some ⟨bv,0,none⟩) ad a7,.slice ax fn aw])::(bA,54,[.bool false,.slice (some ⟨bv,0,none⟩) ad a7,.slice ax fn aw])::(bF,86,[.int .i64 12,.int .i64 k,.int .i64 a,.int .i64 c0,.int .i64 n,.int .i64 c1])::(bE,54,[.bool false,.slice (some ⟨ba,bz,none⟩) d.vars.length cA,.slice cC d.fields.length cB])::(bD,27,[.int .i64 c5,.int .i64 c3,.slice (some ⟨aY,bx,none⟩) c4 c2])::(bv,108,av)::(b8++b9)) [zH aJ aI d.vars d.fields])
 case first=>
  obtain⟨b2,hwq⟩:∃ x,x=g:=⟨_,rfl⟩;subst hwq;refine zx [240,241,242,243,244,245,246,247,248,249,250,251,252,253,254,255,15] ?_
  iterate 17 refine qda ?_
  refine dns J ?_;clear J;intro c9 J;simp only[zr,sTa,sTb];go_wp2;go_meet
  case rel=>exact⟨rfl,J⟩
 clear J;obtain⟨rfl,J⟩:=hcut;go_wp2_with (with_reducible first|refine lld J ?_|((first|refine lbx J ?_|refine lal J ?_|refine lbs J ?_);clear J;intro C g J)|(refine zc J ?_;clear J;intro g J));go_loopw [26] (fun c dt=>∃ (j:Nat) (o:Gu),j<=gl.length∧c=.int .i64 j∧Loc w dt ((bC,108,o.cells)::(bB,108,[.bool false,.bool true,.int .i64 0,.int .i64 0,.bool false,.bool false,.slice none 0 0])::(aF,108,[.bool bd,.bool be,.int .i64 bI,.int .i64 bH,.bool gt,.bool bc,.slice c7 gl.length c8])::(aZ,75,[.int .i64 ((at' : Int)+1),.bool false,.slice (some ⟨bv,0,none⟩) ad a7,.slice ax fn aw])::(bA,54,[.bool false,.slice (some ⟨bv,0,none⟩) ad a7,.slice ax fn aw])::(bF,86,[.int .i64 12,.int .i64 k,.int .i64 a,.int .i64 c0,.int .i64 n,.int .i64 c1])::(bE,54,[.bool false,.slice (some ⟨ba,bz,none⟩) d.vars.length cA,.slice cC d.fields.length cB])::(bD,27,[.int .i64 c5,.int .i64 c3,.slice (some ⟨aY,bx,none⟩) c4 c2])::(bv,108,av)::(b8++b9)) [fun w=>ql w o (qQ d n (gl.take j)),zH aJ aI d.vars d.fields]) (fun c _=>gl.length - (intOf c).toNat)
 case atStart=>exact⟨0,qn,Nat.zero_le _,rfl,J.pure (fun w=>by rw[aS.out];exact⟨rfl,zk.nil w⟩)⟩
 case round=>
  obtain⟨j,o,bW,rfl,J⟩:=hrel;by_cases az:j<gl.length
  ·obtain⟨m,bo,bp,cc⟩:=b7.out j az
   obtain⟨r,au,a5,t,cu,dh,di,bq,a4,cv⟩:=cD.out m bp cc;have aO:=zd.cell (P:=prog) y2 (aQ.out j az).1 ((aQ.out j az).2 0 _ rfl);simp only[Nat.mul_one,Nat.add_zero]at aO;rw[bo]at aO;have cq:=aW.out (by show 0<gl.length;omega);have de:=aV.out (by omega)
   (try dsimp only at cq)
   subst cq de;clear aW aV;have aa:=J.get (S:=fun w=>ql w o (qQ d n (gl.take j))) List.mem_cons_self;have a1:=aU.out j az;rw[bo]at a1;have cd:((m:Int)).toNat=m:=rfl;rw[cd]at a1;have af:=fun ae (I:Below wr.heap.size wr ae)=>GK false both Uf o ((d.field m n).gu t) (qQ d n (gl.take j)) (d.field m n) ae (aa.grow I) (ql.mk' (cv.grow (J.below.trans (I.mono J.below.size)))) (aR.out j) (cG.out m)
   have ct:yQ (qQ d n (gl.take j)).l (d.field m n).l=(qx both (qQ d n (gl.take j)) (d.field m n)).l:=rfl;rw[ct]at af;clear ct aa cv cd;generalize cS:qx both (qQ d n (gl.take j)) (d.field m n)=B at af a1;clear cS;dsimp only[Pd.field,Pd.row]at a4 af;generalize (d.fields.getD m []).getD n zo=cR at a4 af;obtain⟨dO,b0,dN⟩:=r;obtain⟨t1,t2,t3⟩:=t;obtain⟨dA,⟨dB,dz,dx⟩,dC,dw,dy⟩:=cR;obtain⟨aB,⟨aC,aA,a9⟩,aD,a8,aP⟩:=B;dsimp only[Res.gu,Sl.v]at cu dh di bq a4 af;subst cu;obtain⟨un,⟨ao,an,ak⟩,ut,aj,⟨up,al,ai⟩⟩:=o;have cO:=za aO;have cM:=za bq;have cN:=za a4;have cE:=za af;have cI:=za a1;clear aO bq a4 af a1 bo cc;obtain⟨b2,hwq⟩:∃ x,x=wr:=⟨_,rfl⟩;subst hwq;go_upto_region 69 with(with_reducible first|refine lld J ?_|((first|refine lbx J ?_|refine lal J ?_|refine lbs J ?_);clear J;intro C g J)|(refine zc J ?_;clear J;intro g J))
   refine zb [263,264,265,266,267,268,269,270,271,272,273,274,275,276,277] ?_
   iterate 7 refine qdv ?_
   refine qdl cO.out ?_;refine qdv ?_;refine qdl cM.out ?_
   iterate 3 refine qdv ?_
   refine qdl cN.out ?_;refine qdn (GuR b2.heap.size aB ⟨aC,aA,a9⟩ aD a8 aP) GuR.stable J ?_ ?_
   ·intro o w I J _ q;simp only[aG]at q;simp only[fD];simp only[q]
    go_wp2_with (go_at_call 81;refine(cE.out _ I).mono ?_;rintro e ds ⟨r,rfl,⟨R,ah,dc⟩,cU⟩;dsimp only);exact⟨rfl,_,rfl,cU,r,R,rfl,ah,dc.mono I.size⟩
   refine qy J ?_;intro o c9 I bK q;simp only[aG]at q;have aH:(GuR b2.heap.size aB ⟨aC,aA,a9⟩ aD a8 aP) (o 277) c9:=qye bK 14;obtain⟨⟨dn,dp,dq⟩,du,aH,bL,bJ⟩:=aH;clear bK;simp only[fD];simp only[q,aH];clear q aH;replace J:=J.more I (QL bL bJ);clear bL bJ;clear I;go_wp2_with (with_reducible first|refine lld J ?_|((first|refine lbx J ?_|refine lal J ?_|refine lbs J ?_);clear J;intro C g J)|(refine zc J ?_;clear J;intro g J));go_roundw
   case rel=>
    refine⟨j+1,⟨aB,⟨aC,aA,a9⟩,aD,a8,⟨dn,dp,dq⟩⟩,by omega,by go_num,J.both fun w ac _=>?_⟩;rw[cI.out];exact ql.mk' (d:=⟨aB,⟨aC,aA,a9⟩,aD,a8,aP⟩) ac
   case measure=>simp[intOf];omega
  ·obtain rfl:j=gl.length:=by omega
   clear az;rw[aT.out]at J;have aa:=J.get (S:=fun w=>ql w o (qQ d n gl)) List.mem_cons_self;have bO:qb o=qD (qQ d n gl):=by
    have ac:=aa.e;rw[ac];exact QT aa.l.n
   have ay:=fun ae=>zK o ae
   rw[bO]at ay;clear aa bO aT aU aR aS;generalize bR:qQ d n gl=bb at J ar ay;have b5:=za bR;clear bR;generalize qD bb=cQ at ay ar;have b4:=za ay;clear ay;obtain⟨un,⟨ao,an,ak⟩,ut,aj,⟨up,al,ai⟩⟩:=o;cases cQ with
   | true=>
    go_wp2_with (first|(go_at_call 83;refine cg J (b4.out _) ?_;clear J;intro g J;dsimp only)|(with_reducible first|refine lld J ?_|((first|refine lbx J ?_|refine lal J ?_|refine lbs J ?_);clear J;intro C g J)|(refine zc J ?_;clear J;intro g J)))
    (try simp only[Exit.inBlock,Exit.then]);refine rt3 ?_
    refine⟨zi,rfl,?_⟩;show QK _ _ _ _ (jK d at' k (qQ d n gl))
    rw[b5.out,ar.out];exact QK.nil J.below
   | false=>
    go_wp2_with (first|(go_at_call 83;refine cg J (b4.out _) ?_;clear J;intro g J;dsimp only)|(refine zR (b:=bv) (off:=k*7) (vs:=Gu.cells ⟨un,⟨ao,an,ak⟩,ut,aj,⟨up,al,ai⟩⟩) (cs':=zj av (k*7) (Gu.cells ⟨un,⟨ao,an,ak⟩,ut,aj,⟨up,al,ai⟩⟩)) J rfl rfl cIn rfl zO.sz rfl (cL.out ⟨un,⟨ao,an,ak⟩,ut,aj,⟨up,al,ai⟩⟩) rfl ?_;clear J;intro ae J)|(with_reducible first|refine lld J ?_|((first|refine lbx J ?_|refine lal J ?_|refine lbs J ?_);clear J;intro C g J)|(refine zc J ?_;clear J;intro g J)))
    (try simp only[Exit.inBlock,Exit.then]);refine rt3 ?_
    obtain⟨a3,T⟩:=cJ.out;refine⟨⟨some ⟨aZ,0,none⟩,1,1⟩,rfl,?_⟩;show QK _ _ _ _ (jK d at' k (qQ d n gl))
    rw[b5.out,ar.out];exact((J.both (U:=fun w=>zN w gx d.vars->zH (aJ.set k ⟨un,⟨ao,an,ak⟩,ut,aj,⟨up,al,ai⟩⟩) aI (d.setVar k bb).vars (d.setVar k bb).fields w) (fun w ac aq hc=>⟨aq.1.set aE.out ac,aq.2⟩)).drop (.cons _ (.cons _ (.cons _ (.cons_cons _ (.cons _ (.cons _ (.cons _ (.cons _ (List.Sublist.refl _))))))))) (fun _ h=>h)).edge1 (K:=[]) (r:=⟨false,⟨some ⟨bv,0,none⟩,ad,a7⟩,⟨ax,fn,aw⟩⟩) (Rv:=[(bv,108,zj av (k*7) (Gu.cells ⟨un,⟨ao,an,ak⟩,ut,aj,⟨up,al,ai⟩⟩))]) ⟨a3 ⟨un,⟨ao,an,ak⟩,ut,aj,⟨up,al,ai⟩⟩,T.heads,T.rows⟩ b6.out.symm (by show (d.vars.set k _).length+_<=_;rw[List.length_set];exact cK.out)
theorem XS (Z:zg) (Rv g i:List zg):(Rv++(g++([Z]++i))).Perm (Z::(Rv++(g++i))):=by
 have e:Rv++(g++([Z]++i))=(Rv++g)++(Z::i):=by simp
 rw[e];refine List.perm_middle.trans ?_;rw[List.append_assoc]
theorem VH (H:zg) (Rv g:List zg):(Rv++(g++[H])).Perm (H::(Rv++g)):=by
 rw[<- List.append_assoc];exact List.perm_append_comm
theorem zh8 (p:Pg) (is:Nat->Ins) (i:Ins) (x:Pv) (d:Pd) (gx:List Gu) (at' : Nat) (w:World) (aJ:zf p is=0) (hc:zy w p is) (ao:zq w x d) (bc:JQ w x d gx) (ok:q2 p is d) (bb:at' < p.n) (hi:is at'=i) (hk:i.kind=13):q7 p at' x d gx (zJ i at' d) w:=by
 have bD:=(zp aJ).1;have ds:=bD.n1;have bf:=(zp aJ).2 at' bb;rw[hi]at bf;have a3:=qG bf;have dm:=jv bf;have au:=qq.of ok aJ;have cs:=ju.of au.r bD;have cX:=za (fun af (a1:Below w.heap.size w af)=>qU x d af (ao.grow a1) cs);have c6:d.vars.length+d.fields.length<=9223372036854775807:=(qV.of ok aJ ao).m;have dc:=za c6;obtain⟨br,bJ,c1,b1⟩:=hc;have c2:=c1 (by omega);have bz:=zd.agg (P:=prog) jP (b1 at' bb).1 (fun j v bd=>(b1 at' bb).2 j v bd) rfl;rw[hi]at bz;have cZ:=za (show zd prog 86 w br (bJ+at' * 6) (Ins.v i) from bz);have bI:=ao.e;have b2:=ok.none;rw[b2]at bI;have cH:=ao.vars.n;have dx:=ao.vars.m;rw[show zJ i at' d=⟨if (d.var i.a.toNat).l=[] then [] else [((at' : Int)+1,yM d i.n.toNat (d.var i.b.toNat) (d.var i.a.toNat).l)],jJ (d.var i.a.toNat),false⟩ by unfold zJ;rw[if_neg (by omega),if_neg (by omega),if_neg (by omega),if_pos hk]];obtain⟨cu,b0⟩:=idx (a3.a (by rw[hk];decide)) au.r.vars;obtain⟨aU,bi,c7,aD⟩:=bc.l.ex;have c8:=c7 (by omega);have b4:=bc.d.at' i.a.toNat b0;have b9:=zd.agg (P:=prog) zO (aD i.a.toNat (by omega)).1 (aD i.a.toNat (by omega)).2 rfl;obtain⟨bK,bE⟩:∃ s,gx.getD i.a.toNat zI=(d.var i.a.toNat).gu s:=⟨_,b4.e⟩;have be:zk w bK (d.var i.a.toNat).l:=by have:=b4.l;rw[bE]at this;exact this
 rw[bE]at b9;have bO:=za (show zd prog 108 w aU (bi+i.a.toNat*7) ((d.var i.a.toNat).gu bK).v from b9);have di:i.a.toNat<x.vars.n:=by omega
 obtain⟨cv,cp⟩:=idx (a3.b (by rw[hk];decide)) au.r.vars;have b5:=bc.d.at' i.b.toNat cp;have bA:=zd.agg (P:=prog) zO (aD i.b.toNat (by omega)).1 (aD i.b.toNat (by omega)).2 rfl;obtain⟨bL,bF⟩:∃ s,gx.getD i.b.toNat zI=(d.var i.b.toNat).gu s:=⟨_,b5.e⟩;have cy:zk w bL (d.var i.b.toNat).l:=by have:=b5.l;rw[bF]at this;exact this
 rw[bF]at bA;have bP:=za (show zd prog 108 w aU (bi+i.b.toNat*7) ((d.var i.b.toNat).gu bL).v from bA);have dk:i.b.toNat<x.vars.n:=by omega
 have bT:=za b2;have cw:i.n=(i.n.toNat:Int):=by have:=a3.f (.inr hk);omega
 have cF:=au.sites (n:=i.n.toNat) (by have:=a3.f (.inr hk);omega) b0;obtain⟨dS,dt,dr⟩:=ao.fields.ex;have aE:=ao.fields.n;have dp:=ao.fields.m;obtain⟨dC,dO,cA,cq⟩:=be.at'.ex;have bG:=be.n;have cG:=be.m;have bl:=za cA;have bj:=za cq;have bn:=za cF.at';have aR:=za (fun j (bd:j<(d.var i.a.toNat).l.length)=>XK d i.n.toNat (d.var i.b.toNat) (d.var i.a.toNat).l j bd);have az:=za (fun j=>Z2 i.n.toNat (d.var i.b.toNat) d ((d.var i.a.toNat).l.take j) d (Yo.refl d));have aP:=za (show yM d i.n.toNat (d.var i.b.toNat) ((d.var i.a.toNat).l.take 0)=d from rfl);have aQ:=za (show yM d i.n.toNat (d.var i.b.toNat) ((d.var i.a.toNat).l.take (d.var i.a.toNat).l.length)=yM d i.n.toNat (d.var i.b.toNat) (d.var i.a.toNat).l by rw[List.take_length]);have aO:=za (fun j m=>(jH.put i.n.toNat (au.var i.b.toNat) ((d.var i.a.toNat).l.take j) d au.fews m i.n.toNat).ins);have bR:=za (au.var i.b.toNat).ins;have bQ:=za cy;clear ao bc aJ a3 dm au bD bf cs c1 b1 bz hi b2 c6 ok c7 aD b4 b9 bE be b0 b5 bA bF cy cp;clear cF dt dr cA cq;unfold q7;generalize i.n.toNat=n at *;generalize i.a.toNat=a at *;generalize d.var a=g at *;generalize i.b.toNat=b at *;generalize d.var b=dh at *;obtain⟨dM,cJ,dK,dL,dN,cI⟩:=i;obtain⟨ed,⟨ee,ef,cS⟩,⟨cU,ec,cT⟩⟩:=x;obtain⟨cN,cL,dP,cM,cK⟩:=p;dsimp only at cw aE dp bG cG;subst cw aE;dsimp only at hk c2 ds bb bI cH dx cu c8 di cv dk;subst hk c2 bI cH cu c8 cv;obtain⟨bu,⟨bv,ch,cf⟩,gt,bt,o⟩:=g;obtain⟨cP,dU,cQ⟩:=bK;dsimp only[Res.gu]at bO bG cG bl bj bn aR az aP aQ aO;subst bG;obtain⟨gn2,⟨T,I,C⟩,aa,t,ad⟩:=dh;obtain⟨t1,t2,t3⟩:=bL;dsimp only[Res.gu]at bP bQ bR aR az aP aQ aO;have dH:nA 13=true:=by decide
 have dI:nB 13=true:=by decide
 have J:=Loc.start w;go_enter func40,ntmps40;go_step;go_step;go_step
 ((with_reducible refine lbx J ?_);clear J;intro ca w1 J)
 ((with_reducible refine lbx J ?_);clear J;intro cb w1 J)
 go_upto_region 4 with(with_reducible first|refine ldB cZ.out J ?_|(refine lal J ?_;clear J;intro cc w1 J)|refine lld J ?_|((first|refine lbx J ?_|refine lal J ?_|refine lbs J ?_);clear J;intro ae w1 J)|(refine zc J ?_;clear J;intro w1 J))
 go_upto_region 5 with(first|(go_at_call 20;refine(cX.out _ J.below).mono ?_;rintro q dz ⟨⟨cO,⟨aM,aL,aK⟩,⟨cd,fn,aB⟩⟩,rfl,ar,aZ,aA,a4,df,bq,cE,an,cx⟩;replace J:=J.gave cx;simp only[aX]at J;clear cx;dsimp only)|(with_reducible first|(refine lal J ?_;clear J;intro bW w1 J)|refine lld J ?_|((first|refine lbx J ?_|refine lal J ?_|refine lbs J ?_);clear J;intro ae w1 J)|(refine zc J ?_;clear J;intro w1 J)))
 have bg:cO=false:=by rw[show cO=d.none from cE];exact bT.out
 subst bg;clear cE;go_upto_region 6 with(with_reducible first|(refine lbs J ?_;clear J;intro bs w1 J)|refine lld J ?_|((first|refine lbx J ?_|refine lal J ?_|refine lbs J ?_);clear J;intro ae w1 J)|(refine zc J ?_;clear J;intro w1 J))
 go_upto_region 7 with(first|(go_at_call 78;refine cg J (zt _) ?_;clear J;intro w1 J;dsimp only)|((with_reducible refine lal J ?_);clear J;first|(have dv:aT=aT:=rfl;clear dv;intro bY w1 J)|intro aT w1 J)|(with_reducible first|refine lld J ?_|((first|refine lbx J ?_|refine lal J ?_|refine lbs J ?_);clear J;intro ae w1 J)|(refine zc J ?_;clear J;intro w1 J)))
 go_upto_region 13 with(first|(with_reducible first|refine ldB bO.out J ?_|refine ldB bP.out J ?_)|(go_at_call 74;refine cg J (qj _ _) ?_;clear J;intro w1 J;dsimp only)|(go_at_call 75;refine cg J (qk _ _) ?_;clear J;intro w1 J;dsimp only)|(go_at_call 78;refine cg J (zt _) ?_;clear J;intro w1 J;dsimp only)|(with_reducible first|(refine lal J ?_;clear J;intro bZ w1 J)|refine lld J ?_|((first|refine lbx J ?_|refine lal J ?_|refine lbs J ?_);clear J;intro ae w1 J)|(refine zc J ?_;clear J;intro w1 J)))
 go_upto_region 56 with(with_reducible first|refine lld J ?_|((first|refine lbx J ?_|refine lal J ?_|refine lbs J ?_);clear J;intro ae w1 J)|(refine zc J ?_;clear J;intro w1 J))
 go_cut [15] from 338 (fun c wc=>c=.bool (bu || gt || bt || !bv)∧Loc w wc ((bZ,108,[.bool false,.bool true,.int .i64 0,.int .i64 0,.bool false,.bool false,.slice none 0 0])::(bY,108,[.bool gn2,.bool T,.int .i64 I,.int .i64 C,.bool aa,.bool t,.slice t1 t2 t3])::(aT,108,[.bool bu,.bool bv,.int .i64 ch,.int .i64 cf,.bool gt,.bool bt,.slice cP o.length cQ])::(bs,75,[.int .i64 ((at' : Int)+1),.bool false,.slice aM aL aK,.slice cd fn aB])::(bW,54,[.bool false,.slice aM aL aK,.slice cd fn aB])::(cc,86,[.int .i64 13,.int .i64 cJ,.int .i64 a,.int .i64 b,.int .i64 n,.int .i64 cI])::(cb,54,[.bool false,.slice (some ⟨aU,bi,none⟩) d.vars.length cS,.slice cU d.fields.length cT])::(ca,27,[.int .i64 cN,.int .i64 cL,.slice (some ⟨br,bJ,none⟩) cM cK])::(a4++(bq++df))) [zH ar aZ d.vars d.fields])
 case first=>
  obtain⟨bM,bH⟩:∃ x,x=w1:=⟨_,rfl⟩;subst bH;refine zx [181,182,183,184,185,186,187,188,189,190,191,192,193,194,195,196,15] ?_
  iterate 17 refine qda ?_
  refine dns J ?_;clear J;intro cR J;simp only[zr,sTa,sTb];go_wp2;go_meet
  case rel=>exact⟨rfl,J⟩
 clear J;obtain⟨rfl,J⟩:=hcut;by_cases ba:o=[]
 ·subst ba
  go_wp2_with (with_reducible first|refine lld J ?_|((first|refine lbx J ?_|refine lal J ?_|refine lbs J ?_);clear J;intro ae w1 J)|(refine zc J ?_;clear J;intro w1 J))
  (try simp only[Exit.inBlock,Exit.then]);refine rt3 ?_
  exact⟨zi,rfl,QK.nil J.below⟩
 have dF:¬ o.length=0:=by simpa using ba
 have da:=za ba;clear ba;have aF:=(J.get (S:=zH ar aZ d.vars d.fields) List.mem_cons_self).2;have bC:aA.length=d.fields.length:=by rw[an.rows.len,aF.len]
 have aE:fn=aA.length:=an.heads.flatlen (f:=Sl.row) (es:=1) (fun _=>rfl) (by decide);have dD:0<d.fields.length:=by
  obtain⟨m,_,a7,_⟩:=bn.out 0 (by omega);omega
 obtain⟨a5,aW,c5,rfl,-,-⟩:=an.heads.block (show 0<fn by omega);have cW:=za (fun m (dG:m<d.fields.length)=>show zn prog 51 aW m (aA.getD m zi).v from zn.cell jZ (an.heads.at1 (k:=m) (show m<fn by omega)));have dE:fn<=maxLen:=an.heads.max;have bm:=za (And.intro an.rows (And.intro an.vars an.heads));have dd:=za bC
 (try dsimp only at c5)
 subst c5;have a8:fn=d.fields.length:=aE.trans bC;subst a8;clear an aF bC aE;generalize c3:(fun j=>yM d n ⟨gn2,⟨T,I,C⟩,aa,t,ad⟩ (o.take j))=pd;have c4:∀ j,yM d n ⟨gn2,⟨T,I,C⟩,aa,t,ad⟩ (o.take j)=pd j:=fun j=>by rw[<- c3]
 simp only[c4]at aR az aP aQ aO;clear c3 c4;replace J:=(J.perm ((((((((((VH (a5,51,aW) a4 bq).symm).cons _).cons _).cons _).cons _).cons _).cons _).cons _).cons _)).turn (U:=zH ar aZ (pd 0).vars (pd 0).fields) (fun w h=>by rw[aP.out];exact h);go_wp2_with (with_reducible first|refine lld J ?_|((first|refine lbx J ?_|refine lal J ?_|refine lbs J ?_);clear J;intro ae w1 J)|(refine zc J ?_;clear J;intro w1 J));go_loopw [25] (fun c dA=>∃ (j:Nat) (ac : List (List Gu)) (aS : List zg),j<=o.length∧c=.int .i64 j∧jT aA ac aS∧Loc w dA ((bZ,108,[.bool false,.bool true,.int .i64 0,.int .i64 0,.bool false,.bool false,.slice none 0 0])::(bY,108,[.bool gn2,.bool T,.int .i64 I,.int .i64 C,.bool aa,.bool t,.slice t1 t2 t3])::(aT,108,[.bool bu,.bool bv,.int .i64 ch,.int .i64 cf,.bool gt,.bool bt,.slice cP o.length cQ])::(bs,75,[.int .i64 ((at' : Int)+1),.bool false,.slice aM aL aK,.slice (some ⟨a5,0,none⟩) d.fields.length aB])::(bW,54,[.bool false,.slice aM aL aK,.slice (some ⟨a5,0,none⟩) d.fields.length aB])::(cc,86,[.int .i64 13,.int .i64 cJ,.int .i64 a,.int .i64 b,.int .i64 n,.int .i64 cI])::(cb,54,[.bool false,.slice (some ⟨aU,bi,none⟩) d.vars.length cS,.slice cU d.fields.length cT])::(ca,27,[.int .i64 cN,.int .i64 cL,.slice (some ⟨br,bJ,none⟩) cM cK])::(a5,51,aW)::(a4++aS)) [zH ar ac (pd j).vars (pd j).fields]) (fun c _=>o.length - (intOf c).toNat)
 case atStart=>exact⟨0,aZ,bq,Nat.zero_le _,rfl,bm.out.1,J⟩
 case round=>
  obtain⟨j,ac,aS,bd,rfl,bx,J⟩:=hrel;by_cases aI:j<o.length
  ·obtain⟨m,b6,av,b7⟩:=bn.out j aI
   have aF:=J.get (S:=zH ar ac (pd j).vars (pd j).fields) List.mem_cons_self;have a2:=az.out j;obtain⟨bo,R,bp,rfl,a0,cD⟩:=bx.get m (by rw[dd.out];exact av);have b3:=aF.2.at' m (by rw[a2.len];exact av);have bg:=a0.flatlen jb (by decide);have bB:(aA.getD m zi).n=(d.row m).length:=(bg.trans b3.len).trans (a2.rows m av);obtain⟨aV,a6,b8,rfl,dw,cz⟩:=a0.block (by omega);have cr:=a0.elem jb zI (k:=n) (by omega);have cB:=fun g=>a0.put jb zI (k:=n) (by omega) g
   have dn:=a0.fits;have c0:=a0.max;have aH:=b3.at' n (by rw[show ((pd j).fields.getD m []).length=(d.row m).length from a2.rows m av];exact b7);have de:=za (fun g:Gu=>show n*7+g.cells.length<=a6.length by show n*7+7<=_;rw[cz];omega);have db:=za (fun g=>cD _ _ (cB g));have bS:=za (show zn prog 108 a6 (n*7) ((ac.getD m []).getD n zI).v from zn.agg zO cr rfl);have aN:=za (cW.out m av);have a9:=aR.out j aI;rw[b6]at a9;obtain⟨aq,a8⟩:∃ f,(pd j).field m n=f:=⟨_,rfl⟩;replace a9:pd (j+1)=(pd j).setField m n (qx both ((pd j).field m n) ⟨gn2,⟨T,I,C⟩,aa,t,ad⟩):=a9;rw[a8]at a9;replace aH:ql wr ((ac.getD m []).getD n zI) aq:=by rw[<- a8];exact aH
   have ct:inS aq.l:=by rw[<- a8];exact aO.out j m
   clear a8;generalize dq:(ac.getD m []).getD n zI=g at bS aH;clear dq;have aC:=fun af (cn:Below wr.heap.size wr af)=>GK false both Uf g (Res.gu ⟨gn2,⟨T,I,C⟩,aa,t,ad⟩ ⟨t1,t2,t3⟩) aq ⟨gn2,⟨T,I,C⟩,aa,t,ad⟩ af (aH.grow cn) (ql.mk' (d:=⟨gn2,⟨T,I,C⟩,aa,t,ad⟩) (bQ.out.grow (J.below.trans (cn.mono J.below.size)))) ct bR.out
   have cC:yQ aq.l (Res.l ⟨gn2,⟨T,I,C⟩,aa,t,ad⟩)=(qx both aq ⟨gn2,⟨T,I,C⟩,aa,t,ad⟩).l:=rfl;rw[cC]at aC;have bk:=za (fun af (q:Sl) (bw:zk af q (qx both aq ⟨gn2,⟨T,I,C⟩,aa,t,ad⟩).l) (a7:zH ar ac (pd j).vars (pd j).fields af)=>show zH ar (ac.set m ((ac.getD m []).set n ((qx both aq ⟨gn2,⟨T,I,C⟩,aa,t,ad⟩).gu q))) (pd (j+1)).vars (pd (j+1)).fields af by
    rw[a9];exact⟨a7.1,a7.2.set (by rw[a2.len];exact av) ((a7.2.at' m (by rw[a2.len];exact av)).set (by rw[show ((pd j).fields.getD m []).length=(d.row m).length from a2.rows m av];exact b7) (ql.mk' bw))⟩)
   have bh:=zd.cell (P:=prog) y2 (bj.out j aI).1 ((bj.out j aI).2 0 _ rfl);simp only[Nat.mul_one,Nat.add_zero]at bh;rw[b6]at bh;have c9:=bl.out (by show 0<o.length;omega)
   (try dsimp only at c9)
   subst c9;clear bl cC aF b3 aH bg cD cB cr dw cz dn a0 a9 bx a2 ct;have cj:=J.perm (((((((((((XS (aV,108,a6) a4 bo bp).symm).cons _).cons _).cons _).cons _).cons _).cons _).cons _).cons _).cons _);clear J;have J:=cj;clear cj;generalize aA.getD m zi=row at aN bB b8 c0;generalize qx both aq ⟨gn2,⟨T,I,C⟩,aa,t,ad⟩=B at aC bk;obtain⟨dR,dy,dQ⟩:=row;obtain⟨aj,⟨ak,ai,ah⟩,al,ag,bN⟩:=B;obtain⟨un,⟨eb,ea,dY⟩,ut,dX,⟨up,dZ,dW⟩⟩:=g;dsimp only[Res.gu,Sl.v]at aC aN bB b8 c0 bk;subst b8;have dJ:n<dy:=by omega
   have cV:=za aC;have bU:=za bh;clear aC bh b6 bB b7;obtain⟨bM,bH⟩:∃ x,x=wr:=⟨_,rfl⟩;subst bH;go_upto_region 62 with(with_reducible first|refine lld J ?_|((first|refine lbx J ?_|refine lal J ?_|refine lbs J ?_);clear J;intro ae w1 J)|(refine zc J ?_;clear J;intro w1 J))
   refine zb [209,210,211,212,213,214,215,216,217,218,219,220,221,222,223,224,225,226,227,228,229,230,231,232,233,234,235] ?_
   iterate 6 refine qdv ?_
   refine qdl bU.out ?_;refine qdv ?_;refine yT aN.out ?_
   iterate 8 refine qdv ?_
   refine qdl bU.out ?_;refine qdv ?_;refine yT aN.out ?_
   iterate 3 refine qdv ?_
   refine yT bS.out ?_;refine qdv ?_;refine qdn (GuR bM.heap.size aj ⟨ak,ai,ah⟩ al ag bN) GuR.stable J ?_ ?_
   ·intro g w a1 J _ q;simp only[aG]at q;simp only[fD];simp only[q]
    go_wp2_with (go_at_call 81;refine(cV.out _ a1).mono ?_;rintro e dz ⟨r,rfl,⟨R,a3,du⟩,dj⟩;dsimp only);exact⟨rfl,_,rfl,dj,r,R,rfl,a3,du.mono a1.size⟩
   refine qdv ?_;refine qy J ?_;intro g cR a1 cl q;simp only[aG]at q;have aY:(GuR bM.heap.size aj ⟨ak,ai,ah⟩ al ag bN) (g 234) cR:=qye cl 25;obtain⟨⟨aw,ax,ay⟩,dB,aY,cm,ck⟩:=aY;clear cl;simp only[fD];simp only[q,aY];clear q aY;replace J:=J.more a1 (QL cm ck);clear cm ck;clear a1;go_wp2_with (first|(refine zR (b:=aV) (off:=n*7) (vs:=Gu.cells ⟨aj,⟨ak,ai,ah⟩,al,ag,⟨aw,ax,ay⟩⟩) (cs':=zj a6 (n*7) (Gu.cells ⟨aj,⟨ak,ai,ah⟩,al,ag,⟨aw,ax,ay⟩⟩)) J rfl rfl cIn rfl zO.sz rfl (de.out ⟨aj,⟨ak,ai,ah⟩,al,ag,⟨aw,ax,ay⟩⟩) rfl ?_;clear J;intro af J)|(with_reducible first|refine lld J ?_|((first|refine lbx J ?_|refine lal J ?_|refine lbs J ?_);clear J;intro ae w1 J)|(refine zc J ?_;clear J;intro w1 J)));go_roundw
   case rel=>
    exact⟨j+1,ac.set m ((ac.getD m []).set n ⟨aj,⟨ak,ai,ah⟩,al,ag,⟨aw,ax,ay⟩⟩),bo++([(aV,108,zj a6 (n*7) (Gu.cells ⟨aj,⟨ak,ai,ah⟩,al,ag,⟨aw,ax,ay⟩⟩))]++bp),by omega,by go_num,db.out ⟨aj,⟨ak,ai,ah⟩,al,ag,⟨aw,ax,ay⟩⟩,(J.perm ((((((((((XS (aV,108,zj a6 (n*7) (Gu.cells ⟨aj,⟨ak,ai,ah⟩,al,ag,⟨aw,ax,ay⟩⟩)) a4 bo bp).cons _).cons _).cons _).cons _).cons _).cons _).cons _).cons _).cons _)).both (fun w bw a7=>bk.out w ⟨aw,ax,ay⟩ bw a7)⟩
   case measure=>simp[intOf];omega
  ·obtain rfl:j=o.length:=by omega
   clear aI;go_wp2_with (with_reducible first|refine lld J ?_|((first|refine lbx J ?_|refine lal J ?_|refine lbs J ?_);clear J;intro ae w1 J)|(refine zc J ?_;clear J;intro w1 J))
   (try simp only[Exit.inBlock,Exit.then]);refine rt3 ?_
   refine⟨⟨some ⟨bs,0,none⟩,1,1⟩,rfl,?_⟩
   (first|(show QK _ _ _ _ [((at' : Int)+1,yM d n ⟨gn2,⟨T,I,C⟩,aa,t,ad⟩ o)])|(show QK _ _ _ _ (if o=[] then [] else [((at' : Int)+1,yM d n ⟨gn2,⟨T,I,C⟩,aa,t,ad⟩ o)]);rw[if_neg da.out]))
   rw[<- aQ.out];exact(((J.perm (((((((((VH (a5,51,aW) a4 aS).cons _).cons _).cons _).cons _).cons _).cons _).cons _).cons _)).turn (U:=fun w=>zN w gx d.vars->zH ar ac (pd o.length).vars (pd o.length).fields w) (fun w h _=>h)).drop (.cons _ (.cons _ (.cons _ (.cons_cons _ (.cons _ (.cons _ (.cons _ (.cons _ (List.Sublist.refl _))))))))) (fun _ h=>h)).edge1 (K:=[]) (r:=⟨false,⟨aM,aL,aK⟩,⟨some ⟨a5,0,none⟩,d.fields.length,aB⟩⟩) ⟨bm.out.2.1,bm.out.2.2,bx⟩ ((az.out o.length).none.trans bT.out).symm (by rw[(az.out o.length).vars,(az.out o.length).len];exact dc.out)
theorem XT {k:Int}(hk:k=4∨k=10) (g h i : Gu) (l m j : List Int):qL k g h l m=qL k g i l j:=by
 rcases hk with rfl|rfl<;>rfl
theorem Yt:yH qn []:=⟨rfl,rfl,(fun x g=>by cases g),List.Pairwise.nil,Nat.zero_le _⟩
theorem zgS (p:Pg) (is:Nat->Ins) (i:Ins) (x:Pv) (d:Pd) (gx:List Gu) (at' : Nat) (w:World) (ao:zf p is=0) (hc:zy w p is) (aj:zq w x d) (a0:JQ w x d gx) (ok:q2 p is d) (ax:at' < p.n) (hi:is at'=i) (hk:5<=i.kind∧i.kind<=9):q7 p at' x d gx (zJ i at' d) w:=by
 have aM:=(zp ao).1;have bL:=aM.n1;have a3:=(zp ao).2 at' ax;rw[hi]at a3;have a4:=qG a3;have bI:=jv a3;have ai:=qq.of ok ao;have be:=ju.of ai.r aM;have b2:=za (fun ac (ay:Below w.heap.size w ac)=>qU x d ac (aj.grow ay) be);have br:d.vars.length+d.fields.length<=9223372036854775807:=(qV.of ok ao aj).m;have b7:=za br;obtain⟨b9,bU,bp,aE⟩:=hc;have bq:=bp (by omega);have aC:=zd.agg (P:=prog) jP (aE at' ax).1 (fun j v bK=>(aE at' ax).2 j v bK) rfl;rw[hi]at aC;have b3:=za (show zd prog 86 w b9 (bU+at' * 6) (Ins.v i) from aC);have aO:=aj.e;have aF:=ok.none;rw[aF]at aO;have bz:=aj.vars.n;have bP:=aj.vars.m;rw[show zJ i at' d=⟨jK d at' i.to.toNat (qL i.kind ((d.var i.a.toNat).gu ⟨none,(d.var i.a.toNat).l.length,0⟩) ((d.var i.b.toNat).gu ⟨none,(d.var i.b.toNat).l.length,0⟩) (d.var i.a.toNat).l (d.var i.b.toNat).l).1,(qL i.kind ((d.var i.a.toNat).gu ⟨none,(d.var i.a.toNat).l.length,0⟩) ((d.var i.b.toNat).gu ⟨none,(d.var i.b.toNat).l.length,0⟩) (d.var i.a.toNat).l (d.var i.b.toNat).l).2,false⟩ by unfold zJ;rw[if_neg (by omega),if_neg (by omega),if_neg (by omega),if_neg (by omega),if_neg (by omega),if_neg (by omega),if_neg (by omega),if_neg (by omega),if_neg (by omega)]];obtain⟨bg,aw⟩:=idx (a4.a (by simp[nA,zU];omega)) ai.r.vars;obtain⟨aY,b0,bs,al⟩:=a0.l.ex;have bt:=bs (by omega);have aH:=a0.d.at' i.a.toNat aw;have aK:=zd.agg (P:=prog) zO (al i.a.toNat (by omega)).1 (al i.a.toNat (by omega)).2 rfl;obtain⟨ar,a5⟩:∃ s,gx.getD i.a.toNat zI=(d.var i.a.toNat).gu s:=⟨_,aH.e⟩;have an:zk w ar (d.var i.a.toNat).l:=by have:=aH.l;rw[a5]at this;exact this
 rw[a5]at aK;have aP:=za (show zd prog 108 w aY (b0+i.a.toNat*7) ((d.var i.a.toNat).gu ar).v from aK);have bF:i.a.toNat<x.vars.n:=by omega
 obtain⟨bh,aD⟩:=idx (a4.b (by simp[nB,zU];omega)) ai.r.vars;have aI:=a0.d.at' i.b.toNat aD;have aL:=zd.agg (P:=prog) zO (al i.b.toNat (by omega)).1 (al i.b.toNat (by omega)).2 rfl;obtain⟨a6,aN⟩:∃ s,gx.getD i.b.toNat zI=(d.var i.b.toNat).gu s:=⟨_,aI.e⟩;have a1:zk w a6 (d.var i.b.toNat).l:=by have:=aI.l;rw[aN]at this;exact this
 rw[aN]at aL;have aQ:=za (show zd prog 108 w aY (b0+i.b.toNat*7) ((d.var i.b.toNat).gu a6).v from aL);have bG:i.b.toNat<x.vars.n:=by omega
 have aT:=za aF;obtain⟨bi,bj⟩:=idx (a4.to (by simp[nTo,zU];omega)) ai.r.vars;have av:=za bj;have aR:=za (fun au (hc:zN au gx d.vars)=>show zk au ar (d.var i.a.toNat).l by
  have aa:=(hc.at' i.a.toNat aw).l;rw[a5]at aa;exact aa)
 have bx:=an.n;have bc:zU i.kind 4 10=true:=by simp[zU];omega
 have a2:=fun ac (ay:Below w.heap.size w ac)=>GD i.kind ((d.var i.a.toNat).gu ar) ((d.var i.b.toNat).gu a6) (d.var i.a.toNat).l (d.var i.b.toNat).l ac bc ((ai.r.vg _ aw).gu an.n) ((ai.r.vg _ aD).gu a1.n) (an.grow ay) (a1.grow ay)
 simp only[U1 i.kind (d.var i.a.toNat) (d.var i.b.toNat) (d.var i.a.toNat).l (d.var i.b.toNat).l an.n a1.n]at a2;have aV:=za bx;generalize qL i.kind ((d.var i.a.toNat).gu ⟨none,(d.var i.a.toNat).l.length,0⟩) ((d.var i.b.toNat).gu ⟨none,(d.var i.b.toNat).l.length,0⟩) (d.var i.a.toNat).l (d.var i.b.toNat).l=bT at *;obtain⟨⟨C,⟨I,t,o⟩,R,ef,el⟩,cP⟩:=bT;dsimp only at a2;have a8:=za a2;clear a2;have a9:=za (show jK d at' i.to.toNat ⟨C,⟨I,t,o⟩,R,ef,el⟩=if qD ⟨C,⟨I,t,o⟩,R,ef,el⟩=true then [] else [((at' : Int)+1,d.setVar i.to.toNat ⟨C,⟨I,t,o⟩,R,ef,el⟩)] from rfl);clear bx;clear bc aj a0 ao a4 bI ai aM a3 be bp aE aC hi aF br ok bs al aH aK a5 an aw aI aL aN a1 aD;clear bj;unfold q7;generalize i.to.toNat=k at *;generalize i.a.toNat=a at *;generalize d.var a=g at *;generalize i.b.toNat=b at *;generalize d.var b=bE at *;obtain⟨T,c2,cy,cz,c1,c0⟩:=i;obtain⟨cU,⟨cV,cW,cQ⟩,⟨cT,cS,cR⟩⟩:=x;obtain⟨c7,c5,c3,c6,c4⟩:=p;dsimp only at bi;subst bi;dsimp only at hk bq bL ax aO bz bP bg bt bF bh bG;obtain⟨bR,bS⟩:=hk;have cH:(T==19)=false:=by simp;omega
 have cG:(T==18)=false:=by simp;omega
 have cE:(T==16)=false:=by simp;omega
 have cD:(T==15)=false:=by simp;omega
 have cF:(T==17)=false:=by simp;omega
 have cB:(T==13)=false:=by simp;omega
 have cA:(T==12)=false:=by simp;omega
 have c9:(T==11)=false:=by simp;omega
 have c8:(T==1)=false:=by simp;omega
 have cC:(T==14)=false:=by simp;omega
 have cI:(T==2)=false:=by simp;omega
 have cJ:(T==3)=false:=by simp;omega
 have bm:nA T=true:=by simp[nA,zU];omega
 have bn:nB T=true:=by simp[nB,zU];omega
 clear bR bS;have b4:=za (fun ac=>show Calls prog 74 #[.int .i64 T] ac _ by have h:=qj T ac;rw[bm]at h;exact h);have b5:=za (fun ac=>show Calls prog 75 #[.int .i64 T] ac _ by have h:=qk T ac;rw[bn]at h;exact h);clear bm bn;subst bq aO bz bg bt bh;obtain⟨cs,⟨cu,cq,cl⟩,gt,cj,cn⟩:=g;obtain⟨cL,cM,cN⟩:=ar;dsimp only[Res.gu]at aP a8 aR aV;obtain⟨ct,⟨cv,cr,cm⟩,cw,ck,cp⟩:=bE;obtain⟨t1,t2,t3⟩:=a6;dsimp only[Res.gu]at aQ a8;have J:=Loc.start w;go_enter func40,ntmps40;go_step;go_step;go_step
 ((with_reducible refine lbx J ?_);clear J;intro cd w1 J)
 ((with_reducible refine lbx J ?_);clear J;intro cf w1 J)
 go_upto_region 4 with(with_reducible first|refine ldB b3.out J ?_|(refine lal J ?_;clear J;intro ch w1 J)|refine lld J ?_|((first|refine lbx J ?_|refine lal J ?_|refine lbs J ?_);clear J;intro ah w1 J)|(refine zc J ?_;clear J;intro w1 J))
 go_upto_region 5 with(first|(go_at_call 20;refine(b2.out _ J.below).mono ?_;rintro q bW ⟨⟨b1,⟨cO,a7,bV⟩,⟨bD,fn,bC⟩⟩,rfl,ba,aZ,cK,Rv,bZ,bY,bv,ag,bk⟩;replace J:=J.gave bk;simp only[aX]at J;clear bk;dsimp only)|(with_reducible first|(refine lal J ?_;clear J;intro ca w1 J)|refine lld J ?_|((first|refine lbx J ?_|refine lal J ?_|refine lbs J ?_);clear J;intro ah w1 J)|(refine zc J ?_;clear J;intro w1 J)))
 have bN:b1=false:=by rw[show b1=d.none from bv];exact aT.out
 subst bN;clear bv;have bf:=(J.get (S:=zH ba aZ d.vars d.fields) List.mem_cons_self).1;have bo:=ag.vars.flatlen jb (by decide);have bJ:=bf.len
 (try dsimp only at bo)
 obtain⟨aA,aB,bu,rfl,bO,aJ⟩:=ag.vars.block (show 0<a7 by have:=av.out;omega);have aq:=fun g=>ag.vars.put jb zI (k:=k) (show k<a7 by have:=av.out;omega) g
 have bl:=ag.vars.fits
 (try dsimp only at bu aq bl aJ)
 subst bu;have cx:k<a7:=by have:=av.out;omega
 have b8:=za (fun g:Gu=>show k*7+g.cells.length<=aB.length by show k*7+7<=_;rw[aJ];omega);have b6:=za (And.intro aq ag);clear bf bo bJ bO aq bl aJ ag;simp only[aX]at J;go_upto_region 6 with(with_reducible first|(refine lbs J ?_;clear J;intro bA w1 J)|refine lld J ?_|((first|refine lbx J ?_|refine lal J ?_|refine lbs J ?_);clear J;intro ah w1 J)|(refine zc J ?_;clear J;intro w1 J))
 go_upto_region 7 with(first|(go_at_call 78;refine cg J (zt _) ?_;clear J;intro w1 J;dsimp only)|((with_reducible refine lal J ?_);clear J;first|(have bM:aW=aW:=rfl;clear bM;intro cb w1 J)|intro aW w1 J)|(with_reducible first|refine lld J ?_|((first|refine lbx J ?_|refine lal J ?_|refine lbs J ?_);clear J;intro ah w1 J)|(refine zc J ?_;clear J;intro w1 J)))
 go_upto_region 13 with(first|(with_reducible first|refine ldB aP.out J ?_|refine ldB aQ.out J ?_)|(go_at_call 74;refine cg J (b4.out _) ?_;clear J;intro w1 J;dsimp only)|(go_at_call 75;refine cg J (b5.out _) ?_;clear J;intro w1 J;dsimp only)|(go_at_call 78;refine cg J (zt _) ?_;clear J;intro w1 J;dsimp only)|(with_reducible first|(refine lal J ?_;clear J;intro cc w1 J)|refine lld J ?_|((first|refine lbx J ?_|refine lal J ?_|refine lbs J ?_);clear J;intro ah w1 J)|(refine zc J ?_;clear J;intro w1 J)))
 go_upto_region 84 with(first|(go_at_call 82;refine(a8.out _ J.below).mono ?_;rintro e bW ⟨⟨ad,ae,af⟩,rfl,bw,bb⟩;replace J:=J.grow bb;clear bb;have aU:=za bw;clear bw;dsimp only[Res.gu])|(with_reducible first|refine lld J ?_|((first|refine lbx J ?_|refine lal J ?_|refine lbs J ?_);clear J;intro ah w1 J)|(refine zc J ?_;clear J;intro w1 J)))
 replace J:=J.pure (S:=fun w=>zN w gx d.vars->ql w ⟨C,⟨I,t,o⟩,R,ef,⟨ad,ae,af⟩⟩ ⟨C,⟨I,t,o⟩,R,ef,el⟩) (fun au hc=>⟨rfl,by
  rcases aU.out with⟨aa,ab⟩|⟨aa,ab⟩
  ·(try dsimp only at aa ab)
   rw[aa,ab];exact aR.out au hc
  ·(try dsimp only at aa ab)
   rw[aa,ab];exact zk.nil au⟩)
 have bd:qb ⟨C,⟨I,t,o⟩,R,ef,⟨ad,ae,af⟩⟩=qD ⟨C,⟨I,t,o⟩,R,ef,el⟩:=QT (d:=⟨C,⟨I,t,o⟩,R,ef,el⟩) (s:=⟨ad,ae,af⟩) (by
  rcases aU.out with⟨aa,ab⟩|⟨aa,ab⟩
  ·(try dsimp only at aa ab)
   rw[aa,ab];exact aV.out
  ·(try dsimp only at aa ab)
   rw[aa,ab];rfl)
 have az:=fun ac=>zK ⟨C,⟨I,t,o⟩,R,ef,⟨ad,ae,af⟩⟩ ac
 rw[bd]at az;clear bd;generalize bH:qD ⟨C,⟨I,t,o⟩,R,ef,el⟩=bB at az a9;have aS:=za az;clear az bH;cases bB with
 | true=>
  go_wp2_with (first|(go_at_call 83;refine cg J (aS.out _) ?_;clear J;intro w1 J;dsimp only)|(with_reducible first|refine lld J ?_|((first|refine lbx J ?_|refine lal J ?_|refine lbs J ?_);clear J;intro ah w1 J)|(refine zc J ?_;clear J;intro w1 J)))
  (try simp only[Exit.inBlock,Exit.then]);refine rt3 ?_
  refine⟨zi,rfl,?_⟩;show QK _ _ _ _ (jK d at' k ⟨C,⟨I,t,o⟩,R,ef,el⟩)
  rw[a9.out];exact QK.nil J.below
 | false=>
  go_wp2_with (first|(go_at_call 83;refine cg J (aS.out _) ?_;clear J;intro w1 J;dsimp only)|(refine zR (b:=aA) (off:=k*7) (vs:=Gu.cells ⟨C,⟨I,t,o⟩,R,ef,⟨ad,ae,af⟩⟩) (cs':=zj aB (k*7) (Gu.cells ⟨C,⟨I,t,o⟩,R,ef,⟨ad,ae,af⟩⟩)) J rfl rfl cIn rfl zO.sz rfl (b8.out ⟨C,⟨I,t,o⟩,R,ef,⟨ad,ae,af⟩⟩) rfl ?_;clear J;intro ac J)|(with_reducible first|refine lld J ?_|((first|refine lbx J ?_|refine lal J ?_|refine lbs J ?_);clear J;intro ah w1 J)|(refine zc J ?_;clear J;intro w1 J)))
  (try simp only[Exit.inBlock,Exit.then]);refine rt3 ?_
  obtain⟨aq,ag⟩:=b6.out;refine⟨⟨some ⟨bA,0,none⟩,1,1⟩,rfl,?_⟩;show QK _ _ _ _ (jK d at' k ⟨C,⟨I,t,o⟩,R,ef,el⟩)
  rw[a9.out];exact((J.both (U:=fun w=>zN w gx d.vars->zH (ba.set k ⟨C,⟨I,t,o⟩,R,ef,⟨ad,ae,af⟩⟩) aZ (d.setVar k ⟨C,⟨I,t,o⟩,R,ef,el⟩).vars (d.setVar k ⟨C,⟨I,t,o⟩,R,ef,el⟩).fields w) (fun w aa ab hc=>⟨ab.1.set av.out (aa hc),ab.2⟩)).drop (.cons _ (.cons _ (.cons _ (.cons_cons _ (.cons _ (.cons _ (.cons _ (.cons _ (List.Sublist.refl _))))))))) (fun _ h=>h)).edge1 (K:=[]) (r:=⟨false,⟨some ⟨aA,0,none⟩,a7,bV⟩,⟨bD,fn,bC⟩⟩) (Rv:=[(aA,108,zj aB (k*7) (Gu.cells ⟨C,⟨I,t,o⟩,R,ef,⟨ad,ae,af⟩⟩))]) ⟨aq ⟨C,⟨I,t,o⟩,R,ef,⟨ad,ae,af⟩⟩,ag.heads,ag.rows⟩ aT.out.symm (by show (d.vars.set k _).length+_<=_;rw[List.length_set];exact b7.out)
theorem ziJ (p:Pg) (is:Nat->Ins) (i:Ins) (x:Pv) (d:Pd) (gx:List Gu) (at' : Nat) (w:World) (ao:zf p is=0) (hc:zy w p is) (ai:zq w x d) (aB:JQ w x d gx) (ok:q2 p is d) (aw:at' < p.n) (hi:is at'=i) (hk:i.kind=4):q7 p at' x d gx (zJ i at' d) w:=by
 have aF:=(zp ao).1;have b6:=aF.n1;have az:=(zp ao).2 at' aw;rw[hi]at az;have aD:=qG az;have b3:=jv az;have al:=qq.of ok ao;have aU:=ju.of al.r aF;have bp:=za (fun ag (a6:Below w.heap.size w ag)=>qU x d ag (ai.grow a6) aU);have bf:d.vars.length+d.fields.length<=9223372036854775807:=(qV.of ok ao ai).m;have bs:=za bf;obtain⟨bu,bD,bd,a8⟩:=hc;have be:=bd (by omega);have a5:=zd.agg (P:=prog) jP (a8 at' aw).1 (fun j v b5=>(a8 at' aw).2 j v b5) rfl;rw[hi]at a5;have bq:=za (show zd prog 86 w bu (bD+at' * 6) (Ins.v i) from a5);have aH:=ai.e;have a9:=ok.none;rw[a9]at aH;have bn:=ai.vars.n;have bA:=ai.vars.m;rw[show zJ i at' d=⟨jK d at' i.to.toNat (qL i.kind ((d.var i.a.toNat).gu ⟨none,(d.var i.a.toNat).l.length,0⟩) ((d.var i.b.toNat).gu ⟨none,(d.var i.b.toNat).l.length,0⟩) (d.var i.a.toNat).l (d.var i.b.toNat).l).1,(qL i.kind ((d.var i.a.toNat).gu ⟨none,(d.var i.a.toNat).l.length,0⟩) ((d.var i.b.toNat).gu ⟨none,(d.var i.b.toNat).l.length,0⟩) (d.var i.a.toNat).l (d.var i.b.toNat).l).2,false⟩ by unfold zJ;rw[if_neg (by omega),if_neg (by omega),if_neg (by omega),if_neg (by omega),if_neg (by omega),if_neg (by omega),if_neg (by omega),if_neg (by omega),if_neg (by omega)]];obtain⟨aW,av⟩:=idx (aD.a (by rw[hk];decide)) al.r.vars;obtain⟨bw,bE,bg,a7⟩:=aB.l.ex;have bh:=bg (by omega);have aA:=aB.d.at' i.a.toNat av;have aE:=zd.agg (P:=prog) zO (a7 i.a.toNat (by omega)).1 (a7 i.a.toNat (by omega)).2 rfl;obtain⟨aj,a0⟩:∃ s,gx.getD i.a.toNat zI=(d.var i.a.toNat).gu s:=⟨_,aA.e⟩;have an:zk w aj (d.var i.a.toNat).l:=by have:=aA.l;rw[a0]at this;exact this
 rw[a0]at aE;have aI:=za (show zd prog 108 w bw (bE+i.a.toNat*7) ((d.var i.a.toNat).gu aj).v from aE);have b1:i.a.toNat<x.vars.n:=by omega
 have aM:=za a9;obtain⟨aY,aZ⟩:=idx (aD.to (by rw[hk];decide)) al.r.vars;have au:=za aZ;have aJ:=za (fun ar (hc:zN ar gx d.vars)=>show zk ar aj (d.var i.a.toNat).l by
  have aa:=(hc.at' i.a.toNat av).l;rw[a0]at aa;exact aa)
 have bm:=an.n;have ay:=fun ag (a6:Below w.heap.size w ag)=>GD i.kind ((d.var i.a.toNat).gu aj) qn (d.var i.a.toNat).l [] ag (by rw[hk];decide) ((al.r.vg _ av).gu an.n) Yt (an.grow a6) (zk.nil ag)
 have bj:qL i.kind ((d.var i.a.toNat).gu aj) qn (d.var i.a.toNat).l []=qL i.kind ((d.var i.a.toNat).gu ⟨none,(d.var i.a.toNat).l.length,0⟩) ((d.var i.b.toNat).gu ⟨none,(d.var i.b.toNat).l.length,0⟩) (d.var i.a.toNat).l (d.var i.b.toNat).l:=(XT (by omega) _ _ _ _ _ _).trans (U1 (t:=⟨none,(d.var i.b.toNat).l.length,0⟩) i.kind (d.var i.a.toNat) (d.var i.b.toNat) _ _ an.n rfl);simp only[bj]at ay;have aO:=za bm;generalize qL i.kind ((d.var i.a.toNat).gu ⟨none,(d.var i.a.toNat).l.length,0⟩) ((d.var i.b.toNat).gu ⟨none,(d.var i.b.toNat).l.length,0⟩) (d.var i.a.toNat).l (d.var i.b.toNat).l=bC at *;obtain⟨⟨I,⟨R,C,o⟩,T,ef,el⟩,ct⟩:=bC;dsimp only at ay;have aL:=za ay;clear ay;have a2:=za (show jK d at' i.to.toNat ⟨I,⟨R,C,o⟩,T,ef,el⟩=if qD ⟨I,⟨R,C,o⟩,T,ef,el⟩=true then [] else [((at' : Int)+1,d.setVar i.to.toNat ⟨I,⟨R,C,o⟩,T,ef,el⟩)] from rfl);clear bm;clear bj ai aB ao aD b3 al aF az aU bd a8 a5 hi a9 bf ok bg a7 aA aE a0 an av;clear aZ;unfold q7;generalize i.to.toNat=k at *;generalize i.a.toNat=a at *;generalize d.var a=g at *;obtain⟨cc,cf,bZ,ca,cd,cb⟩:=i;obtain⟨cy,⟨cz,c0,cu⟩,⟨cx,cw,cv⟩⟩:=x;obtain⟨cm,ck,ch,cl,cj⟩:=p;dsimp only at aY;subst aY;dsimp only at hk be b6 aw aH bn bA aW bh b1;subst hk be aH bn aW bh;obtain⟨bT,⟨bU,bS,bQ⟩,gt,bP,bR⟩:=g;obtain⟨cp,cq,cr⟩:=aj;dsimp only[Res.gu]at aI aL aJ aO;have bW:nA 4=true:=by decide
 have bY:nB 4=false:=by decide
 have J:=Loc.start w;go_enter func40,ntmps40;go_step;go_step;go_step
 ((with_reducible refine lbx J ?_);clear J;intro bM w1 J)
 ((with_reducible refine lbx J ?_);clear J;intro bN w1 J)
 go_upto_region 4 with(with_reducible first|refine ldB bq.out J ?_|(refine lal J ?_;clear J;intro bO w1 J)|refine lld J ?_|((first|refine lbx J ?_|refine lal J ?_|refine lbs J ?_);clear J;intro ah w1 J)|(refine zc J ?_;clear J;intro w1 J))
 go_upto_region 5 with(first|(go_at_call 20;refine(bp.out _ J.below).mono ?_;rintro q bG ⟨⟨bo,⟨cs,a1,bF⟩,⟨b0,fn,bz⟩⟩,rfl,aR,aQ,cn,Rv,bI,bH,bk,af,ba⟩;replace J:=J.gave ba;simp only[aX]at J;clear ba;dsimp only)|(with_reducible first|(refine lal J ?_;clear J;intro bJ w1 J)|refine lld J ?_|((first|refine lbx J ?_|refine lal J ?_|refine lbs J ?_);clear J;intro ah w1 J)|(refine zc J ?_;clear J;intro w1 J)))
 have b8:bo=false:=by rw[show bo=d.none from bk];exact aM.out
 subst b8;clear bk;have aV:=(J.get (S:=zH aR aQ d.vars d.fields) List.mem_cons_self).1;have bc:=af.vars.flatlen jb (by decide);have b4:=aV.len
 (try dsimp only at bc)
 obtain⟨a3,a4,bi,rfl,b9,aC⟩:=af.vars.block (show 0<a1 by have:=au.out;omega);have aq:=fun g=>af.vars.put jb zI (k:=k) (show k<a1 by have:=au.out;omega) g
 have bb:=af.vars.fits
 (try dsimp only at bi aq bb aC)
 subst bi;have bV:k<a1:=by have:=au.out;omega
 have bt:=za (fun g:Gu=>show k*7+g.cells.length<=a4.length by show k*7+7<=_;rw[aC];omega);have br:=za (And.intro aq af);clear aV bc b4 b9 aq bb aC af;simp only[aX]at J;go_upto_region 6 with(with_reducible first|(refine lbs J ?_;clear J;intro bv w1 J)|refine lld J ?_|((first|refine lbx J ?_|refine lal J ?_|refine lbs J ?_);clear J;intro ah w1 J)|(refine zc J ?_;clear J;intro w1 J))
 go_upto_region 7 with(first|(go_at_call 78;refine cg J (zt _) ?_;clear J;intro w1 J;dsimp only)|((with_reducible refine lal J ?_);clear J;first|(have b7:aP=aP:=rfl;clear b7;intro bK w1 J)|intro aP w1 J)|(with_reducible first|refine lld J ?_|((first|refine lbx J ?_|refine lal J ?_|refine lbs J ?_);clear J;intro ah w1 J)|(refine zc J ?_;clear J;intro w1 J)))
 go_upto_region 13 with(first|(with_reducible refine ldB aI.out J ?_)|(go_at_call 74;refine cg J (qj _ _) ?_;clear J;intro w1 J;dsimp only)|(go_at_call 75;refine cg J (qk _ _) ?_;clear J;intro w1 J;dsimp only)|(go_at_call 78;refine cg J (zt _) ?_;clear J;intro w1 J;dsimp only)|(with_reducible first|(refine lal J ?_;clear J;intro bL w1 J)|refine lld J ?_|((first|refine lbx J ?_|refine lal J ?_|refine lbs J ?_);clear J;intro ah w1 J)|(refine zc J ?_;clear J;intro w1 J)))
 go_upto_region 84 with(first|(go_at_call 82;refine(aL.out _ J.below).mono ?_;rintro e bG ⟨⟨ac,ad,ae⟩,rfl,bl,aS⟩;replace J:=J.grow aS;clear aS;have aN:=za bl;clear bl;dsimp only[Res.gu])|(with_reducible first|refine lld J ?_|((first|refine lbx J ?_|refine lal J ?_|refine lbs J ?_);clear J;intro ah w1 J)|(refine zc J ?_;clear J;intro w1 J)))
 replace J:=J.pure (S:=fun w=>zN w gx d.vars->ql w ⟨I,⟨R,C,o⟩,T,ef,⟨ac,ad,ae⟩⟩ ⟨I,⟨R,C,o⟩,T,ef,el⟩) (fun ar hc=>⟨rfl,by
  rcases aN.out with⟨aa,ab⟩|⟨aa,ab⟩
  ·(try dsimp only at aa ab)
   rw[aa,ab];exact aJ.out ar hc
  ·(try dsimp only at aa ab)
   rw[aa,ab];exact zk.nil ar⟩)
 have aT:qb ⟨I,⟨R,C,o⟩,T,ef,⟨ac,ad,ae⟩⟩=qD ⟨I,⟨R,C,o⟩,T,ef,el⟩:=QT (d:=⟨I,⟨R,C,o⟩,T,ef,el⟩) (s:=⟨ac,ad,ae⟩) (by
  rcases aN.out with⟨aa,ab⟩|⟨aa,ab⟩
  ·(try dsimp only at aa ab)
   rw[aa,ab];exact aO.out
  ·(try dsimp only at aa ab)
   rw[aa,ab];rfl)
 have ax:=fun ag=>zK ⟨I,⟨R,C,o⟩,T,ef,⟨ac,ad,ae⟩⟩ ag
 rw[aT]at ax;clear aT;generalize b2:qD ⟨I,⟨R,C,o⟩,T,ef,el⟩=bx at ax a2;have aK:=za ax;clear ax b2;cases bx with
 | true=>
  go_wp2_with (first|(go_at_call 83;refine cg J (aK.out _) ?_;clear J;intro w1 J;dsimp only)|(with_reducible first|refine lld J ?_|((first|refine lbx J ?_|refine lal J ?_|refine lbs J ?_);clear J;intro ah w1 J)|(refine zc J ?_;clear J;intro w1 J)))
  (try simp only[Exit.inBlock,Exit.then]);refine rt3 ?_
  refine⟨zi,rfl,?_⟩;show QK _ _ _ _ (jK d at' k ⟨I,⟨R,C,o⟩,T,ef,el⟩)
  rw[a2.out];exact QK.nil J.below
 | false=>
  go_wp2_with (first|(go_at_call 83;refine cg J (aK.out _) ?_;clear J;intro w1 J;dsimp only)|(refine zR (b:=a3) (off:=k*7) (vs:=Gu.cells ⟨I,⟨R,C,o⟩,T,ef,⟨ac,ad,ae⟩⟩) (cs':=zj a4 (k*7) (Gu.cells ⟨I,⟨R,C,o⟩,T,ef,⟨ac,ad,ae⟩⟩)) J rfl rfl cIn rfl zO.sz rfl (bt.out ⟨I,⟨R,C,o⟩,T,ef,⟨ac,ad,ae⟩⟩) rfl ?_;clear J;intro ag J)|(with_reducible first|refine lld J ?_|((first|refine lbx J ?_|refine lal J ?_|refine lbs J ?_);clear J;intro ah w1 J)|(refine zc J ?_;clear J;intro w1 J)))
  (try simp only[Exit.inBlock,Exit.then]);refine rt3 ?_
  obtain⟨aq,af⟩:=br.out;refine⟨⟨some ⟨bv,0,none⟩,1,1⟩,rfl,?_⟩;show QK _ _ _ _ (jK d at' k ⟨I,⟨R,C,o⟩,T,ef,el⟩)
  rw[a2.out];exact((J.both (U:=fun w=>zN w gx d.vars->zH (aR.set k ⟨I,⟨R,C,o⟩,T,ef,⟨ac,ad,ae⟩⟩) aQ (d.setVar k ⟨I,⟨R,C,o⟩,T,ef,el⟩).vars (d.setVar k ⟨I,⟨R,C,o⟩,T,ef,el⟩).fields w) (fun w aa ab hc=>⟨ab.1.set au.out (aa hc),ab.2⟩)).drop (.cons _ (.cons _ (.cons _ (.cons_cons _ (.cons _ (.cons _ (.cons _ (.cons _ (List.Sublist.refl _))))))))) (fun _ h=>h)).edge1 (K:=[]) (r:=⟨false,⟨some ⟨a3,0,none⟩,a1,bF⟩,⟨b0,fn,bz⟩⟩) (Rv:=[(a3,108,zj a4 (k*7) (Gu.cells ⟨I,⟨R,C,o⟩,T,ef,⟨ac,ad,ae⟩⟩))]) ⟨aq ⟨I,⟨R,C,o⟩,T,ef,⟨ac,ad,ae⟩⟩,af.heads,af.rows⟩ aM.out.symm (by show (d.vars.set k _).length+_<=_;rw[List.length_set];exact bs.out)
theorem zh9 (p:Pg) (is:Nat->Ins) (i:Ins) (x:Pv) (d:Pd) (gx:List Gu) (at' : Nat) (w:World) (ao:zf p is=0) (hc:zy w p is) (ai:zq w x d) (aB:JQ w x d gx) (ok:q2 p is d) (aw:at' < p.n) (hi:is at'=i) (hk:i.kind=10):q7 p at' x d gx (zJ i at' d) w:=by
 have aF:=(zp ao).1;have b6:=aF.n1;have az:=(zp ao).2 at' aw;rw[hi]at az;have aD:=qG az;have b3:=jv az;have al:=qq.of ok ao;have aU:=ju.of al.r aF;have bp:=za (fun ag (a6:Below w.heap.size w ag)=>qU x d ag (ai.grow a6) aU);have bf:d.vars.length+d.fields.length<=9223372036854775807:=(qV.of ok ao ai).m;have bs:=za bf;obtain⟨bu,bD,bd,a8⟩:=hc;have be:=bd (by omega);have a5:=zd.agg (P:=prog) jP (a8 at' aw).1 (fun j v b5=>(a8 at' aw).2 j v b5) rfl;rw[hi]at a5;have bq:=za (show zd prog 86 w bu (bD+at' * 6) (Ins.v i) from a5);have aH:=ai.e;have a9:=ok.none;rw[a9]at aH;have bn:=ai.vars.n;have bA:=ai.vars.m;rw[show zJ i at' d=⟨jK d at' i.to.toNat (qL i.kind ((d.var i.a.toNat).gu ⟨none,(d.var i.a.toNat).l.length,0⟩) ((d.var i.b.toNat).gu ⟨none,(d.var i.b.toNat).l.length,0⟩) (d.var i.a.toNat).l (d.var i.b.toNat).l).1,(qL i.kind ((d.var i.a.toNat).gu ⟨none,(d.var i.a.toNat).l.length,0⟩) ((d.var i.b.toNat).gu ⟨none,(d.var i.b.toNat).l.length,0⟩) (d.var i.a.toNat).l (d.var i.b.toNat).l).2,false⟩ by unfold zJ;rw[if_neg (by omega),if_neg (by omega),if_neg (by omega),if_neg (by omega),if_neg (by omega),if_neg (by omega),if_neg (by omega),if_neg (by omega),if_neg (by omega)]];obtain⟨aW,av⟩:=idx (aD.a (by rw[hk];decide)) al.r.vars;obtain⟨bw,bE,bg,a7⟩:=aB.l.ex;have bh:=bg (by omega);have aA:=aB.d.at' i.a.toNat av;have aE:=zd.agg (P:=prog) zO (a7 i.a.toNat (by omega)).1 (a7 i.a.toNat (by omega)).2 rfl;obtain⟨aj,a0⟩:∃ s,gx.getD i.a.toNat zI=(d.var i.a.toNat).gu s:=⟨_,aA.e⟩;have an:zk w aj (d.var i.a.toNat).l:=by have:=aA.l;rw[a0]at this;exact this
 rw[a0]at aE;have aI:=za (show zd prog 108 w bw (bE+i.a.toNat*7) ((d.var i.a.toNat).gu aj).v from aE);have b1:i.a.toNat<x.vars.n:=by omega
 have aM:=za a9;obtain⟨aY,aZ⟩:=idx (aD.to (by rw[hk];decide)) al.r.vars;have au:=za aZ;have aJ:=za (fun ar (hc:zN ar gx d.vars)=>show zk ar aj (d.var i.a.toNat).l by
  have aa:=(hc.at' i.a.toNat av).l;rw[a0]at aa;exact aa)
 have bm:=an.n;have ay:=fun ag (a6:Below w.heap.size w ag)=>GD i.kind ((d.var i.a.toNat).gu aj) qn (d.var i.a.toNat).l [] ag (by rw[hk];decide) ((al.r.vg _ av).gu an.n) Yt (an.grow a6) (zk.nil ag)
 have bj:qL i.kind ((d.var i.a.toNat).gu aj) qn (d.var i.a.toNat).l []=qL i.kind ((d.var i.a.toNat).gu ⟨none,(d.var i.a.toNat).l.length,0⟩) ((d.var i.b.toNat).gu ⟨none,(d.var i.b.toNat).l.length,0⟩) (d.var i.a.toNat).l (d.var i.b.toNat).l:=(XT (by omega) _ _ _ _ _ _).trans (U1 (t:=⟨none,(d.var i.b.toNat).l.length,0⟩) i.kind (d.var i.a.toNat) (d.var i.b.toNat) _ _ an.n rfl);simp only[bj]at ay;have aO:=za bm;generalize qL i.kind ((d.var i.a.toNat).gu ⟨none,(d.var i.a.toNat).l.length,0⟩) ((d.var i.b.toNat).gu ⟨none,(d.var i.b.toNat).l.length,0⟩) (d.var i.a.toNat).l (d.var i.b.toNat).l=bC at *;obtain⟨⟨I,⟨R,C,o⟩,T,ef,el⟩,ct⟩:=bC;dsimp only at ay;have aL:=za ay;clear ay;have a2:=za (show jK d at' i.to.toNat ⟨I,⟨R,C,o⟩,T,ef,el⟩=if qD ⟨I,⟨R,C,o⟩,T,ef,el⟩=true then [] else [((at' : Int)+1,d.setVar i.to.toNat ⟨I,⟨R,C,o⟩,T,ef,el⟩)] from rfl);clear bm;clear bj ai aB ao aD b3 al aF az aU bd a8 a5 hi a9 bf ok bg a7 aA aE a0 an av;clear aZ;unfold q7;generalize i.to.toNat=k at *;generalize i.a.toNat=a at *;generalize d.var a=g at *;obtain⟨cc,cf,bZ,ca,cd,cb⟩:=i;obtain⟨cy,⟨cz,c0,cu⟩,⟨cx,cw,cv⟩⟩:=x;obtain⟨cm,ck,ch,cl,cj⟩:=p;dsimp only at aY;subst aY;dsimp only at hk be b6 aw aH bn bA aW bh b1;subst hk be aH bn aW bh;obtain⟨bT,⟨bU,bS,bQ⟩,gt,bP,bR⟩:=g;obtain⟨cp,cq,cr⟩:=aj;dsimp only[Res.gu]at aI aL aJ aO;have bW:nA 10=true:=by decide
 have bY:nB 10=false:=by decide
 have J:=Loc.start w;go_enter func40,ntmps40;go_step;go_step;go_step
 ((with_reducible refine lbx J ?_);clear J;intro bM w1 J)
 ((with_reducible refine lbx J ?_);clear J;intro bN w1 J)
 go_upto_region 4 with(with_reducible first|refine ldB bq.out J ?_|(refine lal J ?_;clear J;intro bO w1 J)|refine lld J ?_|((first|refine lbx J ?_|refine lal J ?_|refine lbs J ?_);clear J;intro ah w1 J)|(refine zc J ?_;clear J;intro w1 J))
 go_upto_region 5 with(first|(go_at_call 20;refine(bp.out _ J.below).mono ?_;rintro q bG ⟨⟨bo,⟨cs,a1,bF⟩,⟨b0,fn,bz⟩⟩,rfl,aR,aQ,cn,Rv,bI,bH,bk,af,ba⟩;replace J:=J.gave ba;simp only[aX]at J;clear ba;dsimp only)|(with_reducible first|(refine lal J ?_;clear J;intro bJ w1 J)|refine lld J ?_|((first|refine lbx J ?_|refine lal J ?_|refine lbs J ?_);clear J;intro ah w1 J)|(refine zc J ?_;clear J;intro w1 J)))
 have b8:bo=false:=by rw[show bo=d.none from bk];exact aM.out
 subst b8;clear bk;have aV:=(J.get (S:=zH aR aQ d.vars d.fields) List.mem_cons_self).1;have bc:=af.vars.flatlen jb (by decide);have b4:=aV.len
 (try dsimp only at bc)
 obtain⟨a3,a4,bi,rfl,b9,aC⟩:=af.vars.block (show 0<a1 by have:=au.out;omega);have aq:=fun g=>af.vars.put jb zI (k:=k) (show k<a1 by have:=au.out;omega) g
 have bb:=af.vars.fits
 (try dsimp only at bi aq bb aC)
 subst bi;have bV:k<a1:=by have:=au.out;omega
 have bt:=za (fun g:Gu=>show k*7+g.cells.length<=a4.length by show k*7+7<=_;rw[aC];omega);have br:=za (And.intro aq af);clear aV bc b4 b9 aq bb aC af;simp only[aX]at J;go_upto_region 6 with(with_reducible first|(refine lbs J ?_;clear J;intro bv w1 J)|refine lld J ?_|((first|refine lbx J ?_|refine lal J ?_|refine lbs J ?_);clear J;intro ah w1 J)|(refine zc J ?_;clear J;intro w1 J))
 go_upto_region 7 with(first|(go_at_call 78;refine cg J (zt _) ?_;clear J;intro w1 J;dsimp only)|((with_reducible refine lal J ?_);clear J;first|(have b7:aP=aP:=rfl;clear b7;intro bK w1 J)|intro aP w1 J)|(with_reducible first|refine lld J ?_|((first|refine lbx J ?_|refine lal J ?_|refine lbs J ?_);clear J;intro ah w1 J)|(refine zc J ?_;clear J;intro w1 J)))
 go_upto_region 13 with(first|(with_reducible refine ldB aI.out J ?_)|(go_at_call 74;refine cg J (qj _ _) ?_;clear J;intro w1 J;dsimp only)|(go_at_call 75;refine cg J (qk _ _) ?_;clear J;intro w1 J;dsimp only)|(go_at_call 78;refine cg J (zt _) ?_;clear J;intro w1 J;dsimp only)|(with_reducible first|(refine lal J ?_;clear J;intro bL w1 J)|refine lld J ?_|((first|refine lbx J ?_|refine lal J ?_|refine lbs J ?_);clear J;intro ah w1 J)|(refine zc J ?_;clear J;intro w1 J)))
 go_upto_region 84 with(first|(go_at_call 82;refine(aL.out _ J.below).mono ?_;rintro e bG ⟨⟨ac,ad,ae⟩,rfl,bl,aS⟩;replace J:=J.grow aS;clear aS;have aN:=za bl;clear bl;dsimp only[Res.gu])|(with_reducible first|refine lld J ?_|((first|refine lbx J ?_|refine lal J ?_|refine lbs J ?_);clear J;intro ah w1 J)|(refine zc J ?_;clear J;intro w1 J)))
 replace J:=J.pure (S:=fun w=>zN w gx d.vars->ql w ⟨I,⟨R,C,o⟩,T,ef,⟨ac,ad,ae⟩⟩ ⟨I,⟨R,C,o⟩,T,ef,el⟩) (fun ar hc=>⟨rfl,by
  rcases aN.out with⟨aa,ab⟩|⟨aa,ab⟩
  ·(try dsimp only at aa ab)
   rw[aa,ab];exact aJ.out ar hc
  ·(try dsimp only at aa ab)
   rw[aa,ab];exact zk.nil ar⟩)
 have aT:qb ⟨I,⟨R,C,o⟩,T,ef,⟨ac,ad,ae⟩⟩=qD ⟨I,⟨R,C,o⟩,T,ef,el⟩:=QT (d:=⟨I,⟨R,C,o⟩,T,ef,el⟩) (s:=⟨ac,ad,ae⟩) (by
  rcases aN.out with⟨aa,ab⟩|⟨aa,ab⟩
  ·(try dsimp only at aa ab)
   rw[aa,ab];exact aO.out
  ·(try dsimp only at aa ab)
   rw[aa,ab];rfl)
 have ax:=fun ag=>zK ⟨I,⟨R,C,o⟩,T,ef,⟨ac,ad,ae⟩⟩ ag
 rw[aT]at ax;clear aT;generalize b2:qD ⟨I,⟨R,C,o⟩,T,ef,el⟩=bx at ax a2;have aK:=za ax;clear ax b2;cases bx with
 | true=>
  go_wp2_with (first|(go_at_call 83;refine cg J (aK.out _) ?_;clear J;intro w1 J;dsimp only)|(with_reducible first|refine lld J ?_|((first|refine lbx J ?_|refine lal J ?_|refine lbs J ?_);clear J;intro ah w1 J)|(refine zc J ?_;clear J;intro w1 J)))
  (try simp only[Exit.inBlock,Exit.then]);refine rt3 ?_
  refine⟨zi,rfl,?_⟩;show QK _ _ _ _ (jK d at' k ⟨I,⟨R,C,o⟩,T,ef,el⟩)
  rw[a2.out];exact QK.nil J.below
 | false=>
  go_wp2_with (first|(go_at_call 83;refine cg J (aK.out _) ?_;clear J;intro w1 J;dsimp only)|(refine zR (b:=a3) (off:=k*7) (vs:=Gu.cells ⟨I,⟨R,C,o⟩,T,ef,⟨ac,ad,ae⟩⟩) (cs':=zj a4 (k*7) (Gu.cells ⟨I,⟨R,C,o⟩,T,ef,⟨ac,ad,ae⟩⟩)) J rfl rfl cIn rfl zO.sz rfl (bt.out ⟨I,⟨R,C,o⟩,T,ef,⟨ac,ad,ae⟩⟩) rfl ?_;clear J;intro ag J)|(with_reducible first|refine lld J ?_|((first|refine lbx J ?_|refine lal J ?_|refine lbs J ?_);clear J;intro ah w1 J)|(refine zc J ?_;clear J;intro w1 J)))
  (try simp only[Exit.inBlock,Exit.then]);refine rt3 ?_
  obtain⟨aq,af⟩:=br.out;refine⟨⟨some ⟨bv,0,none⟩,1,1⟩,rfl,?_⟩;show QK _ _ _ _ (jK d at' k ⟨I,⟨R,C,o⟩,T,ef,el⟩)
  rw[a2.out];exact((J.both (U:=fun w=>zN w gx d.vars->zH (aR.set k ⟨I,⟨R,C,o⟩,T,ef,⟨ac,ad,ae⟩⟩) aQ (d.setVar k ⟨I,⟨R,C,o⟩,T,ef,el⟩).vars (d.setVar k ⟨I,⟨R,C,o⟩,T,ef,el⟩).fields w) (fun w aa ab hc=>⟨ab.1.set au.out (aa hc),ab.2⟩)).drop (.cons _ (.cons _ (.cons _ (.cons_cons _ (.cons _ (.cons _ (.cons _ (.cons _ (List.Sublist.refl _))))))))) (fun _ h=>h)).edge1 (K:=[]) (r:=⟨false,⟨some ⟨a3,0,none⟩,a1,bF⟩,⟨b0,fn,bz⟩⟩) (Rv:=[(a3,108,zj a4 (k*7) (Gu.cells ⟨I,⟨R,C,o⟩,T,ef,⟨ac,ad,ae⟩⟩))]) ⟨aq ⟨I,⟨R,C,o⟩,T,ef,⟨ac,ad,ae⟩⟩,af.heads,af.rows⟩ aM.out.symm (by show (d.vars.set k _).length+_<=_;rw[List.length_set];exact bs.out)
end Go.Proofs.YtplcndmdkabmeaaGreatDoor
