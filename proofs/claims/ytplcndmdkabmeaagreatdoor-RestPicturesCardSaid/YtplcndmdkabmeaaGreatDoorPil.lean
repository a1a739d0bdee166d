/- The reference's JoinPicture, whole; what both sides' joins are, as data. Conditions: right pictures. -/
import Derived.Deep.CutBlock
import Derived.Test.YtplcndmdkabmeaaGreatDoorPicc
import Derived.Test.YtplcndmdkabmeaaGreatDoorGue
set_option linter.unusedSimpArgs false
set_option linter.unusedVariables false
set_option maxRecDepth 100000
set_option maxHeartbeats 1600000
namespace Go.Proofs.YtplcndmdkabmeaaGreatDoor
open Go.Proofs.Tryz
open Go.RowKit
theorem GK (o:Bool) (f:zm->zm->zm) (hf:∀ (s C:zm) (w:World),Calls prog 119 #[s.v,C.v,.bool o] w fun e i=>e=.returned (f s C).v∧Below w.heap.size w i)
  (g h:Gu) (d e:Res) (w:World) (p:ql w g d) (t:ql w h e) (R:inS d.l) (T:inS e.l):
  Calls prog 81 #[g.v,h.v,.bool o] w fun x i=>∃ r:Sl,x=.returned ((qx f d e).gu r).v∧QO w.heap.size i r (yQ d.l e.l)∧Below w.heap.size w i:=by
 have j:=Vy o f hf g h d.l e.l w p.l t.l;rw[<- Ya R T]at j;have I:=p.e;have P:=t.e;have U:∀ r:Sl,(⟨g.null || h.null,f g.span h.span,g.tr || h.tr,g.fa || h.fa,r⟩:Gu)=(qx f d e).gu r:=fun r=>by rw[I,P]
 simp only[U]at j;exact j
theorem zej (bp:Bool) (f:zm->zm->zm) (hf:∀ (s t:zm) (w:World),Calls prog 119 #[s.v,t.v,.bool bp] w fun e au=>e=.returned (f s t).v∧Below w.heap.size w au)
  (p:Pg) (x y:Pv) (d e:Pd) (w:World) (a8:zq w x d) (a9:zq w y e) (cw:d.none=false) (cx:e.none=false) (a5:zS p d) (bh:zS p e) (bo:UE p):
  Calls prog 57 #[x.v,y.v,.bool bp] w fun q au=>∃ r:Pv,q=.returned r.v∧yd w au r (zW f d e):=by
 obtain⟨gx,cz,c0⟩:=a8.vars.gus;obtain⟨cs,c1,c2⟩:=a9.vars.gus;have aQ:=Zm.of a5 bh;have c6:=aQ.vars;have bZ:=za (fun k (aa:k<d.vars.length) au (T:Below w.heap.size w au)=>GK bp f hf (gx.getD k zI) (cs.getD k zI) (d.var k) (e.var k) au ((cz.at' k aa).grow T) ((c1.at' k (by omega)).grow T) (a5.vg k aa).ins (bh.vg k (by omega)).ins);obtain⟨dI,dR,bH,b8⟩:=c0.ex;obtain⟨dJ,dS,bI,b9⟩:=c2.ex;obtain⟨dz,bM,bm⟩:=a8.fields.ex;obtain⟨dA,bN,bn⟩:=a9.fields.ex;have ab:=a8.fields.n;have bF:=a9.fields.n;have c7:=a8.vars.n;have c8:=a9.vars.n;rw[ab]at bM bm;rw[bF]at bN bn;have cy:=aQ.fields;have cS:=za (fun k (aa:k<d.fields.length)=>And.intro (bm k aa).n (bm k aa).gus);have cT:=za (fun k (aa:k<e.fields.length)=>And.intro (bn k aa).n (bn k aa).gus);have cQ:=za (fun k (aa:k<d.fields.length)=>aQ.rows k aa);have cK:=za (fun k j (aa:k<d.fields.length) (ao:j<(d.row k).length) (g h:Gu) (dt:ql w g (d.field k j)) (du:ql w h (e.field k j)) au (T:Below w.heap.size w au)=>GK bp f hf g h (d.field k j) (e.field k j) au (dt.grow T) (du.grow T) (a5.fg k j aa ao).ins (bh.fg k j (by omega) (by have:=aQ.rows k aa;omega)).ins);obtain⟨cW,dx,bJ,bA⟩:=(jR bM).ex;obtain⟨cX,dy,bK,bB⟩:=(jR bN).ex;have bP:=a8.e;have bQ:=a9.e;have dK:d.fields.length<=60:=by have:=a5.fields;have:=bo.n1;omega
 have dL:e.fields.length<=60:=by omega
 have dM:d.vars.length<=8:=by have:=a5.vars;have:=bo.v2;omega
 have dN:e.vars.length<=8:=by omega
 have cD:=za (fun k (aa:k<d.fields.length)=>(show (d.row k).length<=3 by have:=a5.rows k aa;have:=bo.f2;omega));have cP:=za (fun k=>Yu f d e k);have cl:=za (fun k=>ZE f d.vars e.vars k);have cj:=za (show (zW f d e).vars=j4 f d.vars e.vars d.vars.length from rfl);have cf:=za (show (zW f d e).fields=qB f d e d.fields.length from rfl);have cO:=za (show qB f d e 0=[] from rfl);have ch:=za (show (zW f d e).none=false from rfl);obtain⟨ea,⟨bs,eb,bq⟩,⟨bT,dZ,br⟩⟩:=x;obtain⟨ed,⟨bv,ee,bt⟩,⟨bU,ec,bu⟩⟩:=y;dsimp only at ab bF bJ bA bK bB bP bQ bH b8 bI b9 c7 c8;rw[cw]at bP;rw[cx]at bQ;subst bP bQ ab bF c7 c8;generalize zW f d e=cp at cj cf ch ⊢;have cc:=za bJ;have cd:=za bK;have cF:=za bA;have cG:=za bB;have b2:=za bH;have b3:=za bI;have bw:=za b8;have bx:=za b9;have bz:=za (And.intro cy c6);clear a8 a9 cw cx a5 bh bo aQ bM bm bN bn bJ bA bK bB cy c6 cz c1 c0 c2 bH bI b8 b9;have J:=Loc.start w;go_enter func57,ntmps57;go_step;go_step;go_step
 ((with_reducible refine lbx J ?_);clear J;intro ax a6 J)
 ((with_reducible refine lbx J ?_);clear J;intro ay a6 J)
 ((with_reducible refine lal J ?_);clear J;intro az a6 J)
 go_upto_block 0 with(with_reducible first|refine lld J ?_|(refine lal J ?_;clear J;intro aD a6 J))
 obtain⟨a0,ds⟩:∃ b,b=aD:=⟨_,rfl⟩;subst ds;go_cut [] from 8 (fun wc=>∃ (ak:Option Addr) (ai:Nat) (aj:List Gu) (ac:List zg),zB 108 7 ak d.vars.length ai (aj.flatMap Gu.cells) ac∧Loc w wc ((a0,54,[.bool false,.slice ak d.vars.length ai,.slice none 0 0])::(az,54,[.bool false,.slice none 0 0,.slice none 0 0])::(ay,54,[.bool false,.slice bv e.vars.length bt,.slice bU e.fields.length bu])::(ax,54,[.bool false,.slice bs d.vars.length bq,.slice bT d.fields.length br])::(ac)) [fun w=>zN w aj (j4 f d.vars e.vars d.vars.length)])
 case first=>
  go_wp2;go_loopw [8] (fun c wr=>∃ (k:Nat) (ak:Option Addr) (ai:Nat) (aj:List Gu) (ac:List zg),k<=d.vars.length∧c=.int .i64 k∧zB 108 7 ak k ai (aj.flatMap Gu.cells) ac∧Loc w wr ((a0,54,[.bool false,.slice ak k ai,.slice none 0 0])::(az,54,[.bool false,.slice none 0 0,.slice none 0 0])::(ay,54,[.bool false,.slice bv e.vars.length bt,.slice bU e.fields.length bu])::(ax,54,[.bool false,.slice bs d.vars.length bq,.slice bT d.fields.length br])::(ac)) [fun w=>zN w aj (j4 f d.vars e.vars k)]) (fun c _=>d.vars.length - (intOf c).toNat)
  case atStart=>exact⟨0,none,0,[],[],Nat.zero_le _,rfl,zB.nil,J.pure (fun w=>zN.nil w)⟩
  case round=>
   obtain⟨k,ak,ai,aj,ac,aa,rfl,aL,J⟩:=hrel;have aB:=za aL;clear aL;by_cases al:k<d.vars.length
   ·have aR:k<e.vars.length:=by have:=bz.out.2;omega
    obtain rfl:=b2.out (by omega);obtain rfl:=b3.out (by omega);clear b2 b3;have ae:=zd.agg (P:=prog) zO (bw.out k al).1 (bw.out k al).2 rfl;have af:=zd.agg (P:=prog) zO (bx.out k aR).1 (bx.out k aR).2 rfl;have ad:=bZ.out k al;have ab:=cl.out k;generalize aI:qx f (d.vars.getD k zo) (e.vars.getD k zo)=B at ad ab;have aT:yQ (d.vars.getD k zo).l (e.vars.getD k zo).l=B.l:=by rw[<- aI]
    rw[aT]at ad;clear aI aT;generalize gx.getD k zI=s at ae ad;generalize cs.getD k zI=t at af ad;obtain⟨de,⟨df,dd,dc⟩,dh,db,⟨sp,dB,dC⟩⟩:=s;obtain⟨dm,⟨dn,dk,dj⟩,dp,di,⟨cB,dD,dE⟩⟩:=t;obtain⟨Bn,⟨C,o,Bhi⟩,I,i,ah⟩:=B;dsimp only[Res.gu]at ae af ad;have aA:=za ae;have b4:=za af;have b1:=za ad;have b0:=za ab;clear ae af ad ab;obtain⟨an,bO⟩:∃ x,x=wr:=⟨_,rfl⟩;subst bO;go_upto_region 9 with(with_reducible refine lld J ?_)
    refine zb [25,26,27,28,29,30,31,32,33,34,35,36,37,38,39] ?_
    iterate 6 refine qdv ?_
    refine qdl aA.out ?_
    iterate 4 refine qdv ?_
    refine qdl b4.out ?_;refine qdv ?_;refine qdn (GuR an.heap.size Bn ⟨C,o,Bhi⟩ I i ah) GuR.stable J ?_ ?_
    ·intro g w T J _ q;simp only[aG]at q;simp only[fD];simp only[q]
     go_wp2_with (go_at_call 81;refine(b1.out _ J.below).mono ?_;rintro e dF ⟨r,rfl,⟨R,bL,bG⟩,b7⟩;dsimp only);exact⟨rfl,_,rfl,b7,r,R,rfl,bL,bG.mono T.size⟩
    refine qdn (yO an.heap.size Bn ⟨C,o,Bhi⟩ I i ah) yO.stable J ?_ ?_
    ·intro g w T J v q;have d13:(GuR an.heap.size Bn ⟨C,o,Bhi⟩ I i ah) (g 38) w:=yr v 13;obtain⟨c9,cm,d13,dv,dq⟩:=d13;clear v;simp only[fD];simp only[d13]
     go_wp2_with (fail);exact⟨rfl,_,rfl,(Below.refl _ _).alloc (Nat.le_refl _) _,c9,cm,_,rfl,dv,dq.grow ((Below.refl _ _).alloc (Nat.le_refl _) _),jo _ _⟩
    refine qy J ?_;intro g ba T a4 q;simp only[aG]at q;have bb:(GuR an.heap.size Bn ⟨C,o,Bhi⟩ I i ah) (g 38) ba:=qye a4 13;obtain⟨c9,cm,bb,-,-⟩:=bb;have bc:(yO an.heap.size Bn ⟨C,o,Bhi⟩ I i ah) (g 39) ba:=qye a4 14;obtain⟨aY,cV,b5,bc,aM,aJ,b6⟩:=bc;clear a4;simp only[fD];simp only[q,bb,bc];clear q bb bc;replace J:=J.more T (QL aM aJ);clear aM aJ;clear T;go_wp2_with (first|(refine zF (z:=[.bool false,.bool false,.int .i64 0,.int .i64 0,.bool false,.bool false,.slice none 0 0]) (K:=(a0,_,_)::(az,_,_)::(ay,_,_)::(ax,_,_)::[]) (R:=ac) (news:=Gu.cells ⟨Bn,⟨C,o,Bhi⟩,I,i,aY⟩) aB.out J rfl rfl rfl jC ZP (by decide) rfl (fun _=>⟨⟨b5,0,none⟩,rfl,fun j u ao=>by rw[zG,Nat.zero_add];exact zP b6 j ao⟩) rfl (by simp[Value.oneCell']) (by have:maxLen=9223372036854775807:=rfl;omega) (by omega) ?_;clear J;intro aW aE aC cC aK J;simp only[aX]at J)|(with_reducible refine zc J ?_;clear J;intro a6 J));go_roundw
    case rel=>
     refine⟨k+1,aW,aE,aj++[⟨Bn,⟨C,o,Bhi⟩,I,i,aY⟩],aC,by omega,by go_num,by simpa using aK,J.both fun w a2 a3=>?_⟩;rw[b0.out];exact a3.append (zN.one (ql.mk' (d:=⟨Bn,⟨C,o,Bhi⟩,I,i,ah⟩) a2))
    case measure=>simp[intOf];omega
   ·obtain rfl:k=d.vars.length:=by omega
    clear al;go_wp2_with (with_reducible refine lld J ?_);go_meet
    case rel=>exact⟨ak,ai,aj,ac,aB.out,J⟩
 clear J;obtain⟨bS,bR,aj,a7,cv,J⟩:=hcut;have cU:=za cv;clear cv bZ cl bw bx b2 b3;go_wp2;go_loopw [9] (fun c wr=>∃ (k:Nat) (aU:Option Addr) (aO:Nat) (aZ:List Sl) (a1:List (List Gu)) (av aq:List zg),k<=d.fields.length∧c=.int .i64 k∧zB 51 1 aU k aO (aZ.flatMap Sl.row) av∧jT aZ a1 aq∧Loc w wr ((a0,54,[.bool false,.slice bS d.vars.length bR,.slice aU k aO])::(az,54,[.bool false,.slice none 0 0,.slice none 0 0])::(ay,54,[.bool false,.slice bv e.vars.length bt,.slice bU e.fields.length bu])::(ax,54,[.bool false,.slice bs d.vars.length bq,.slice bT d.fields.length br])::(a7++(aq++av))) [fun w=>jj w a1 (qB f d e k),fun w=>zN w aj (j4 f d.vars e.vars d.vars.length)]) (fun c _=>d.fields.length - (intOf c).toNat)
 case atStart=>exact⟨0,none,0,[],[],[],[],Nat.zero_le _,rfl,zB.nil,.nil,(J.conv (by simp)).pure (fun w=>by rw[cO.out];exact jj.nil w)⟩
 case round=>
  obtain⟨k,aU,aO,aZ,a1,av,aq,aa,rfl,cu,ct,J⟩:=hrel;have ck:=za cu;have bY:=za ct;clear cu ct;by_cases al:k<d.fields.length
  ·obtain rfl:=cc.out (by omega)
   obtain rfl:=cd.out (by have:=bz.out.1;omega);clear cc cd;have aR:k<e.fields.length:=by have:=bz.out.1;omega
   have ae:=cF.out k al;have af:=cG.out k aR;rw[Nat.mul_one]at ae af;obtain⟨bi,cq,bC,c3⟩:=cS.out k al;obtain⟨bj,cr,bD,c4⟩:=cT.out k aR;have aV:=cQ.out k al;have c5:=cD.out k al;have ab:=cP.out k;have aP:=fun j (ao:j<(d.row k).length)=>cK.out k j al ao
   obtain⟨dG,dP,bk,bf⟩:=c3.ex;obtain⟨dH,dQ,bl,bg⟩:=c4.ex;have aN:=fun j=>ZE f (d.row k) (e.row k) j
   dsimp only[Pd.row,Pd.field]at aV c5 ab aP aN;generalize d.fields.getD k []=ar at bi bC aV c5 ab aP aN;generalize e.fields.getD k []=aF at bj bD aV ab aP aN;generalize dz k=s at ae bi bk bf;generalize dA k=t at af bj bl bg;obtain⟨sp,dW,dB⟩:=s;obtain⟨cB,dY,dD⟩:=t;dsimp only[Sl.v]at ae af bi bj bk bf bl bg;subst bi bj;have aA:=za ae;have b4:=za af;have cH:=za bC;have cI:=za bD;have ca:=za bk;have cb:=za bl;have bV:=za bf;have bW:=za bg;have cR:=za aV;have b0:=za ab;have cJ:=za aP;have cE:=za aN;have dO:aF.length<=3:=by omega
   clear ae af bC bD bk bl bf bg aV ab aP c3 c4 aN;go_wp2_with (with_reducible refine lld J ?_);go_loopw [10,11] (fun cZ da wr=>∃ (j:Nat) (ak:Option Addr) (ai:Nat) (aH:List Gu) (ac:List zg),j<=ar.length∧cZ=.slice ak j ai∧da=.int .i64 j∧zB 108 7 ak j ai (aH.flatMap Gu.cells) ac∧Loc w wr ((a0,54,[.bool false,.slice bS d.vars.length bR,.slice aU k aO])::(az,54,[.bool false,.slice none 0 0,.slice none 0 0])::(ay,54,[.bool false,.slice bv e.vars.length bt,.slice (some ⟨cX,dy,none⟩) e.fields.length bu])::(ax,54,[.bool false,.slice bs d.vars.length bq,.slice (some ⟨cW,dx,none⟩) d.fields.length br])::((a7++(aq++av))++ac)) [fun w=>zN w aH (j4 f ar aF j),fun w=>jj w a1 (qB f d e k),fun w=>zN w aj (j4 f d.vars e.vars d.vars.length)]) (fun _ c _=>ar.length - (intOf c).toNat)
   case atStart=>exact⟨0,none,0,[],[],Nat.zero_le _,rfl,rfl,zB.nil,(J.conv (by simp)).pure (fun w=>zN.nil w)⟩
   case round=>
    obtain⟨j,ak,ai,aH,ac,ao,rfl,rfl,aL,J⟩:=hrel;have aB:=za aL;clear aL;by_cases aS:j<ar.length
    ·have bE:j<aF.length:=by have:=cR.out;omega
     obtain rfl:=ca.out (by omega);obtain rfl:=cb.out (by omega);clear ca cb;have ae:=zd.agg (P:=prog) zO (bV.out j aS).1 (bV.out j aS).2 rfl;have af:=zd.agg (P:=prog) zO (bW.out j bE).1 (bW.out j bE).2 rfl;have ad:=cJ.out j aS (cq.getD j zI) (cr.getD j zI) (cH.out.at' j aS) (cI.out.at' j bE);have ab:=cE.out j;generalize aI:qx f (ar.getD j zo) (aF.getD j zo)=B at ad ab;have aT:yQ (ar.getD j zo).l (aF.getD j zo).l=B.l:=by rw[<- aI]
     rw[aT]at ad;clear aI aT;generalize cq.getD j zI=s at ae ad;generalize cr.getD j zI=t at af ad;obtain⟨de,⟨df,dd,dc⟩,dh,db,⟨sp,dU,dC⟩⟩:=s;obtain⟨dm,⟨dn,dk,dj⟩,dp,di,⟨cB,dX,dE⟩⟩:=t;obtain⟨Bn,⟨C,o,Bhi⟩,I,i,ah⟩:=B;dsimp only[Res.gu]at ae af ad;have cM:=za ae;have cN:=za af;have b1:=za ad;have cL:=za ab;clear ae af ad ab;obtain⟨an,bO⟩:∃ x,x=wr:=⟨_,rfl⟩;subst bO;go_upto_region 15 with(fail)
     go_upto_region 17 with(with_reducible first|refine ldB aA.out J ?_|refine lld J ?_)
     refine zb [59,60,61,62,63,64,65,66,67,68,69,70,71,72,73,74,75,76,77,78] ?_
     iterate 5 refine qdv ?_
     refine qdl aA.out ?_
     iterate 2 refine qdv ?_
     refine qdl cM.out ?_
     iterate 4 refine qdv ?_
     refine qdl b4.out ?_
     iterate 2 refine qdv ?_
     refine qdl cN.out ?_;refine qdv ?_;refine qdn (GuR an.heap.size Bn ⟨C,o,Bhi⟩ I i ah) GuR.stable J ?_ ?_
     ·intro g w T J _ q;simp only[aG]at q;simp only[fD];simp only[q]
      go_wp2_with (go_at_call 81;refine(b1.out _ J.below).mono ?_;rintro e dF ⟨r,rfl,⟨R,bL,bG⟩,b7⟩;dsimp only);exact⟨rfl,_,rfl,b7,r,R,rfl,bL,bG.mono T.size⟩
     refine qdn (yO an.heap.size Bn ⟨C,o,Bhi⟩ I i ah) yO.stable J ?_ ?_
     ·intro g w T J v q;have d18:(GuR an.heap.size Bn ⟨C,o,Bhi⟩ I i ah) (g 77) w:=yr v 18;obtain⟨cA,cn,d18,dw,dr⟩:=d18;clear v;simp only[fD];simp only[d18]
      go_wp2_with (fail);exact⟨rfl,_,rfl,(Below.refl _ _).alloc (Nat.le_refl _) _,cA,cn,_,rfl,dw,dr.grow ((Below.refl _ _).alloc (Nat.le_refl _) _),jo _ _⟩
     refine qy J ?_;intro g ba T a4 q;simp only[aG]at q;have bd:(GuR an.heap.size Bn ⟨C,o,Bhi⟩ I i ah) (g 77) ba:=qye a4 18;obtain⟨cA,cn,bd,-,-⟩:=bd;have be:(yO an.heap.size Bn ⟨C,o,Bhi⟩ I i ah) (g 78) ba:=qye a4 19;obtain⟨aY,cV,b5,be,aM,aJ,b6⟩:=be;clear a4;simp only[fD];simp only[q,bd,be];clear q bd be;replace J:=J.more T (QL aM aJ);clear aM aJ;clear T;go_wp2_with (refine zF (z:=[.bool false,.bool false,.int .i64 0,.int .i64 0,.bool false,.bool false,.slice none 0 0]) (K:=(a0,_,_)::(az,_,_)::(ay,_,_)::(ax,_,_)::(a7++(aq++av))) (R:=ac) (news:=Gu.cells ⟨Bn,⟨C,o,Bhi⟩,I,i,aY⟩) aB.out J rfl rfl rfl jC ZP (by decide) rfl (fun _=>⟨⟨b5,0,none⟩,rfl,fun j u ao=>by rw[zG,Nat.zero_add];exact zP b6 j ao⟩) rfl (by simp[Value.oneCell']) (by have:maxLen=9223372036854775807:=rfl;omega) (by omega) ?_;clear J;intro aW aE aC cC aK J;simp only[aX]at J);go_roundw
     case rel=>
      refine⟨j+1,aW,aE,aH++[⟨Bn,⟨C,o,Bhi⟩,I,i,aY⟩],aC,by omega,rfl,by go_num,by simpa using aK,J.both fun w a2 a3=>?_⟩;rw[cL.out];exact a3.append (zN.one (ql.mk' (d:=⟨Bn,⟨C,o,Bhi⟩,I,i,ah⟩) a2))
     case measure=>simp[intOf];omega
    ·obtain rfl:j=ar.length:=by omega
     clear aS;replace J:=J.perm (((((ZG a7 aq av ac).cons _).cons _).cons _).cons _);go_wp2_with (first|(with_reducible refine ldB aA.out J ?_)|(refine zF (z:=[.slice none 0 0]) (K:=(aD,_,_)::(a0,_,_)::(az,_,_)::(ay,_,_)::(ax,_,_)::(a7++(aq++ac))) (R:=av) (news:=Sl.row ⟨ak,ar.length,ai⟩) ck.out J (by simp only[List.cons_append,List.append_assoc];rfl) rfl rfl UK zcG (by decide) rfl (fun _=>⟨⟨aD,0,none⟩,rfl,fun j u ao=>by rw[zG,Nat.zero_add];exact zP (J.heap (b:=aD) cIn) j ao⟩) rfl (by simp[Value.oneCell']) (by have:maxLen=9223372036854775807:=rfl;omega) (by omega) ?_;clear J;intro aW aE aC cC aK J;simp only[List.cons_append,List.append_assoc]at J)|(with_reducible first|refine lld J ?_|(refine lbs J ?_;clear J;intro aD a6 J)|(refine zc J ?_;clear J;intro a6 J)));go_roundw
     case rel=>
      refine⟨k+1,aW,aE,aZ++[⟨ak,ar.length,ai⟩],a1++[aH],aC,aq++ac,by omega,by go_num,by simpa using aK,bY.out.snoc aB.out,((J.drop (List.sublist_cons_self _ _) (fun _ h=>h)).conv (by simp only[List.append_assoc])).both fun w a2 a3=>?_⟩;rw[b0.out];exact a3.snoc a2
     case measure=>simp[intOf];omega
  ·obtain rfl:k=d.fields.length:=by omega
   clear al;go_wp2_with (with_reducible first|refine lld J ?_|(refine zc J ?_;clear J;intro a6 J));refine rt1 ?_;exact⟨⟨false,⟨bS,d.vars.length,bR⟩,⟨aU,d.fields.length,aO⟩⟩,rfl,aj,a1,aZ,a7,av,aq,by rw[ch.out],⟨cU.out,ck.out,bY.out⟩,(J.both (U:=zH aj a1 cp.vars cp.fields) fun w a2 a3=>⟨by rw[cj.out];exact a3,by rw[cf.out];exact a2⟩).drop (List.sublist_append_right [_,_,_,_] _) (fun _ h=>h)⟩
def zdc (j w w' : World) (r:Pv) (d:Pd):Prop:=∃ S:zl,(∀ (i:World) (L:List zg) (D:List zl),Loc i w L D->Loc i w' L (S::D))∧∀ g,S g->Below j.heap.size j g->zq g r d
theorem zdc.got {j w w' : World}{r:Pv}{d:Pd}(g:yd w w' r d) (i:d.vars.length+d.fields.length<=9223372036854775807):zdc j w w' r d:=
 ⟨fun w=>zq w r d,fun _ _ _ h=>h.gotP g i,fun _ h _=>h⟩
theorem zdc.old {g w w' : World}{r:Pv}{d:Pd}(j:zq g r d) (hb:Below w.heap.size w w'):zdc g w w' r d:=
 ⟨fun _=>True,fun _ _ _ h=>(h.grow hb).pure (fun _=>trivial),fun _ _ i=>j.grow i⟩
def Qx (f:zm->zm->zm) (d e:Pd):Pd:=if d.none=true then e else if e.none=true then d else zW f d e
theorem Jw {p:Pg}{is:Nat->Ins}{f:zm->zm->zm}{d e:Pd}(o:zf p is=0) (h:zE p is d=0) (i : zE p is e=0):jM f d e=Qx f d e:=by
 unfold jM Qx;cases j:d.none with
 | true=>
  cases g:e.none with
  | true=>rw[zS.none i g];rfl
  | false=>
   rw[yn (zS.of i o g) g];simp
 | false=>
  cases g:e.none with
  | true=>
   rw[yn (zS.of h o j) j];simp
  | false=>simp
end Go.Proofs.YtplcndmdkabmeaaGreatDoor
