/- The walk over the reference's SolveOf. Conditions: a right program. -/
import Derived.Test.YtplcndmdkabmeaaGreatDoorRefSolB
import Derived.Test.YtplcndmdkabmeaaGreatDoorPicd
set_option linter.unusedSimpArgs false
set_option linter.unusedVariables false
set_option maxRecDepth 100000
set_option maxHeartbeats 8000000
namespace Go.Proofs.YtplcndmdkabmeaaGreatDoor
open Go.Proofs.Tryz
open Go.RowKit
def UX (g:World) (C:zl) (o:zav):Value->World->Prop:=fun v w=>∃ s:Sl,v=.tuple #[.slice s.p s.n s.cap,.bool o.wr,.bool o.fl]∧QK g w C s o.es
theorem UX.stable {p:World}{C:zl}{o:zav}:qC (UX p C o):=by
 rintro v w t j ⟨r,g,i⟩;exact⟨r,g,i.grow j⟩
def G3 (g:World) (C:zl) (es:List (Int × Pd)):Value->World->Prop:=fun v w=>∃ s:Sl,v=.slice s.p s.n s.cap∧QK g w C s es
theorem G3.stable {o:World}{C:zl}{es:List (Int × Pd)}:qC (G3 o C es):=by
 rintro v w p j ⟨r,g,i⟩;exact⟨r,g,i.grow j⟩
theorem Yv.since {j w w' : World}{x y:Pv}{d e o:Pd}{v:Value}(hb:Below j.heap.size j w) (h:Yv w x y d e o v w'):Yv j x y d e o v w':=by
 obtain⟨r,i,g|g|g⟩:=h
 ·exact⟨r,i,.inl g⟩
 ·exact⟨r,i,.inr (.inl g)⟩
 ·exact⟨r,i,.inr (.inr (g.since hb))⟩
theorem zcS (p:Pg) (is:Nat->Ins) (nv nf:Nat) (hv:p.vars=nv) (hf:p.fields=nf) (ai:zf p is=0) (w:World) (hc:zy w p is):
  Calls prog 23 #[p.v] w fun q o=>∃ (k:Nat) (s:Sl),q=.returned (.tuple #[.slice s.p s.n s.cap,.int .i64 ((k+1:Nat):Int)])∧Yi is p.n (qd nv nf p.n) k∧Kw w o s (y5 is p.n (qd nv nf p.n) (k+1)):=by
 have aY:=(zp ai).1;have av:=aY.v2;have ar:=aY.f2;have dP:=aY.n1;have cM:=za (fun o=>zct p nv nf hv hf (by omega) (by omega) (by omega) o);have bA:qE p is (qd nv nf p.n):=JU hv hf;have cJ:=za (y9 ai (Jv (is:=is) hv hf));have cZ:=za (fun x d gx i o (dB:Below w.heap.size w o) (aZ:YW o x d gx) (bQ:zE p is d=0) (aM:i<p.n)=>(show Calls prog 40 #[p.v,.int .i64 i,x.v] o fun e ay=>∃ s:Sl,e=.returned (.tuple #[.slice s.p s.n s.cap,.bool (Qo is i d).wr,.bool (Qo is i d).fl])∧QK o ay (fun w=>zN w gx d.vars) s (Qo is i d).es from zgU p is x d gx i o ai (hc.grow dB) aZ.1 aZ.2 bQ aM));have cQ:=za (fun a5 x y d e o (aZ:zq o x d) (dC:zq o y e) (h:zE p is d=0) (b9 : zE p is e=0)=>zcd a5 _ (zce a5) p is x y d e o aZ dC ai h b9);have de:=za (fun k (h:∀ j,j<k->Zu is p.n (qd nv nf p.n) j=true)=>Vb ai bA h);have cS:=za (fun k=>Jj ai bA k);have cV:=za (fun k i (aM:i<=p.n)=>(J4 ai (nb:=decide (3<k+1)) (s:=(y5 is p.n (qd nv nf p.n) k,false)) (Jj ai bA k) i aM).1);have cU:=za (fun nb i (aM:i<p.n) (cn:List (Int × Pd)) (s:List Pd × Bool) (aY:qE p is s.1) (dw:∀ x∈cn,(0<=x.1∧x.1<=p.n)∧zE p is x.2=0)=>(KV ai (nb:=nb) (i:=i) cn s aY dw).1);have cN:=za (fun (d:Pd) (bQ:zE p is d=0) i (aM:i<p.n)=>KW ai bQ aM);have cX:=za (fun nb i x s h av ar=>zfs (is:=is) ai (nb:=nb) (i:=i) (x:=x) (s:=s) h av ar);have cP:=za (fun (f:zm->zm->zm) (hf:Zs f) d e (h:zE p is d=0) (b9 : zE p is e=0)=>y9 ai (d:=Qx f d e) (by rw[<- Jw ai h b9];exact Zl hf.toPuts ai h b9));have cd:=za (fun (l:List Pd) (h:qE p is l) k (bO:k<=p.n)=>h.r k bO);have bx:=za (fun (l:List Pd) (h:qE p is l)=>h.len);have cR:=za (fun (dE:Nat->Int × Pd->List Pd × Bool->List Pd × Bool) k s=>Qm is dE Prod.fst k s);have cO:=za (fun r g w h=>zcc nv nf p.n r g w h);have dH:=za (show qd nv nf p.n=qM nv nf p.n::List.replicate p.n zC from rfl);have da:=za (show y5 is p.n (qd nv nf p.n) 0=qd nv nf p.n from rfl);have dc:=za (fun k=>(show (Zu is p.n (qd nv nf p.n) k=(z8 is (q3 (decide (3<k+1))) Prod.fst p.n (y5 is p.n (qd nv nf p.n) k,false)).2∧y5 is p.n (qd nv nf p.n) (k+1)=(z8 is (q3 (decide (3<k+1))) Prod.fst p.n (y5 is p.n (qd nv nf p.n) k,false)).1) from ⟨rfl,rfl⟩));have dI:=za (fun k=>(show z8 is (q3 (decide (3<k+1))) Prod.fst 0 (y5 is p.n (qd nv nf p.n) k,false)=(y5 is p.n (qd nv nf p.n) k,false) from rfl));clear aY hc;generalize dz:qd nv nf p.n=aQ at *;generalize dx:qM nv nf p.n=f0 at *;clear dz dx bA av ar ai;obtain⟨dY,dX,bF,bt,bE⟩:=p;dsimp only at *;subst hv hf;have J:=Loc.start w;go_enter func23,ntmps23;go_step;go_step;go_step
 ((with_reducible refine lbx J ?_);clear J;intro bd ac J)
 go_wp2_with (first|(go_at_call 56;refine(cM.out _).mono ?_;rintro q bW ⟨⟨c9,⟨cA,cB,c5⟩,⟨c8,c7,c6⟩⟩,rfl,al⟩;replace J:=J.gotP al cJ.out;clear al;dsimp only)|(with_reducible first|(refine lbs J ?_;clear J;intro ch ac J)|refine lld J ?_|((first|refine lbx J ?_|refine lal J ?_|refine lbs J ?_);clear J;intro aq ac J)|(refine zc J ?_;clear J;intro ac J)));obtain⟨b8,a9⟩:=J.gx;clear J;have J:=a9.perm (List.Perm.swap _ _ _);clear a9;obtain⟨aS,c2⟩:∃ aS:Pv,aS=⟨c9,⟨cA,cB,c5⟩,⟨c8,c7,c6⟩⟩:=⟨_,rfl⟩;go_loopw [4,5] (fun di dj wr=>∃ (k:Nat) (bV:Option Addr) (aK:Nat) (R:List zg),k<=bt∧di=.slice bV (k+1) aK∧dj=.int .i64 k∧zB 54 3 bV (k+1) aK ((aS::List.replicate k j5).flatMap Pv.cells) R∧Loc w wr ((bd,27,[.int .i64 nv,.int .i64 nf,.slice bF bt bE])::R) [fun w=>YW w aS f0 b8]) (fun _ c _=>bt - (intOf c).toNat)
 case atStart=>
  refine⟨0,some ⟨ch,0,none⟩,1,_,Nat.zero_le _,rfl,rfl,?_,by subst c2;exact J⟩;subst c2;exact zB.full (E:=54) (b:=ch) (n:=1) (xs:=Pv.cells ⟨c9,⟨cA,cB,c5⟩,⟨c8,c7,c6⟩⟩) rfl (by decide)
 case round=>
  clear J;obtain⟨k,bV,aK,R,bO,rfl,rfl,hR,J⟩:=hrel;have a6:=za hR;by_cases aO:k<bt
  ·clear hR
   go_wp2_with (first|(refine zF (z:=Qd) (K:=(aq,_,_)::(bd,_,_)::[]) (R:=R) (news:=Pv.cells j5) a6.out J rfl rfl rfl UL zhq (by decide) rfl (fun _=>⟨⟨aq,0,none⟩,rfl,fun j u ax=>by rw[zG,Nat.zero_add];exact zP (J.heap cIn) j ax⟩) rfl (by simp[Value.oneCell']) (by have:maxLen=9223372036854775807:=rfl;omega) (by omega) ?_;clear J;intro dF dn df ec du J;simp only[aX]at J)|(with_reducible first|refine lld J ?_|((first|refine lbx J ?_|refine lal J ?_|refine lbs J ?_);clear J;intro aq ac J)|(refine zc J ?_;clear J;intro ac J)));go_roundw
   case rel=>
    refine⟨k+1,dF,dn,df,by omega,rfl,by go_num,?_,J.drop (.cons _ (List.Sublist.refl _)) (fun _ h=>h)⟩;rw[List.replicate_succ',List.flatMap_cons,List.flatMap_append,<- List.append_assoc,<- List.flatMap_cons];exact du
   case measure=>simp[intOf];omega
  ·obtain rfl:k=bt:=by omega
   clear aO a6 bO;obtain⟨ao,dp,rfl,rfl,-,-⟩:=hR.block (by omega);have ca:=za hR;replace J:=J.turn (U:=ye (aS::List.replicate k j5) (b8::List.replicate k []) aQ) (fun w h=>cO.out aS b8 w h);clear hR;go_wp2_with (with_reducible first|refine lld J ?_|((first|refine lbx J ?_|refine lal J ?_|refine lbs J ?_);clear J;intro aq ac J)|(refine zc J ?_;clear J;intro ac J));go_loopw [6,7] (fun dk be wr=>∃ (m:Nat) (aj:Bool) (xs:List Pv) (I:List (List Gu)) (ad:List Value),dk=.int .i64 m∧be=.bool aj∧(aj=true->∀ j,j<m->Zu is k aQ j=true)∧(aj=false->∃ bs,m=bs + 1∧Yi is k aQ bs)∧xs.length=k+1∧I.length=k+1∧zB 54 3 (some ⟨ao,0,none⟩) (k+1) aK (xs.flatMap Pv.cells) [(ao,54,ad)]∧Loc w wr [(bd,27,[.int .i64 nv,.int .i64 nf,.slice bF k bE]),(ao,54,ad)] [ye xs I (y5 is k aQ m)]) (fun c _ _=>50000000000003 - (intOf c).toNat)
   case atStart=>exact⟨0,true,aS::List.replicate k j5,b8::List.replicate k [],dp,rfl,rfl,fun _ j ax=>absurd ax (Nat.not_lt_zero j),fun h=>(by cases h),(by simp),(by simp),ca.out,(by rw[da.out];exact J)⟩
   case round=>
    clear J ca;obtain⟨m,aj,xs,I,ad,rfl,rfl,bM,bL,au,aw,hR,J⟩:=hrel;cases aj with
    | false=>
     obtain⟨bs,rfl,cq⟩:=bL rfl;clear bM bL;have cL:=za cq;have an:=za au;clear cq au aw;go_wp2_with (with_reducible first|refine lld J ?_|((first|refine lbx J ?_|refine lal J ?_|refine lbs J ?_);clear J;intro aq ac J)|(refine zc J ?_;clear J;intro ac J))
     (try simp only[Exit.inBlock,Exit.then]);refine rt2 ?_
     refine⟨bs,⟨some ⟨ao,0,none⟩,k+1,aK⟩,rfl,cL.out,xs,[(ao,54,ad)],?_,hR,(J.turn (U:=yD xs (y5 is k aQ (bs + 1))) (fun w h j ax=>(h j ax).1)).drop (.cons _ (List.Sublist.refl _)) (fun _ h=>h)⟩;rw[bx.out _ (cS.out _),an.out]
    | true=>
     have ax:=bM rfl;clear bM bL;have dR:=de.out m ax;have a0:=za ax;have an:=za au;have az:=za aw;have a6:=za hR;clear ax au aw hR;go_wp2;go_loopw [7,8] (fun be dm wr=>∃ (i:Nat) (ag:List Pd) (aj:Bool) (xs:List Pv) (I:List (List Gu)) (ad:List Value),be=.bool aj∧dm=.int .i64 i∧i<=k∧z8 is (q3 (decide (3<m+1))) Prod.fst i (y5 is k aQ m,false)=(ag,aj)∧xs.length=k+1∧I.length=k+1∧zB 54 3 (some ⟨ao,0,none⟩) (k+1) aK (xs.flatMap Pv.cells) [(ao,54,ad)]∧Loc w wr [(bd,27,[.int .i64 nv,.int .i64 nf,.slice bF k bE]),(ao,54,ad)] [ye xs I ag]) (fun _ c _=>k+1 - (intOf c).toNat)
     case atStart=>exact⟨0,_,false,xs,I,ad,rfl,rfl,Nat.zero_le _,rfl,an.out,az.out,a6.out,J⟩
     case round=>
      clear J a6 an az;obtain⟨i,ag,aj,xs,I,ad,rfl,rfl,aM,heq,au,aw,hR,J⟩:=hrel;have dJ:=za heq;have an:=za au;have az:=za aw;by_cases aO:i<k
      ·have ak:=cV.out m i (by omega)
       rw[heq]at ak;have bR:=cd.out ag ak i (by omega);have cz:=J.get (S:=ye xs I ag) List.mem_cons_self i (by rw[bx.out ag ak];omega);have bm:=hR.elem Jy qJ (k:=i) (by omega);have bu:=za (show zn prog 54 ad (i*3) (xs.getD i qJ).v from zn.agg Zj bm rfl);have bw:=za (fun w (h:ye xs I ag w)=>(h i (by rw[bx.out ag ak];omega)).2.d);have a7:=za (fun o (aa:Below wr.heap.size wr o)=>cZ.out (xs.getD i qJ) (ag.getD i zC) (I.getD i []) i o (J.below.trans (aa.mono J.below.size)) (cz.grow aa) bR aO);have bn:=cN.out (ag.getD i zC) bR i aO;have aP:=cR.out (q3 (decide (3<m+1))) i (y5 is k aQ m,false);rw[heq]at aP;unfold Uk KL at aP;dsimp only at aP bn a7;have cT:=za ak;have a6:=za hR;have dU:((i:Int)<((k+1:Nat):Int)):=by omega
       clear bR cz bm ak heq au aw hR;generalize ag.getD i zC=d at bw a7 bn aP;generalize Qo is i d=C at a7 bn aP;generalize I.getD i []=gx at bw a7;generalize xs.getD i qJ=x at bu a7;have bY:=za bn;have bZ:=za aP;clear bn aP;obtain⟨eh,⟨ei,ej,ed⟩,⟨eg,ef,ee⟩⟩:=x;dsimp only[Pv.v]at bu a7;obtain⟨af,br⟩:∃ x,x=wr:=⟨_,rfl⟩;subst br;go_upto_region 14 with(with_reducible first|refine lld J ?_|((first|refine lbx J ?_|refine lal J ?_|refine lbs J ?_);clear J;intro aq ac J)|(refine zc J ?_;clear J;intro ac J))
       refine zb [40,41,42,43,44,45,46,39,47,48,49,9,10,11] ?_
       iterate 5 refine qdv ?_
       refine yT bu.out ?_;refine qdn (UX af (fun w=>zN w gx d.vars) C) UX.stable J ?_ ?_
       ·intro g w aa J _ q;simp only[aG]at q;simp only[fD];simp only[q]
        go_wp2_with (go_at_call 40;refine(a7.out _ aa).mono ?_;rintro e bW ⟨a3,rfl,al⟩;dsimp only);exact⟨rfl,_,rfl,al.below,a3,rfl,Loc.since aa al⟩
       refine qdn (UX af (fun w=>zN w gx d.vars) C) UX.stable J ?_ ?_
       ·intro g w aa J V q;have d6:(UX af (fun w=>zN w gx d.vars) C) (g 46) w:=yr V 6;obtain⟨a3,d6,al⟩:=d6;clear V;simp only[fD];simp only[d6]
        go_wp2_with (fail);exact⟨rfl,_,rfl,Below.refl _ _,a3,rfl,al⟩
       refine qdn (G3 af (fun w=>zN w gx d.vars) C.es) G3.stable J ?_ ?_
       ·intro g w aa J V q;have d7:(UX af (fun w=>zN w gx d.vars) C) (g 39) w:=yr V 7;obtain⟨a3,d7,al⟩:=d7;clear V;simp only[fD];simp only[d7]
        go_wp2_with (fail);exact⟨rfl,_,rfl,Below.refl _ _,a3,rfl,al⟩
       refine' j2 J ?_ ?_;rotate_left
       ·intro g w aa J V q;have d7:(UX af (fun w=>zN w gx d.vars) C) (g 39) w:=yr V 7;obtain⟨a3,d7,al⟩:=d7;clear V;simp only[fD];simp only[d7]
        go_wp2;exact cY
       refine' j2 J ?_ ?_;rotate_left
       ·intro g w aa J V q;have d7:(UX af (fun w=>zN w gx d.vars) C) (g 39) w:=yr V 7;obtain⟨a3,d7,al⟩:=d7;clear V;simp only[fD];simp only[d7]
        go_wp2;exact cY
       refine qdn (G3 af (fun w=>zN w gx d.vars) C.es) G3.stable J ?_ ?_
       ·intro g w aa J V q;simp only[aG]at q;have d8:(G3 af (fun w=>zN w gx d.vars) C.es) (g 47) w:=yr V 8;obtain⟨a3,d8,al⟩:=d8;clear V;simp only[fD];simp only[q,d8]
        go_wp2_with (fail);exact⟨rfl,_,rfl,Below.refl _ _,a3,rfl,al⟩
       iterate 2 refine qdv ?_
       refine qy J ?_;intro g ay aa hR q;simp only[aG]at q;have b5:(UX af (fun w=>zN w gx d.vars) C) (g 46) ay:=qye hR 6;obtain⟨dZ,b5,-⟩:=b5;have b6:(UX af (fun w=>zN w gx d.vars) C) (g 39) ay:=qye hR 7;obtain⟨ea,b6,-⟩:=b6;have b7:(G3 af (fun w=>zN w gx d.vars) C.es) (g 47) ay:=qye hR 8;obtain⟨eb,b7,-⟩:=b7;have b3:(G3 af (fun w=>zN w gx d.vars) C.es) (g 9) ay:=qye hR 11;obtain⟨⟨sp,a4,aJ⟩,b3,cr⟩:=b3;clear hR;simp only[fD];simp only[q,b5,b6,b7,b3];clear q b5 b6 b7 b3;replace J:=J.gave cr;simp only[List.append_nil,aX]at J;clear cr;clear aa;clear a7 bu;replace J:=J.both (U:=fun w=>jS w ⟨sp,a4,aJ⟩ C.es∧ye xs I ag w) (fun w av ar=>⟨av (bw.out w ar),ar⟩);clear bw;obtain⟨a8,a9⟩:=(J.derive List.mem_cons_self (U:=fun w=>jS w ⟨sp,a4,aJ⟩ C.es) (fun w h=>h.1)).edsW;replace J:=(a9.derive (U:=ye xs I ag) (List.mem_cons_of_mem _ List.mem_cons_self) (fun w h=>h.2)).drop (D':=[zcb a8 ⟨sp,a4,aJ⟩ C.es,ye xs I ag]) (List.Sublist.refl _) (fun S aA=>by
        simp only[List.mem_cons,List.not_mem_nil,or_false]at aA ⊢;rcases aA with rfl|rfl<;>simp)
       clear a9;go_wp2;go_loopw [7,12] (fun be dh wr=>∃ (j:Nat) (ab:List Pd) (aU:Bool) (xs:List Pv) (I:List (List Gu)) (ad:List Value),be=.bool aU∧dh=.int .i64 j∧j<=C.es.length∧(C.es.take j).foldl (fun s d=>q3 (decide (3<m+1)) i d s) (ag,aj)=(ab,aU)∧xs.length=k+1∧I.length=k+1∧zB 54 3 (some ⟨ao,0,none⟩) (k+1) aK (xs.flatMap Pv.cells) [(ao,54,ad)]∧Loc w wr [(bd,27,[.int .i64 nv,.int .i64 nf,.slice bF k bE]),(ao,54,ad)] [zcb a8 ⟨sp,a4,aJ⟩ C.es,ye xs I ab]) (fun _ c _=>C.es.length+1 - (intOf c).toNat)
       case atStart=>exact⟨0,ag,aj,xs,I,ad,rfl,rfl,Nat.zero_le _,rfl,an.out,az.out,a6.out,J⟩
       case round=>
        clear J a6 an az;obtain⟨j,ab,aU,xs,I,ad,rfl,rfl,ax,aL,au,aw,hR,J⟩:=hrel;have dK:=za aL;have an:=za au;have az:=za aw;have aV:=J.get (S:=zcb a8 ⟨sp,a4,aJ⟩ C.es) List.mem_cons_self;have a2:=aV.n;have bT:=aV.m;dsimp only at a2 bT;by_cases aN:j<C.es.length
        ·have ak:=cU.out (decide (3<m+1)) i aO (C.es.take j) (ag,aj) cT.out (fun x aZ=>bY.out x (List.mem_of_mem_take aZ))
         rw[aL]at ak;dsimp only at ak;have cy:C.es.getD j (0,Qc)∈C.es:=qX aN;obtain⟨⟨bC,bD⟩,aW⟩:=bY.out _ cy;obtain⟨cv,bo⟩:=aV.d.at' j aN;obtain⟨b2,ba,bP,bK⟩:=aV.l.ex;dsimp only at bP bK;obtain rfl:=bP (by omega);obtain⟨bI,bJ⟩:=bK j (by omega);have bq:=zd.cell (P:=prog) y2 bI (bJ 0 _ rfl);have bB:zd prog 54 wr b2 (ba+j*4+1) (a8.getD j Qu).x.v:=zd.agg Zj bI (fun z v dD=>by
          have ds:=bJ (z+1) v (by simpa using dD);rw[show ba+j*4+1+z=ba+j*4+(z+1) by omega];exact ds) rfl
         rw[Nat.add_zero,cv]at bq;have ah:=V3 (fun s d=>q3 (decide (3<m+1)) i d s) C.es (0,Qc) j aN (ag,aj);rw[aL]at ah;have c1:=cX.out (decide (3<m+1)) i (C.es.getD j (0,Qc)) (ab,aU) ak aW ⟨bC,bD⟩;rw[c1]at ah;have b1:=za (fun w (h:zcb a8 ⟨some ⟨b2,ba,none⟩,a4,aJ⟩ C.es w)=>(h.d.at' j aN).2);clear c1 cy bP bK bI bJ cv aV aL;generalize C.es.getD j (0,Qc)=dq at bC bD aW bo bq ah b1;generalize a8.getD j Qu=dr at bo bB b1;obtain⟨cm,aR⟩:=dq;obtain⟨dO,⟨bj,⟨bk,bl,bf⟩,⟨bi,bh,bg⟩⟩⟩:=dr;dsimp only[Pv.v]at bC bD aW bo bq bB ah b1;obtain⟨t,rfl⟩:∃ t:Nat,cm=t:=⟨cm.toNat,by omega⟩;have dA:t<=k:=by omega
         rw[show ((t:Int)).toNat=t from rfl]at ah;have bS:=cd.out ab ak t dA;have cx:=bx.out ab ak;have bm:=hR.elem Jy qJ (k:=t) (by omega);have bv:=za (show zn prog 54 ad (t*3) (xs.getD t qJ).v from zn.agg Zj bm rfl);obtain⟨-,-,-,cu,-⟩:=hR.same;have dy:=hR.fits;have dd:=za (show t*3+3<=ad.length by rw[cu];omega);have bb:=za hR;have cW:=za (fun v=>hR.put Jy qJ (k:=t) (by omega) v);have bc:=za (fun w (h:ye xs I ab w)=>(h t (by omega)).1);have db:=za (fun w r d gx (av:YW w r d gx) (ar:ye xs I ab w)=>ar.set (by omega) (by omega) (t:=t) av);have c3:Zs (if (decide (3<m+1)&&decide ((t:Int)<=i))=true then jf else both):=by
          split
          ·exact Zt
          ·exact J3
         have bN:=cP.out _ c3 _ aR bS aW;have bp:=bc.out _ (J.get (S:=ye xs I ab) (List.mem_cons_of_mem _ List.mem_cons_self));have cw:=fun a5 (bU:a5=(decide (3<m+1)&&decide ((t:Int)<=i))) o (aa:Below wr.heap.size wr o)=>cQ.out a5 (xs.getD t qJ) ⟨bj,⟨bk,bl,bf⟩,⟨bi,bh,bg⟩⟩ (ab.getD t zC) aR o (bp.grow aa) (bo.grow aa) bS aW
         have a0:=za (fun a5 (bU:a5=(decide (3<m+1)&&decide ((t:Int)<=i))) o (aa:Below wr.heap.size wr o)=>(show Calls prog 57 #[(xs.getD t qJ).v,Pv.v ⟨bj,⟨bk,bl,bf⟩,⟨bi,bh,bg⟩⟩,.bool a5] o fun q ay=>∃ v,q=.returned v∧Yv o (xs.getD t qJ) ⟨bj,⟨bk,bl,bf⟩,⟨bi,bh,bg⟩⟩ (ab.getD t zC) aR (Qx (if (decide (3<m+1)&&decide ((t:Int)<=i))=true then jf else both) (ab.getD t zC) aR) v ay∧Below o.heap.size o ay by have h:=cw a5 bU o aa;rw[bU]at h ⊢;exact h));have dW:((t:Int)<((k+1:Nat):Int)):=by omega
         have dS:((j:Int)<(a4:Int)):=by omega
         have cb:=za bq;have cc:=za bB;have dM:=za ak;clear cw c3 bS aW bm bp bo bq bB ak au aw hR bC bD cu dy;generalize Qx (if (decide (3<m+1)&&decide ((t:Int)<=i))=true then jf else both) (ab.getD t zC) aR=a1 at ah bN a0;have aT:=za (fun (r:Pv) o (av:zq o r a1) (ar:zq o (xs.getD t qJ) (ab.getD t zC))=>Kv r (xs.getD t qJ) a1 (ab.getD t zC) o av ar);generalize Ze a1 (ab.getD t zC)=sm at ah aT;generalize ab.getD t zC=ck at bc a0 aT;generalize xs.getD t qJ=dG at bv bc a0 aT;obtain⟨cG,⟨cH,cI,cC⟩,⟨cF,cE,cD⟩⟩:=dG;dsimp only[Pv.v]at bv a0 aT;have bz:=za ah;have cK:=za bN;have b0:=za a2;have dL:=za cx;have dQ:j<9223372036854775807:=by have:maxLen=9223372036854775807:=rfl;omega
         clear ah bN a2 cx bT;obtain⟨af,br⟩:∃ x,x=wr:=⟨_,rfl⟩;subst br;have ct:=Loc.start af;go_upto_region 19 with(with_reducible first|refine ldB cb.out ct ?_|refine lld J ?_|((first|refine lbx J ?_|refine lal J ?_|refine lbs J ?_);clear J;intro aq ac J)|(refine zc J ?_;clear J;intro ac J))
         clear ct;refine zb [61,62,63,64,65,66,67,68,69,70,71,72,73,74,75,76,77,14] ?_
         iterate 3 refine qdv ?_
         refine yT bv.out ?_
         iterate 4 refine qdv ?_
         refine' j2 J ?_ ?_;rotate_left
         ·intro g w aa J _ q;simp only[aG]at q;simp only[fD];simp only[q]
          refine zL cc.out ((Loc.start _).grow aa) rfl rfl ?_;exact cY
         iterate 7 refine qda ?_
         refine qdn (Yv af ⟨cG,⟨cH,cI,cC⟩,⟨cF,cE,cD⟩⟩ ⟨bj,⟨bk,bl,bf⟩,⟨bi,bh,bg⟩⟩ ck aR a1) Yv.stable J ?_ ?_
         ·intro g w aa J _ q;simp only[aG]at q;simp only[fD];simp only[q]
          go_wp2_with (go_at_call 57;refine(a0.out _ (by first|rfl|(rw[Bool.eq_iff_iff];simp only[Bool.and_eq_true,decide_eq_true_eq];omega)) _ aa).mono ?_;rintro e bW ⟨v,rfl,dt,dv⟩;dsimp only);exact⟨rfl,_,rfl,dv,dt.since aa⟩
         refine qdp ?_;refine qy J ?_;intro g ay aa hR q;simp only[aG]at q;have b4:(Yv af ⟨cG,⟨cH,cI,cC⟩,⟨cF,cE,cD⟩⟩ ⟨bj,⟨bk,bl,bf⟩,⟨bi,bh,bg⟩⟩ ck aR a1) (g 77) ay:=qye hR 16;obtain⟨⟨aF,⟨aH,aI,aB⟩,⟨aE,aD,aC⟩⟩,b4,cs⟩:=b4;obtain⟨dN,c4,cl,cj⟩:=qye hR 17;clear hR;simp only[fD];simp only[q,b4,cl];clear q b4 cl;replace J:=J.join aa c4 cj (S:=ye xs I ab) (T:=zcb a8 ⟨some ⟨b2,ba,none⟩,a4,aJ⟩ C.es) cMm cMm  bc.out b1.out cK.out cs;clear c4 cj cs;simp only[aX]at J;clear aa;go_upto_region 20 with(with_reducible first|refine lld J ?_|((first|refine lbx J ?_|refine lal J ?_|refine lbs J ?_);clear J;intro aq ac J)|(refine zc J ?_;clear J;intro ac J))
         obtain⟨af,br⟩:∃ x,x=ac:=⟨_,rfl⟩;subst br;have c0:=J.get (S:=fun w=>zq w ⟨aF,⟨aH,aI,aB⟩,⟨aE,aD,aC⟩⟩ a1) cMm;have bp:=bc.out _ (J.get (S:=ye xs I ab) cMm);have cf:=za (fun o (aa:Below af.heap.size af o)=>aT.out ⟨aF,⟨aH,aI,aB⟩,⟨aE,aD,aC⟩⟩ o (c0.grow aa) (bp.grow aa));clear c0 bp a0 cb cc aT;refine zb [78,79,80,81,82,83,84] ?_
         iterate 4 refine qdv ?_
         refine yT bv.out ?_;refine qdk J (fun _ aa J=>cf.out _ aa) ?_;refine qdv ?_;refine dnd J ?_;clear J;intro bW J;simp only[zr,sTa,sTb];clear cf;cases sm with
         | true=>
          have ah:=bz.out;rw[if_pos rfl]at ah;have bG:=za ah;clear ah bz;go_wp2_with (with_reducible first|refine lld J ?_|((first|refine lbx J ?_|refine lal J ?_|refine lbs J ?_);clear J;intro aq ac J)|(refine zc J ?_;clear J;intro ac J));go_roundw
          case rel=>
           exact⟨j+1,ab,aU,xs,I,ad,rfl,by go_num,aN,bG.out,an.out,az.out,bb.out,J.drop (.cons_cons _ (.cons_cons _ (.cons _ (List.Sublist.refl _)))) (fun _ h=>List.mem_cons_of_mem _ h)⟩
          case measure=>simp[intOf];omega
         | false=>
          have ah:=bz.out;rw[if_neg (by decide)]at ah;have bG:=za ah;clear ah bz;obtain⟨bH,a9⟩:=J.gx;clear J;have J:=a9.drop (D':=[fun w=>YW w ⟨aF,⟨aH,aI,aB⟩,⟨aE,aD,aC⟩⟩ a1 bH,ye xs I ab,zcb a8 ⟨some ⟨b2,ba,none⟩,a4,aJ⟩ C.es]) (List.Sublist.refl _) (fun S aA=>by
           simp only[List.mem_cons,List.not_mem_nil,or_false]at aA ⊢;rcases aA with rfl|rfl|rfl<;>simp)
          clear a9;replace J:=J.both (U:=ye (xs.set t ⟨aF,⟨aH,aI,aB⟩,⟨aE,aD,aC⟩⟩) (I.set t bH) (ab.set t a1)) (fun w av ar=>db.out w _ _ _ av ar);go_wp2_with (first|(refine zR (b:=ao) (off:=t*3) (vs:=Pv.cells ⟨aF,⟨aH,aI,aB⟩,⟨aE,aD,aC⟩⟩) (cs':=zj ad (t*3) (Pv.cells ⟨aF,⟨aH,aI,aB⟩,⟨aE,aD,aC⟩⟩)) J rfl rfl cIn rfl Zj.sz rfl dd.out rfl ?_;clear J;intro o J)|(with_reducible first|refine lld J ?_|((first|refine lbx J ?_|refine lal J ?_|refine lbs J ?_);clear J;intro aq ac J)|(refine zc J ?_;clear J;intro ac J)));go_roundw
          case rel=>
           refine⟨j+1,ab.set t a1,true,xs.set t ⟨aF,⟨aH,aI,aB⟩,⟨aE,aD,aC⟩⟩,I.set t bH,zj ad (t*3) (Pv.cells ⟨aF,⟨aH,aI,aB⟩,⟨aE,aD,aC⟩⟩),rfl,by go_num,aN,bG.out,by rw[List.length_set];exact an.out,by rw[List.length_set];exact az.out,cW.out _,J.drop (.cons_cons _ (.cons_cons _ (.cons _ (List.Sublist.refl _)))) (fun S aA=>?_)⟩;simp only[List.mem_cons,List.not_mem_nil,or_false]at aA ⊢;rcases aA with rfl|rfl<;>simp
          case measure=>simp[intOf];omega
        ·obtain rfl:j=C.es.length:=by omega
         rw[List.take_length]at aL;rw[aL]at bZ;have bb:=za hR;clear aV bT au aw hR aL aN;subst a2;go_wp2_with (with_reducible first|refine lld J ?_|((first|refine lbx J ?_|refine lal J ?_|refine lbs J ?_);clear J;intro aq ac J)|(refine zc J ?_;clear J;intro ac J));go_roundw
         case rel=>
          exact⟨i+1,ab,aU,xs,I,ad,rfl,by go_num,aO,bZ.out,an.out,az.out,bb.out,J.drop (List.Sublist.refl _) (fun _ h=>List.mem_cons_of_mem _ h)⟩
         case measure=>simp[intOf];omega
      ·obtain rfl:i=k:=by omega
       have bb:=za hR;have a2:=dc.out m;rw[heq]at a2;dsimp only at a2;have b0:=za a2;clear aO au aw hR heq a2;go_wp2_with (with_reducible first|refine lld J ?_|((first|refine lbx J ?_|refine lal J ?_|refine lbs J ?_);clear J;intro aq ac J)|(refine zc J ?_;clear J;intro ac J));go_roundw
       case rel=>
        refine⟨m+1,aj,xs,I,ad,by go_num,rfl,fun h j ax=>?_,fun h=>⟨m,rfl,b0.out.1.trans h,a0.out⟩,an.out,az.out,bb.out,by rw[b0.out.2];exact J⟩;rcases Nat.lt_or_ge j m with cp|cp
        ·exact a0.out j cp
        ·obtain rfl:j=m:=by omega
         exact b0.out.1.trans h
       case measure=>simp[intOf];omega
end Go.Proofs.YtplcndmdkabmeaaGreatDoor
