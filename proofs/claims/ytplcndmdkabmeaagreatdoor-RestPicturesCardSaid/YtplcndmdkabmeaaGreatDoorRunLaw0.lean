/- The walk over run.Step. Conditions: what it reads lies in memory that was there. | The walk over run.Run. Conditions: what it reads lies in memory that was there. | What a run of the laws' small program comes to. Conditions: the library's table of powers reads as it is laid. -/
import Derived.Test.YtplcndmdkabmeaaGreatDoorRbs
import Derived.Test.YtplcndmdkabmeaaGreatDoorKep
import Derived.Test.YtplcndmdkabmeaaGreatDoorSml
set_option linter.unusedSimpArgs false
set_option linter.unusedVariables false
set_option maxRecDepth 100000
set_option maxHeartbeats 4000000
namespace Go.Proofs.YtplcndmdkabmeaaGreatDoor
open Go.Proofs.Tryz
open Go.RowKit
theorem zY.grow {w0 w w' : World}{bm:Nat}{p:Pg}{ins:Sl}{s:Rs}(h:zY w0 bm p ins s w) (hb:Below w.heap.size w w'):zY w0 bm p ins s w':=by
 obtain⟨r,C,o,j,i,g,t,J⟩:=h;exact⟨r,C,o,j,i,g,t,J.grow hb⟩
def Zz (B:Nat) (s:Rs):Value->World->Prop:=fun v w=>∃ r p o j i g,v=Rn.v r∧yE r s p o j i g∧Own B w (o++(j++(i++g)))
theorem Zz.stable {B:Nat}{s:Rs}:qC (Zz B s):=by
 rintro v w R I ⟨r,P,o,j,i,g,p,t,C⟩;exact⟨r,P,o,j,i,g,p,t,C.grow I⟩
def Km (B:Nat) (p:Pg) (ins:Sl) (s:Rs):Value->World->Prop:=fun v w=>∃ r t o j i g,v=.agg (q8 p r ins).toArray∧yE r s t o j i g∧Own B w (o++(j++(i++g)))
theorem Km.stable {B:Nat}{p:Pg}{ins:Sl}{s:Rs}:qC (Km B p ins s):=by
 rintro v w T P ⟨r,R,o,j,i,g,t,C,I⟩;exact⟨r,R,o,j,i,g,t,C,I.grow P⟩
def Q2 (B:Nat) (p:Pg) (ins:Sl) (s:Rs):Value->World->Prop:=fun v w=>∃ b r t o j i g,v=.pointer (some ⟨b,0,none⟩)∧yE r s t o j i g∧Own B w ((b,100,q8 p r ins)::(o++(j++(i++g))))
theorem Q2.stable {B:Nat}{p:Pg}{ins:Sl}{s:Rs}:qC (Q2 B p ins s):=by
 rintro v w T P ⟨b,r,R,o,j,i,g,t,C,I⟩;exact⟨b,r,R,o,j,i,g,t,C,I.grow P⟩
theorem Own.box {B:Nat}{w:World}{R:List zg}(h:Own B w R) (j:B<=w.heap.size) (T:TypeId) (i:List Value):Own B (w.alloc (.cells i.toArray T)) ((w.heap.size,T,i)::R):=by
 have o:Below w.heap.size w (w.alloc (.cells i.toArray T)):=(Below.refl _ _).alloc (Nat.le_refl _) _;refine⟨?_,fun e g=>?_⟩
 ·simp only[List.map_cons,List.nodup_cons]
  refine⟨fun p=>?_,h.nodup⟩;obtain⟨e,g,t⟩:=List.mem_map.1 p;have:=zz (h.at' e g).2;omega
 ·rcases List.mem_cons.1 g with rfl|g
  ·exact⟨j,jo _ _⟩
  ·exact(h.grow o).at' e g
theorem zaz (p:Pg) (is:Nat->Ins) (ins:Sl) (r:Rn) (vs:Nat->Vl) (i:Nat->Th) (g:Nat->Nat->Vl) (w:World) (hn:p.n<=9223372036854775807) (hc:zy w p is) (I:GF w r vs i g) (o:jA p is r vs i g≠0):
  Calls prog 27 #[p.v,r.v,ins.v] w fun e j=>e=.returned (.tuple #[Gh.v,.int .i64 (jA p is r vs i g)])∧Below w.heap.size w j:=by
 have t:=za (fun j (C:Below w.heap.size w j)=>Zd p is r vs i g j hn (hc.grow C) (I.grow C));generalize jA p is r vs i g=c at o t ⊢;have T:(c != 0)=true:=bne_iff_ne.2 o;clear o hc I hn;have J:=Loc.start w;go_enter func27,ntmps27;go_wp2_with (first|(with_reducible first|refine lld J ?_|((first|refine lbx J ?_|refine lal J ?_);clear J;intro R P J)|(refine zc J ?_;clear J;intro P J))|(go_at_call 42;refine cg J (t.out _ J.below) ?_;clear J;intro P J;dsimp only));refine rt2 ?_;exact⟨rfl,J.below⟩
theorem Vt (p:Pg) (is:Nat->Ins) (ins:Sl) (xs:Nat->Int) (r:Rn) (s:Rs) (vs:Nat->Vl) (a2:Nat->Th) (au:Nat->Nat->Vl) (w:World) (hn:p.n<=9223372036854775807) (hc:zy w p is) (aB:GF w r vs a2 au) (aA:jA p is r vs a2 au=0)
  (aC:jD w r s) (aa:qe p s) (aw:zf p is=0) (ay:JZ w ins xs) (a0:s.lines.length*16<=140737488351232) (a9:ZO w):
  Calls prog 27 #[p.v,r.v,ins.v] w fun e ah=>∃ aD U T R P I,e=.returned (.tuple #[Rn.v aD,.int .i64 0])∧yE aD (X9 p is ins xs s) U T R P I∧Own w.heap.size ah (T++(R++(P++I)))∧Below w.heap.size w ah:=by
 have az:=fun ah (g:Below w.heap.size w ah)=>Zd p is r vs a2 au ah hn (hc.grow g) (aB.grow g)
 rw[aA]at az;have a3:=za az;have a7:=zg9 aa (zp aw).1 a0;have a4:=za (fun ah (g:Below w.heap.size w ah)=>zhd r s ah (aC.grow g) a7);have aO:=za (fun ac ab ai (g:Below w.heap.size w ac) (av:zY ac ai p ins s ab)=>za8 ac ai p is ins xs s ab av aa aw (hc.grow g) ⟨ay.1.grow g,ay.2⟩ a0 (a9.grow g));clear az a7 aa aw ay a0 a9 aC aA hc aB hn;have J:=Loc.start w;by_cases ak:s.ending=0
 ·have ao:=za ak
  have aq:=za (show X9 p is ins xs s=Jx p is ins xs s by rw[X9,if_pos ak]);clear ak;go_enter func27,ntmps27;go_upto_region 4 with(first|(with_reducible first|refine lld J ?_|((first|refine lbx J ?_|refine lal J ?_);clear J;intro aP ac J))|(go_at_call 42;refine cg J (a3.out _ J.below) ?_;clear J;intro ac J;dsimp only))
  obtain⟨i,a1⟩:∃ x,x=ac:=⟨_,rfl⟩;subst a1;refine zb [17,18,19,20,21,22,9] ?_
  iterate 2 refine qdv ?_
  refine qdn (Zz i.heap.size s) Zz.stable J ?_ ?_
  ·intro j w g J _ q;simp only[aG]at q;simp only[fD];simp only[q]
   go_wp2_with (go_at_call 63;refine(a4.out _ J.below).mono ?_;rintro e aL ⟨t,U,T,R,P,I,rfl,o,C,ax⟩;dsimp only);exact⟨rfl,_,rfl,ax,t,U,T,R,P,I,rfl,o,C.mono g.size⟩
  refine qdv ?_;refine qdn (Km i.heap.size p ins s) Km.stable J ?_ ?_
  ·intro j w g J y q;simp only[aG]at q;have d2:(Zz i.heap.size s) (j 19) w:=yr y 2;obtain⟨t,U,T,R,P,I,d2,o,C⟩:=d2;clear y;simp only[fD];simp only[q,d2]
   go_wp2_with (fail);exact⟨rfl,_,rfl,Below.refl _ _,t,U,T,R,P,I,rfl,o,C⟩
  refine qdn (Q2 i.heap.size p ins s) Q2.stable J ?_ ?_
  ·intro j w g J y q;have d4:(Km i.heap.size p ins s) (j 21) w:=yr y 4;obtain⟨t,U,T,R,P,I,d4,o,C⟩:=d4;clear y;simp only[fD];simp only[d4]
   go_wp2_with (fail);exact⟨rfl,_,rfl,(Below.refl _ _).alloc (Nat.le_refl _) _,_,t,U,T,R,P,I,rfl,o,C.box g.size _ _⟩
  refine qdn (Q2 i.heap.size p ins s) Q2.stable J ?_ ?_
  ·intro j w g J y q;simp only[aG]at q;have d5:(Q2 i.heap.size p ins s) (j 22) w:=yr y 5;obtain⟨ar,t,U,T,R,P,I,d5,o,C⟩:=d5;clear y;simp only[fD];simp only[q,d5]
   go_wp2_with (fail);exact⟨rfl,_,rfl,Below.refl _ _,ar,t,U,T,R,P,I,rfl,o,C⟩
  refine qy J ?_;intro j ab g aa q;simp only[aG]at q;have ad:(Zz i.heap.size s) (j 19) ab:=qye aa 2;obtain⟨aZ,-,-,-,-,-,ad,-,-⟩:=ad;have ae:(Km i.heap.size p ins s) (j 21) ab:=qye aa 4;obtain⟨ba,-,-,-,-,-,ae,-,-⟩:=ae;have af:(Q2 i.heap.size p ins s) (j 22) ab:=qye aa 5;obtain⟨aQ,-,-,-,-,-,-,af,-,-⟩:=af;have ag:(Q2 i.heap.size p ins s) (j 9) ab:=qye aa 6;obtain⟨ai,t,U,T,R,P,I,ag,o,C⟩:=ag;have al:=J;have aj:=g;clear aa;simp only[fD];simp only[q,ad,ae,af,ag];clear q ad ae af ag;replace J:=J.grow g;clear g;have a6:zY i ai p ins s ab:=⟨t,U,T,R,P,I,o,Loc.ofOwn aj C⟩;have aM:=za a6;replace J:=al.gainTail aj C;simp only[aX]at J;have an:t.ending=0:=o.e.trans ao.out;clear a6 C aj o;obtain⟨aE,aK,aJ,aH,aI,aF⟩:=t;dsimp only at an;subst an;dsimp only[q8]at J;go_wp2_with (first|(with_reducible first|refine lld J ?_|(refine zc J ?_;clear J;intro ac J))|(go_at_call 47;refine(aO.out i _ ai al.below aM.out).mono ?_;rintro e aL ⟨rfl,av⟩;obtain⟨⟨aT,aY,rt3,aV,aW,aU⟩,bf,be,bd,bc,bb,aR,a5⟩:=av;replace J:=al.gainTail a5.below a5.own;simp only[aX]at J;dsimp only[q8]at J;dsimp only));refine rt2 ?_;rw[aq.out];exact⟨⟨aT,aY,rt3,aV,aW,aU⟩,_,_,_,_,_,rfl,aR,J.ownOf (by repeat (first|exact List.Sublist.refl _|apply List.Sublist.cons)),J.below⟩
 ·have a8:(s.ending != 0)=true:=bne_iff_ne.2 ak
  have ao:=za a8;have aq:=za (show X9 p is ins xs s=s by rw[X9,if_neg ak]);clear ak a8;go_enter func27,ntmps27;go_upto_region 4 with(first|(with_reducible first|refine lld J ?_|((first|refine lbx J ?_|refine lal J ?_);clear J;intro aP ac J))|(go_at_call 42;refine cg J (a3.out _ J.below) ?_;clear J;intro ac J;dsimp only))
  obtain⟨i,a1⟩:∃ x,x=ac:=⟨_,rfl⟩;subst a1;refine zb [17,18,19,20,21,22,9] ?_
  iterate 2 refine qdv ?_
  refine qdn (Zz i.heap.size s) Zz.stable J ?_ ?_
  ·intro j w g J _ q;simp only[aG]at q;simp only[fD];simp only[q]
   go_wp2_with (go_at_call 63;refine(a4.out _ J.below).mono ?_;rintro e aL ⟨t,U,T,R,P,I,rfl,o,C,ax⟩;dsimp only);exact⟨rfl,_,rfl,ax,t,U,T,R,P,I,rfl,o,C.mono g.size⟩
  refine qdv ?_;refine qdn (Km i.heap.size p ins s) Km.stable J ?_ ?_
  ·intro j w g J y q;simp only[aG]at q;have d2:(Zz i.heap.size s) (j 19) w:=yr y 2;obtain⟨t,U,T,R,P,I,d2,o,C⟩:=d2;clear y;simp only[fD];simp only[q,d2]
   go_wp2_with (fail);exact⟨rfl,_,rfl,Below.refl _ _,t,U,T,R,P,I,rfl,o,C⟩
  refine qdn (Q2 i.heap.size p ins s) Q2.stable J ?_ ?_
  ·intro j w g J y q;have d4:(Km i.heap.size p ins s) (j 21) w:=yr y 4;obtain⟨t,U,T,R,P,I,d4,o,C⟩:=d4;clear y;simp only[fD];simp only[d4]
   go_wp2_with (fail);exact⟨rfl,_,rfl,(Below.refl _ _).alloc (Nat.le_refl _) _,_,t,U,T,R,P,I,rfl,o,C.box g.size _ _⟩
  refine qdn (Q2 i.heap.size p ins s) Q2.stable J ?_ ?_
  ·intro j w g J y q;simp only[aG]at q;have d5:(Q2 i.heap.size p ins s) (j 22) w:=yr y 5;obtain⟨ar,t,U,T,R,P,I,d5,o,C⟩:=d5;clear y;simp only[fD];simp only[q,d5]
   go_wp2_with (fail);exact⟨rfl,_,rfl,Below.refl _ _,ar,t,U,T,R,P,I,rfl,o,C⟩
  refine qy J ?_;intro j ab g aa q;simp only[aG]at q;have ad:(Zz i.heap.size s) (j 19) ab:=qye aa 2;obtain⟨aZ,-,-,-,-,-,ad,-,-⟩:=ad;have ae:(Km i.heap.size p ins s) (j 21) ab:=qye aa 4;obtain⟨ba,-,-,-,-,-,ae,-,-⟩:=ae;have af:(Q2 i.heap.size p ins s) (j 22) ab:=qye aa 5;obtain⟨aQ,-,-,-,-,-,-,af,-,-⟩:=af;have ag:(Q2 i.heap.size p ins s) (j 9) ab:=qye aa 6;obtain⟨ai,t,U,T,R,P,I,ag,o,C⟩:=ag;have al:=J;have aj:=g;clear aa;simp only[fD];simp only[q,ad,ae,af,ag];clear q ad ae af ag;replace J:=J.grow g;clear g;replace J:=al.gainTail aj C;simp only[aX]at J;have an:(t.ending != 0)=true:=by rw[o.e];exact ao.out
  have aS:(t.ending==0)=false:=beq_eq_false_iff_ne.2 (bne_iff_ne.1 an);have aN:=za o;clear C aj o an ao;obtain⟨aE,aK,aJ,aH,aI,aF⟩:=t;dsimp only at aS;dsimp only[q8]at J;go_wp2_with (with_reducible first|refine lld J ?_|(refine zc J ?_;clear J;intro ac J));refine rt2 ?_;rw[aq.out];exact⟨⟨aE,aK,aJ,aH,aI,aF⟩,_,_,_,_,_,rfl,aN.out,J.ownOf (by repeat (first|exact List.Sublist.refl _|apply List.Sublist.cons)),J.below⟩
set_option maxHeartbeats 4000000
theorem zdT (p:Pg) (is:Nat->Ins) (ins:Sl) (xs:Nat->Int) (fuel n:Nat) (w:World) (hn:p.n<=9223372036854775807) (hc:zy w p is) (ax:zf p is=0) (a7:JZ w ins xs) (aT:ZO w) (aA:p.vars=n) (aS:n<=8) (aQ:fuel<=5000):
  Calls prog 15 #[p.v,ins.v,.int .i64 fuel] w fun e ai=>∃ aU T I C t o,e=.returned (.tuple #[Rn.v aU,.int .i64 (YB p is ins xs fuel (qc n) 0).2,.int .i64 0])∧yE aU (zhw (YB p is ins xs fuel (qc n) 0).1) T I C t o∧Own w.heap.size ai (I++(C++(t++o)))∧Below w.heap.size w ai:=by
 have a9:=fun ai (i:Below w.heap.size w ai)=>jn p is ai (hc.grow i) hn
 rw[ax]at a9;have aE:=za a9;have aC:=za (fun ai=>Gg p n ai aA aS);have aZ:=za (fun (s:Rs) (g:Nat) (h:Xh p s g) (a8:g<=5000)=>h.next (is:=is) (ins:=ins) (xs:=xs) ax a8);have aY:=za (Xh.begin aA (Int.natCast_nonneg p.n));have bd:=za (fun ad ae af (s:Rs) (g:Nat) (al:Xh p s g) (a8:g<=5000) (i:Below w.heap.size w ad) (ab:zY ad af p ins s ae)=>za8 ad af p is ins xs s ae ab al.r ax (hc.grow i) ⟨a7.1.grow i,a7.2⟩ (by have:=al.l;omega) (aT.grow i));have a4:=za aQ;have aL:¬ (fuel:Int)<0:=by omega
 have bi:(fuel:Int)<=5000:=by omega
 have bf:decide ((fuel:Int)<0)=false:=decide_eq_false aL;have bg:decide ((5000:Int)<(fuel:Int))=false:=decide_eq_false (by omega);clear a9 hc ax a7 aT aA aS aQ hn aL bi;have J:=Loc.start w;go_enter func15,ntmps15;go_upto_region 6 with(first|(with_reducible first|refine lld J ?_|((first|refine lbx J ?_|refine lal J ?_);clear J;intro bm ad J))|(go_at_call 43;refine cg J (aE.out _ J.below) ?_;clear J;intro ad J;dsimp only))
 obtain⟨j,bl⟩:∃ x,x=ad:=⟨_,rfl⟩;subst bl;refine zb [25,26,27,28,29,30,10] ?_
 iterate 2 refine qdv ?_
 refine qdn (Zz j.heap.size (qc n)) Zz.stable J ?_ ?_
 ·intro P w i J _ q;simp only[aG]at q;simp only[fD];simp only[q]
  go_wp2_with (go_at_call 46;refine(aC.out _).mono ?_;rintro e aW ⟨ac,T,I,C,t,o,rfl,U,aa,bj⟩;dsimp only);exact⟨rfl,_,rfl,bj,ac,T,I,C,t,o,rfl,U,aa.mono i.size⟩
 refine qdv ?_;refine qdn (Km j.heap.size p ins (qc n)) Km.stable J ?_ ?_
 ·intro P w i J v q;simp only[aG]at q;have d2:(Zz j.heap.size (qc n)) (P 27) w:=yr v 2;obtain⟨ac,T,I,C,t,o,d2,U,aa⟩:=d2;clear v;simp only[fD];simp only[q,d2]
  go_wp2_with (fail);exact⟨rfl,_,rfl,Below.refl _ _,ac,T,I,C,t,o,rfl,U,aa⟩
 refine qdn (Q2 j.heap.size p ins (qc n)) Q2.stable J ?_ ?_
 ·intro P w i J v q;have d4:(Km j.heap.size p ins (qc n)) (P 29) w:=yr v 4;obtain⟨ac,T,I,C,t,o,d4,U,aa⟩:=d4;clear v;simp only[fD];simp only[d4]
  go_wp2_with (fail);exact⟨rfl,_,rfl,(Below.refl _ _).alloc (Nat.le_refl _) _,_,ac,T,I,C,t,o,rfl,U,aa.box i.size _ _⟩
 refine qdn (Q2 j.heap.size p ins (qc n)) Q2.stable J ?_ ?_
 ·intro P w i J v q;simp only[aG]at q;have d5:(Q2 j.heap.size p ins (qc n)) (P 30) w:=yr v 5;obtain⟨be,ac,T,I,C,t,o,d5,U,aa⟩:=d5;clear v;simp only[fD];simp only[q,d5]
  go_wp2_with (fail);exact⟨rfl,_,rfl,Below.refl _ _,be,ac,T,I,C,t,o,rfl,U,aa⟩
 refine qy J ?_;intro P ae i ao q;simp only[aG]at q;have aj:(Zz j.heap.size (qc n)) (P 27) ae:=qye ao 2;obtain⟨bq,-,-,-,-,-,aj,-,-⟩:=aj;have au:(Km j.heap.size p ins (qc n)) (P 29) ae:=qye ao 4;obtain⟨br,-,-,-,-,-,au,-,-⟩:=au;have av:(Q2 j.heap.size p ins (qc n)) (P 30) ae:=qye ao 5;obtain⟨bn,-,-,-,-,-,-,av,-,-⟩:=av;have aw:(Q2 j.heap.size p ins (qc n)) (P 10) ae:=qye ao 6;obtain⟨af,ac,T,I,C,t,o,aw,U,aa⟩:=aw;have aM:=J;have aP:=i;clear ao;simp only[fD];simp only[q,aj,au,av,aw];clear q aj au av aw;replace J:=J.grow i;clear i;have aN:zY j af p ins (qc n) ae:=⟨ac,T,I,C,t,o,U,Loc.ofOwn aP aa⟩;have bb:=za aN;have ar:=za aM;clear aN aa aP U aM aC aE bf bg;go_wp2;clear J;go_loopw [11] (fun c wr=>∃ (g:Nat) (s:Rs),g<=fuel∧c=.int .i64 g∧Xh p s g∧YB p is ins xs (fuel - g) s g=YB p is ins xs fuel (qc n) 0∧zY j af p ins s wr) (fun c _=>fuel - (intOf c).toNat)
 case atStart=>exact⟨0,_,Nat.zero_le _,rfl,aY.out,by rw[Nat.sub_zero],bb.out⟩
 case round=>
  obtain⟨g,s,a8,rfl,al,aO,ab⟩:=hrel;have aF:=za ab;have aD:=za al;have a5:=za aO;clear al aO;obtain⟨⟨az,a3,a2,a0,a1,ak⟩,aV,aK,aJ,aI,aH,ag,R⟩:=ab;replace J:=ar.out.gainTail R.below R.own;simp only[aX]at J;dsimp only[q8]at J;have ay:ak=s.ending:=ag.e;have bc:=za ag;clear R ag;by_cases ah:s.ending=0
  ·have aq:=za ah
   have bk:=ay.trans ah;clear ay ah;subst bk;by_cases aR:g<fuel
   ·have bo : (g:Int)<fuel:=by omega
    clear aR;go_wp2_with (first|(with_reducible refine lld J ?_)|(go_at_call 47;refine(bd.out j _ af s g aD.out (by have:=a4.out;omega) ar.out.below aF.out).mono ?_;rintro e aW ⟨rfl,ab⟩;have ba:=za ab;obtain⟨⟨az,a3,a2,a0,a1,ak⟩,aV,aK,aJ,aI,aH,ag,R⟩:=ab;replace J:=ar.out.gainTail R.below R.own;simp only[aX]at J;dsimp only[q8]at J;dsimp only;clear R ag));have aB:wrap64 ((g:Int)+1)=g+1:=by have:=a4.out;unfold wrap64;omega
    go_roundw
    case rel=>exact⟨g+1,_,by omega,by rw[aB,Int.natCast_succ],aZ.out s g aD.out (by have:=a4.out;omega),by rw[<- a5.out];exact(zdn g (by omega) aq.out).symm,ba.out⟩
    case measure=>
     rw[aB];have bh:(intOf (Value.int .i64 ((g:Int)+1))).toNat=g+1:=by simp only[intOf];omega
     have aj:(intOf (Value.int .i64 (g:Int))).toNat=g:=by simp only[intOf];omega
     generalize (intOf (Value.int .i64 ((g:Int)+1))).toNat=x at bh ⊢;generalize (intOf (Value.int .i64 (g:Int))).toNat=y at aj ⊢;clear aB;omega
   ·obtain rfl:g=fuel:=by omega
    have an:YB p is ins xs g (qc n) 0=(s,g):=by rw[<- a5.out,Nat.sub_self,YB]
    have a6:=za an;clear an aR;go_wp2_with (first|(with_reducible first|refine lld J ?_|(refine zc J ?_;clear J;intro ad J))|(go_at_call 48;refine(Qt j af p ins s 4 _ aF.out).mono ?_;rintro e aW ⟨rfl,ab⟩;obtain⟨⟨az,a3,a2,a0,a1,ak⟩,aV,aK,aJ,aI,aH,ag,R⟩:=ab;replace J:=ar.out.gainTail R.below R.own;simp only[aX]at J;dsimp only[q8]at J;dsimp only;clear R));refine rt3 ?_;rw[a6.out,show zhw s={ s with ending:=4 } from if_pos aq.out];exact⟨⟨az,a3,a2,a0,a1,ak⟩,_,_,_,_,_,rfl,ag,J.ownOf (by repeat (first|exact List.Sublist.refl _|apply List.Sublist.cons)),J.below⟩
  ·have aq:=za ah
   have an:YB p is ins xs fuel (qc n) 0=(s,g):=by rw[<- a5.out];exact zdm _ _ ah
   have a6:=za an;have bp:(ak==0)=false:=beq_eq_false_iff_ne.2 (by rw[ay];exact ah);clear ay ah an;go_wp2_with (with_reducible first|refine lld J ?_|(refine zc J ?_;clear J;intro ad J));refine rt3 ?_;rw[a6.out,show zhw s=s from if_neg aq.out];exact⟨⟨az,a3,a2,a0,a1,ak⟩,_,_,_,_,_,rfl,bc.out,J.ownOf (by repeat (first|exact List.Sublist.refl _|apply List.Sublist.cons)),J.below⟩
abbrev Gw:Sl:=⟨none,0,0⟩
theorem YL (w:World):JZ w Gw (fun _=>0):=⟨⟨yo rfl,0,0,fun h=>absurd h (Nat.lt_irrefl 0),fun k g=>absurd g (Nat.not_lt_zero k)⟩,by decide⟩
abbrev zfa:Rs:=⟨2,[⟨1,5⟩],[],0,[⟨#[53]⟩],1⟩
abbrev yk:Rs:=⟨1,[⟨1,5⟩],[],0,[],0⟩
theorem ziE:Yz ⟨1,5⟩=⟨#[53]⟩:=by
 have h:Lib.itoa 5=[53]:=by simp[Lib.itoa,Lib.decDigits]
 show (⟨(Lib.itoa 5).toArray⟩:ByteArray)=_
 rw[h]
theorem XN (b:Nat):YB (z1 b) zT Gw (fun _=>0) 10 (qc 1) 0=(zfa,3):=by
 have h:YB (z1 b) zT Gw (fun _=>0) 10 (qc 1) 0=(⟨2,[⟨1,5⟩],[],0,[Yz ⟨1,5⟩],1⟩,3):=rfl;rw[h,ziE]
theorem zaA (b:Nat):X9 (z1 b) zT Gw (fun _=>0) (qc 1)=yk:=rfl
theorem UA {b:Nat}{r:Rn}{vs:Nat->Vl}{g:Nat->Th}{i:Nat->Nat->Vl}(R:0<=r.at') (T:r.at'<=2) (ht:r.taken=0) (I:r.ending=0) (hv:r.vars.n=1) (hn:r.things.n=0) (P:zM (vs 0) 0=true):
  jA (z1 b) zT r vs g i=0:=by
 have j:yW (z1 b) r=false:=by simp[yW,ht,I];omega
 have o:Zc (z1 b) zT r g=false:=by simp[Zc,hn,qa]
 have p:YQ (z1 b) r g=false:=by simp[YQ,hn,qa]
 have t:YR r vs=false:=by simp[YR,hv,hn,qa,P]
 have C:Q6 r g i=false:=by simp[Q6,hn,qa]
 rw[jA,if_pos (jl b)];simp[yB,j,o,p,t,C,hv,hn]
theorem Ko (b:Nat):qe (z1 b) (qc 1):=(Xh.begin (p:=z1 b) (n:=1) rfl (Int.natCast_nonneg _)).r
theorem Vu (b:Nat) (r:Rn) (w:World) (hc:zy w (z1 b) zT) (g:jD w r (qc 1)) (T:ZO w):
  Calls prog 27 #[(z1 b).v,r.v,Gw.v] w fun e P=>∃ I aa p o j i,e=.returned (.tuple #[Rn.v I,.int .i64 0])∧yE I yk aa p o j i∧Own w.heap.size P (p++(o++(j++i)))∧Below w.heap.size w P:=by
 obtain⟨U,R,ab⟩:=g.ex;have C:=Vt (z1 b) zT Gw (fun _=>0) r (qc 1) _ U _ w (show (2:Nat)<=9223372036854775807 by decide) hc R.l
  (UA (by rw[g.a];decide) (by rw[g.a];decide) g.t g.e g.nv g.nt rfl) g (Ko b) (jl b) (YL w) (by decide) T
 rw[zaA]at C;exact C
theorem UR (b:Nat) (r:Rn) (w:World) (hc:zy w (z1 b) zT) (g:jD w r yk):
  Calls prog 42 #[(z1 b).v,r.v] w fun e p=>e=.returned (.int .i64 0)∧Below w.heap.size w p:=by
 obtain⟨o,j,C⟩:=g.ex;have i:=Zd (z1 b) zT r _ o _ w (show (2:Nat)<=9223372036854775807 by decide) hc j.l;rw[UA (by rw[g.a];decide) (by rw[g.a];decide) g.t g.e g.nv g.nt rfl]at i;exact i
end Go.Proofs.YtplcndmdkabmeaaGreatDoor
