/- A plain operation of a drawn region whose guards and choices are literally decided. Over any program. Conditions: none. | The walk over the law's pictureBegun. Conditions: none. | The walk over the law's runBegun. Conditions: the library's table of powers reads as it is laid. -/
import Derived.Test.YtplcndmdkabmeaaGreatDoorLib
import Derived.Test.YtplcndmdkabmeaaGreatDoorPice
import Derived.Test.YtplcndmdkabmeaaGreatDoorPicd
import Derived.Test.YtplcndmdkabmeaaGreatDoorPicc
import Derived.Test.YtplcndmdkabmeaaGreatDoorRbs
import Derived.Test.YtplcndmdkabmeaaGreatDoorSml
import Derived.Test.YtplcndmdkabmeaaGreatDoorRunLaw0
set_option linter.unusedSimpArgs false
set_option linter.unusedVariables false
set_option maxRecDepth 100000
namespace Go.Proofs.YtplcndmdkabmeaaGreatDoor
open Go.Proofs.Tryz
open Go.RowKit
section
variable {P : Program} {ops : Array Oper} {C : Prop} {t : List Value} {df : List Deferred} {ds : List Nat} {w1 : World} {Rs Rs2 : List (Value -> World -> Prop)} {x : Value} {os : List Oper} {d : Nat} {dr : List Nat} {o : Oper} {xs : List (Nat × Value)}
theorem qdd (h:zw P ops C t df ds w1 Rs2 os dr) (p:Kn Rs ds (zD o) xs:=by exact cKn)
  (hk:∀ g w,Below w1.heap.size w1 w->y8 g xs->wpList P ops (z7 ⟨(zv t ds g).toArray,df⟩ d w (fun v _=>v=x)) [o] ⟨(zv t ds g).toArray,df⟩ w:=by intro g w i q;replace J:=J.grow i;simp only[fD];(try simp only[aG]at q);(try simp only[q]);go_wp2_with (with_reducible first|refine lld J ?_|refine ldD J ?_);exact cY)
  (j:Rs++[fun v _=>v=x]=Rs2:=by exact cHr):zw P ops C t df ds w1 Rs (o::os) (d::dr):=qdv h p hk j
end
set_option maxHeartbeats 4000000
theorem Own.both {B:Nat}{w:World}{R j : List zg}(h:Own B w R) (o : Own B w j) (aa:∀ e∈R,∀ i∈j,e.2.1≠i.2.1):Own B w (R++j):=by
 refine⟨?_,fun e g=>?_⟩
 ·rw[List.map_append,List.nodup_append]
  refine⟨h.nodup,o.nodup,fun a P b U T=>?_⟩;subst T;obtain⟨e,g,ab⟩:=List.mem_map.1 P;obtain⟨i,C,ac⟩:=List.mem_map.1 U;have p:=(h.at' e g).2;have t:=(o.at' i C).2;rw[ab]at p;rw[ac,p]at t;have I:=Option.some.inj t;injection I with _ h4
  exact aa e g i C h4
 ·rcases List.mem_append.1 g with g|g
  ·exact h.at' e g
  ·exact o.at' e g
theorem Own.single {B:Nat}{w:World}{b:Nat}{T:TypeId}{g:List Value}(i:B<=b) (j:w.heap[b]? = some (.cells g.toArray T (0,0))):Own B w [(b,T,g)]:=
 ⟨by simp,fun e o=>by rw[List.mem_singleton.1 o];exact⟨i,j⟩⟩
theorem zek {p:Option Addr}{n cap:Nat}{g:Gu}{R:List zg}(h:zB 108 7 p n cap ([g].flatMap Gu.cells) R):∃ b i,p=some ⟨b,0,none⟩∧n=1∧R=[(b,108,Gu.cells g++i)]:=by
 obtain⟨j,o⟩:=h;have C:n=1:=by simp at j;omega
 rcases o with⟨T,_,_⟩|⟨b,i,I,t,_,_,U,P⟩
 ·omega
 ·subst C
  refine⟨b,i.drop 7,I,rfl,?_⟩;rw[t];have e:i.take 7=Gu.cells g:=by simpa using P
  rw[<- e,List.take_append_drop]
def US (g:World) (d:Pd):Value->World->Prop:=fun v w=>∃ r:Pv,v=.tuple #[r.v,.int .i64 0]∧yd g w r d
theorem US.stable {o:World}{d:Pd}:qC (US o d):=by
 rintro v w p j ⟨r,g,i⟩;exact⟨r,g,i.grow j⟩
def zfy (g:World) (d:Pd):Value->World->Prop:=fun v w=>∃ r:Pv,v=r.v∧yd g w r d
theorem zfy.stable {o:World}{d:Pd}:qC (zfy o d):=by
 rintro v w p j ⟨r,g,i⟩;exact⟨r,g,i.grow j⟩
abbrev qW:Pd:=qM 1 0 2
theorem X0 (b:Nat):cp1 (z1 b) zT qW=0:=rfl
theorem zel (b:Nat):cp2 (z1 b) zT zC qW=0:=rfl
theorem zcg:jM both zC qW=qW:=by
 show zW both qW qW=qW
 exact yn (p:=z1 0) (zS.of (is:=zT) rfl rfl rfl) rfl
theorem Xn:zb1 qW (qc 1):=by
 refine⟨rfl,fun k g=>absurd g (Nat.not_lt_zero k),fun k g=>?_,fun k g=>absurd g (Nat.not_lt_zero k)⟩;obtain rfl:k=0:=by have:k<1:=g;omega
 rfl
theorem UT {w:World}{r:Rn}(h:jD w r (qc 1)):∃ g,Ju w r (qc 1).val g (qc 1).field (qc 1).line∧∀ b,yB (z1 b) zT r (qc 1).val g (qc 1).field=0:=by
 obtain⟨⟨g,C,aa⟩,I,P,R,T,U,ab⟩:=h;refine⟨g,C,fun b=>?_⟩;have t:r.things.n=0:=U;have p:r.vars.n=1:=T;have i:r.at'=0:=I;have j:r.taken=0:=P;have o:r.ending=0:=R;unfold yB yW Zc YQ YR Q6;rw[t,p,i,j,o];rfl
theorem VI.types {x:Pv}{o:List Gu}{gf:List (List Gu)}{p:List Sl}{Rv j i:List zg}(h:VI x o gf p Rv j i):∀ e∈Rv,e.2.1≠54:=by
 intro e g;rcases h.vars.2 with⟨_,_,rfl⟩|⟨C,t,_,rfl,_⟩
 ·cases g
 ·rw[List.mem_singleton.1 g];show 108≠54;decide
abbrev zfz:List Value:=[.bool false,.slice none 0 0,.slice none 0 0]
theorem GL (w:World):
  Calls prog 17 #[] w fun e o=>e=.returned (.bool true)∧Below w.heap.size w o:=by
 have J:=Loc.start w;go_enter func17,ntmps17;go_upto_region 3 with(first|(with_reducible first|refine lld J ?_|((first|refine lbx J ?_|refine lal J ?_|refine lbs J ?_);clear J;intro az p J)|(refine zc J ?_;clear J;intro p J))|(go_at_call 39;refine(j0 _).mono ?_;rintro e ac ⟨aj,rfl,U,ab,t⟩;replace J:=J.gain t U ab;clear U ab t;(try dsimp only))|(go_at_call 49;refine(X5 (z1 aj) zT 1 0 rfl rfl (by decide) (by decide) (show (2:Nat)<=1000 by decide) _ (qY (J.heap cIn)) (jl aj)).mono ?_;rintro e ac ⟨⟨aw,⟨ax,ay,aq⟩,⟨av,au,ar⟩⟩,rfl,aE⟩;replace J:=J.gotP (d:=qW) aE (by decide);clear aE;(try dsimp only))|(go_at_call 41;refine(UJ (z1 aj) zT 1 _ (show (2:Nat)<=9223372036854775807 by decide) (qY (J.heap cIn)) (jl aj) rfl (by decide)).mono ?_;rintro e ac ⟨⟨bc,⟨bn,bm,bl⟩,⟨bk,bj,bi⟩,be,⟨bh,bg,bf⟩,bd⟩,bH,bv,bt,bs,bq,rfl,aH,aK,t⟩;replace J:=J.gainTail t aK;simp only[aX]at J;clear aK t;(try dsimp only)))
 have a6:=aH.is (J.ownOf (by repeat (first|exact List.Sublist.refl _|apply List.Sublist.cons)));obtain⟨bo,aL,aM⟩:=UT a6;have aa:=J.get (S:=fun w=>zq w ⟨aw,⟨ax,ay,aq⟩,⟨av,au,ar⟩⟩ qW) cMm;have a9:=za (fun (j:Nat) o (g:Below p.heap.size p o) (ah:zy o (z1 j) zT)=>(show Calls prog 50 #[(z1 j).v,Pv.v ⟨aw,⟨ax,ay,aq⟩,⟨av,au,ar⟩⟩,Rn.v ⟨bc,⟨bn,bm,bl⟩,⟨bk,bj,bi⟩,be,⟨bh,bg,bf⟩,bd⟩] o fun q I=>q=.returned (.tuple #[.bool true,.int .i64 0])∧Below o.heap.size o I from
  zdW (z1 j) zT _ qW _ (qc 1) bo o (show (2:Nat)<=9223372036854775807 by decide) ah (aa.grow g) ((aL.l).grow g) (a6.grow g) (X0 j) (aM j) (fun _=>Xn)))
 clear a6 aL aM aa aH;obtain⟨a7,aZ⟩:∃ x,x=p:=⟨_,rfl⟩;subst aZ;refine zb [20,21,22,23,19,24,25,5,6] ?_;refine qdn (SmR a7.heap.size) SmR.stable J ?_ ?_
 ·intro i w g J _ q;simp only[fD]
  go_wp2_with (go_at_call 39;refine(j0 _).mono ?_;rintro e ac ⟨j,rfl,U,ab,t⟩;dsimp only);exact⟨rfl,_,rfl,t,j,Nat.le_trans g.size U,rfl,ab⟩
 iterate 2 refine qdv ?_
 refine' j2 J ?_ ?_;rotate_left
 ·intro i w g J y q;simp only[aG]at q;have d0:(SmR a7.heap.size) (i 20) w:=yr y 0;obtain⟨j,-,d0,ai⟩:=d0;clear y;simp only[fD];simp only[q,d0]
  go_wp2_with (go_at_call 50;refine(a9.out j _ g (qY ai)).mono ?_;rintro e ac ⟨rfl,t⟩;dsimp only);exact⟨rfl,_,rfl,t,rfl⟩
 iterate 5 refine qdv ?_
 refine qy J ?_;intro i p g C q;simp only[aG]at q;have P:(SmR a7.heap.size) (i 20) p:=qye C 0;obtain⟨aP,-,P,-⟩:=P;clear C;simp only[fD];simp only[q,P];clear q P;replace J:=J.grow g;clear g;clear a9;go_upto_region 4 with(with_reducible first|refine lld J ?_|((first|refine lbx J ?_|refine lal J ?_|refine lbs J ?_);clear J;intro az p J)|(refine zc J ?_;clear J;intro p J))
 have aa:=J.get (S:=fun w=>zq w ⟨aw,⟨ax,ay,aq⟩,⟨av,au,ar⟩⟩ qW) cMm;have a3:=fun (j:Nat) o (g:Below p.heap.size p o) (ah:zy o (z1 j) zT)=>za4 (z1 j) zT ⟨true,zi,zi⟩ _ zC qW o (show (2:Nat)<=9223372036854775807 by decide) ah ⟨rfl,qR.zero o _ _,j3.zero o _ _,Nat.zero_le _⟩ (aa.grow g) (zel j)
 rw[zcg]at a3;have aA:=za a3;clear aa a3;obtain⟨wr,ba⟩:∃ x,x=p:=⟨_,rfl⟩;subst ba;refine zb [27,28,29,30,26,31,32,7] ?_;refine qdn (SmR wr.heap.size) SmR.stable J ?_ ?_
 ·intro i w g J _ q;simp only[fD]
  go_wp2_with (go_at_call 39;refine(j0 _).mono ?_;rintro e ac ⟨j,rfl,U,ab,t⟩;dsimp only);exact⟨rfl,_,rfl,t,j,Nat.le_trans g.size U,rfl,ab⟩
 iterate 2 refine qdv ?_
 refine qdn (US wr qW) US.stable J ?_ ?_
 ·intro i w g J y q;simp only[aG]at q;have d0:(SmR wr.heap.size) (i 27) w:=yr y 0;obtain⟨j,-,d0,ai⟩:=d0;clear y;simp only[fD];simp only[q,d0]
  go_wp2_with (go_at_call 24;refine(aA.out j _ g (qY ai)).mono ?_;rintro e ac ⟨ae,rfl,T⟩;dsimp only);exact⟨rfl,_,rfl,T.below,ae,rfl,T.since g⟩
 refine qdn (US wr qW) US.stable J ?_ ?_
 ·intro i w g J y q;have d3:(US wr qW) (i 30) w:=yr y 3;obtain⟨ae,d3,T⟩:=d3;clear y;simp only[fD];simp only[d3]
  go_wp2_with (fail);exact⟨rfl,_,rfl,Below.refl _ _,ae,rfl,T⟩
 refine qdn (zfy wr qW) zfy.stable J ?_ ?_
 ·intro i w g J y q;have d4:(US wr qW) (i 26) w:=yr y 4;obtain⟨ae,d4,T⟩:=d4;clear y;simp only[fD];simp only[d4]
  go_wp2_with (fail);exact⟨rfl,_,rfl,Below.refl _ _,ae,rfl,T⟩
 refine' j2 J ?_ ?_;rotate_left
 ·intro i w g J y q;have d4:(US wr qW) (i 26) w:=yr y 4;obtain⟨ae,d4,T⟩:=d4;clear y;simp only[fD];simp only[d4]
  go_wp2;exact cY
 refine qdn (UQ wr.heap.size 54 zfz) UQ.stable J ?_ ?_
 ·intro i w g J _ q;simp only[fD]
  go_wp2_with (fail);exact⟨rfl,_,rfl,(Below.refl _ _).alloc (Nat.le_refl _) _,_,g.size,rfl,jo _ _⟩
 refine de1 6 J ?_ ?_
 ·refine yj rfl rfl ?_;intro i w g y;have d4:(US wr qW) (i 26) w:=yr y 4;obtain⟨ae,d4,T⟩:=d4;clear y;simp only[fD];simp only[d4]
  exact⟨_,.inl ⟨rfl,fun w=>(by go_simp)⟩,rfl⟩
 intro i I g C q;simp only[aG]at q;have P:(SmR wr.heap.size) (i 27) I:=qye C 0;obtain⟨aP,-,P,-⟩:=P;have ad:(US wr qW) (i 30) I:=qye C 3;obtain⟨bF,ad,-⟩:=ad;have ak:(US wr qW) (i 26) I:=qye C 4;obtain⟨bG,ak,-⟩:=ak;have al:(zfy wr qW) (i 31) I:=qye C 5;obtain⟨⟨bA,⟨bD,bC,bB⟩,⟨b9,b8,b7⟩⟩,al,aT⟩:=al;have aF:=J;have aI:=g;have an:(UQ wr.heap.size 54 zfz) (i 7) I:=qye C 7;obtain⟨bw,aN,an,aB⟩:=an;clear C;simp only[fD];simp only[q,P,ad,ak,al,an];clear q P ad ak al an;replace J:=J.grow g;clear g;clear J aA;obtain⟨ao,aR,bE,bu,br,bp,aY,a0,a4⟩:=aT;have a2:zN I ao qW.vars:=(a4.get (S:=zH ao aR qW.vars qW.fields) List.mem_cons_self).1;obtain⟨R,aW⟩:∃ R,ao=[R]:=by
  have:=a2.len
  match ao,this with
  | [R],_=>exact⟨R,rfl⟩
 subst aW;have aJ:R.null=true:=by
  have h:=(a2.at' 0 (by decide)).e;have aS:R=Yx.gu R.s:=h;rw[aS]
 obtain⟨bx,b0,aC,aD,ad⟩:=zek a0.vars;have a5:=(Own.single aN aB).both (a4.own.sub (List.sublist_append_left _ _)) (fun e aU aQ aV=>by rw[List.mem_singleton.1 aU];exact(a0.types aQ aV).symm);rw[ad]at a5;dsimp only at aC aD;subst aC aD ad;have J:=aF.gainOwn aI a5;obtain⟨b4,⟨b6,b3,b2⟩,gt,b1,⟨b5,gk,gc⟩⟩:=R;dsimp only at aJ;subst aJ;clear aF aI a5 aN aB a4 a0 a2 aY;simp only[aX]at J;go_upto_region 5 with(with_reducible first|refine lld J ?_|((first|refine lbx J ?_|refine lal J ?_|refine lbs J ?_);clear J;intro az p J)|(refine zc J ?_;clear J;intro p J))
 have aa:=J.get (S:=fun w=>zq w ⟨aw,⟨ax,ay,aq⟩,⟨av,au,ar⟩⟩ qW) cMm;have a1:=fun (j:Nat) o (g:Below p.heap.size p o) (ah:zy o (z1 j) zT)=>Xf (z1 j) zT _ qW o (show (2:Nat)<=9223372036854775807 by decide) ah (aa.grow g)
 simp only[X0]at a1;have aO:=za a1;clear aa a1;obtain⟨a8,bb⟩:∃ x,x=p:=⟨_,rfl⟩;subst bb;refine zb [33,34,35,36,37,38,39,40,41,42,43,44,45,46,47,48,49,50,51,52,53,54,55,56,57,58,59,60,61,62,63,64,65,66,67,68,0] ?_
 iterate 18 refine qdd ?_
 refine qdn (SmR a8.heap.size) SmR.stable J ?_ ?_
 ·intro i w g J _ q;simp only[aG]at q;simp only[fD];simp only[q]
  go_wp2_with (go_at_call 39;refine(j0 _).mono ?_;rintro e ac ⟨j,rfl,U,ab,t⟩;dsimp only);exact⟨rfl,_,rfl,t,j,Nat.le_trans g.size U,rfl,ab⟩
 refine qdd ?_;refine' j2 J ?_ ?_;rotate_left
 ·intro i w g J y q;simp only[aG]at q;have d18:(SmR a8.heap.size) (i 51) w:=yr y 18;have af:=Exists.choose_spec d18;generalize Exists.choose d18=j at af;have ai:=af.2.2;replace d18:=af.2.1;clear y;simp only[fD];simp only[q,d18]
  go_wp2_with (go_at_call 51;refine(aO.out j _ g (qY ai)).mono ?_;rintro e ac ⟨rfl,t⟩;dsimp only);exact⟨rfl,_,rfl,t,rfl⟩
 iterate 16 refine qdd ?_
 refine qy J ?_;intro i I g C q;simp only[aG]at q;have ag:(SmR a8.heap.size) (i 51) I:=qye C 18;have af:=Exists.choose_spec ag;generalize Exists.choose ag=bz at af;replace ag:=af.2.1;clear C;simp only[fD];simp only[q,ag];clear q ag;replace J:=J.grow g;clear g;go_wp2_with (with_reducible first|refine lld J ?_|((first|refine lbx J ?_|refine lal J ?_|refine lbs J ?_);clear J;intro az p J)|(refine zc J ?_;clear J;intro p J))
 (try simp only[Exit.inBlock,Exit.then]);refine rt1 ?_
 exact⟨rfl,J.below⟩
set_option maxHeartbeats 4000000
theorem Own.join {B:Nat}{w:World}{R j : List zg}(h:Own B w R) (o : Own B w j) (aa:∀ e∈R,∀ i∈j,e.2.1≠i.2.1):Own B w (R++j):=by
 refine⟨?_,fun e g=>?_⟩
 ·rw[List.map_append,List.nodup_append]
  refine⟨h.nodup,o.nodup,fun a P b U T=>?_⟩;subst T;obtain⟨e,g,ab⟩:=List.mem_map.1 P;obtain⟨i,C,ac⟩:=List.mem_map.1 U;have p:=(h.at' e g).2;have t:=(o.at' i C).2;rw[ab]at p;rw[ac,p]at t;have I:=Option.some.inj t;injection I with _ h4
  exact aa e g i C h4
 ·rcases List.mem_append.1 g with g|g
  ·exact h.at' e g
  ·exact o.at' e g
theorem Own.one {B:Nat}{w:World}{b:Nat}{T:TypeId}{g:List Value}(i:B<=b) (j:w.heap[b]? = some (.cells g.toArray T (0,0))):Own B w [(b,T,g)]:=
 ⟨by simp,fun e o=>by rw[List.mem_singleton.1 o];exact⟨i,j⟩⟩
theorem zB.typesE {E:TypeId}{size:Nat}{p:Option Addr}{n cap:Nat}{xs:List Value}{R:List zg}(h:zB E size p n cap xs R):∀ e∈R,e.2.1=E:=by
 rcases h.2 with⟨_,_,rfl⟩|⟨j,i,_,rfl,_⟩
 ·intro e g;cases g
 ·intro e g;rw[List.mem_singleton.1 g]
theorem yh.types {j:List Th}{i:List (Int × List Vl)}{R:List zg}(h:yh j i R):∀ e∈R,e.2.1=77:=by
 induction h with
 | nil=>intro e g;cases g
 | cons h hs ih=>
  intro e g;rcases List.mem_append.1 g with g|g
  ·exact h.typesE e g
  ·exact ih e g
theorem yE.types {r:Rn}{s:Rs}{p:List Th}{Rv o j i:List zg}(h:yE r s p Rv o j i):∀ e∈Rv++(o++(j++i)),e.2.1≠46:=by
 intro e g;simp only[List.mem_append]at g;rcases g with g|g|g|g
 ·rw[h.vars.typesE e g];decide
 ·rw[h.things.typesE e g];decide
 ·rw[h.lines.typesE e g];decide
 ·rw[h.fields.types e g];decide
theorem zfA {E:TypeId}{p:Option Addr}{n cap:Nat}{x:Value}{R:List zg}(h:zB E 1 p n cap [x] R):∃ i g,p=some ⟨i,0,none⟩∧n=1∧R=[(i,E,x::g)]:=by
 obtain⟨o,t⟩:=h;have I:n=1:=by simpa using o.symm
 rcases t with⟨T,_,_⟩|⟨i,g,P,C,_,_,U,j⟩
 ·omega
 ·subst I
  cases g with
  | nil=>simp at j
  | cons c g=>
   simp at j;subst j;exact⟨i,g,P,rfl,C⟩
abbrev zfB:List Value:=[.int .i64 0,.slice none 0 0,.slice none 0 0,.int .i64 0,.slice none 0 0,.int .i64 0]
def UU (B:Nat) (s:Rs):Value->World->Prop:=fun v w=>∃ r p o j i g,v=.tuple #[Rn.v r,.int .i64 0]∧yE r s p o j i g∧Own B w (o++(j++(i++g)))
theorem UU.stable {B:Nat}{s:Rs}:qC (UU B s):=by
 rintro v w R I ⟨r,P,o,j,i,g,p,t,C⟩;exact⟨r,P,o,j,i,g,p,t,C.grow I⟩
theorem GM (w:World) (a8:ZO w):
  Calls prog 12 #[] w fun e aU=>e=.returned (.bool true)∧Below w.heap.size w aU:=by
 have aw:=za a8;clear a8;have J:=Loc.start w;go_enter func12,ntmps12;go_upto_region 3 with(first|(with_reducible first|refine lld J ?_|((first|refine lbx J ?_|refine lal J ?_|refine lbs J ?_);clear J;intro ay ac J)|(refine zc J ?_;clear J;intro ac J))|(go_at_call 39;refine(j0 _).mono ?_;rintro e aj ⟨al,rfl,ag,ah,p⟩;replace J:=J.gain p ag ah;clear ag ah p;(try dsimp only))|(go_at_call 15;refine(zdT (z1 al) zT Gw (fun _=>0) 10 1 _ (show (2:Nat)<=9223372036854775807 by decide) (qY (J.heap cIn)) (jl al) (YL _) (aw.out.grow J.below) rfl (by decide) (by decide)).mono ?_;rintro e aj ⟨⟨bm,bp,bo,bn,⟨bl,bk,bj⟩,aL⟩,R,P,I,C,t,rfl,o,a4,p⟩;rw[XN]at o;simp only[XN];obtain⟨bi,bh,a0,T,af⟩:=zfA o.lines;dsimp only at a0 T;obtain rfl:=(show aL=1 from o.e);subst a0 T af;replace J:=J.gainTail p (a4.sub (((List.sublist_append_left _ _).trans (List.sublist_append_right _ _)).trans (List.sublist_append_right _ _)));simp only[aX]at J;clear o a4 p;(try dsimp only))|(go_at_call 41;refine(UJ (z1 al) zT 1 _ (show (2:Nat)<=9223372036854775807 by decide) (qY (J.heap cIn)) (jl al) rfl (by decide)).mono ?_;rintro e aj ⟨⟨aJ,aS,rt2,aO,aQ,aM⟩,bs,bc,ba,aY,aV,rfl,a2,a5,p⟩;replace J:=J.gainTail p a5;simp only[aX]at J;clear a5 p;(try dsimp only)))
 have av:=za (a2.is (J.ownOf (by repeat (first|exact List.Sublist.refl _|apply List.Sublist.cons))));clear a2;obtain⟨j,aH⟩:∃ x,x=ac:=⟨_,rfl⟩;subst aH;refine zb [20,21,22,19,23,24,6] ?_;refine qdn (SmR j.heap.size) SmR.stable J ?_ ?_
 ·intro g w i J _ q;simp only[fD]
  go_wp2_with (go_at_call 39;refine(j0 _).mono ?_;rintro e aj ⟨ae,rfl,ag,ah,p⟩;dsimp only);exact⟨rfl,_,rfl,p,ae,Nat.le_trans i.size ag,rfl,ah⟩
 refine qdv ?_;refine qdn (UU j.heap.size yk) UU.stable J ?_ ?_
 ·intro g w i J y q;simp only[aG]at q;have d0:(SmR j.heap.size) (g 20) w:=yr y 0;obtain⟨ae,-,d0,au⟩:=d0;clear y;simp only[fD];simp only[q,d0]
  go_wp2_with (go_at_call 27;refine(Vu ae ⟨aJ,aS,rt2,aO,aQ,aM⟩ _ (qY au) (av.out.grow i) (aw.out.grow J.below)).mono ?_;rintro e aj ⟨ab,R,P,I,C,t,rfl,U,aa,aD⟩;dsimp only);exact⟨rfl,_,rfl,aD,ab,R,P,I,C,t,rfl,U,aa.mono i.size⟩
 refine qdn (UU j.heap.size yk) UU.stable J ?_ ?_
 ·intro g w i J y q;have d2:(UU j.heap.size yk) (g 22) w:=yr y 2;obtain⟨ab,R,P,I,C,t,d2,U,aa⟩:=d2;clear y;simp only[fD];simp only[d2]
  go_wp2_with (fail);exact⟨rfl,_,rfl,Below.refl _ _,ab,R,P,I,C,t,rfl,U,aa⟩
 refine qdn (Zz j.heap.size yk) Zz.stable J ?_ ?_
 ·intro g w i J y q;have d3:(UU j.heap.size yk) (g 19) w:=yr y 3;obtain⟨ab,R,P,I,C,t,d3,U,aa⟩:=d3;clear y;simp only[fD];simp only[d3]
  go_wp2_with (fail);exact⟨rfl,_,rfl,Below.refl _ _,ab,R,P,I,C,t,rfl,U,aa⟩
 refine' j2 J ?_ ?_;rotate_left
 ·intro g w i J y q;have d3:(UU j.heap.size yk) (g 19) w:=yr y 3;obtain⟨ab,R,P,I,C,t,d3,U,aa⟩:=d3;clear y;simp only[fD];simp only[d3]
  go_wp2;exact cY
 refine qdn (UQ j.heap.size 46 zfB) UQ.stable J ?_ ?_
 ·intro g w i J _ q;simp only[fD]
  go_wp2_with (fail);exact⟨rfl,_,rfl,(Below.refl _ _).alloc (Nat.le_refl _) _,_,i.size,rfl,jo _ _⟩
 refine de1 5 J ?_ ?_
 ·refine yj rfl rfl ?_;intro g w i y;have d3:(UU j.heap.size yk) (g 19) w:=yr y 3;obtain⟨ab,R,P,I,C,t,d3,U,aa⟩:=d3;clear y;simp only[fD];simp only[d3]
  exact⟨_,.inl ⟨rfl,fun w=>(by go_simp)⟩,rfl⟩
 intro g ad i o q;simp only[aG]at q;have an:(SmR j.heap.size) (g 20) ad:=qye o 0;obtain⟨bf,-,an,-⟩:=an;have T:(UU j.heap.size yk) (g 22) ad:=qye o 2;obtain⟨bq,-,-,-,-,-,T,-,-⟩:=T;have af:(UU j.heap.size yk) (g 19) ad:=qye o 3;obtain⟨br,-,-,-,-,-,af,-,-⟩:=af;have ao:(Zz j.heap.size yk) (g 23) ad:=qye o 4;obtain⟨⟨aK,aT,rt3,aP,aR,aN⟩,bt,bd,bb,aZ,aW,ao,ar,a6⟩:=ao;have a1:=J;have a3:=i;have aq:(UQ j.heap.size 46 zfB) (g 6) ad:=qye o 6;obtain⟨be,a9,aq,az⟩:=aq;clear o;simp only[fD];simp only[q,an,T,af,ao,aq];clear q an T af ao aq;replace J:=J.grow i;clear i;have a7:=(Own.one a9 az).join a6 (fun e aE aB aF=>by rw[List.mem_singleton.1 aE];exact(ar.types aB aF).symm);replace J:=(a1.gainOwn a3 a7).perm (List.Perm.cons _ List.perm_append_comm);clear a1 a3 a7 a6 a9 az;have ax:=za ar;have aC:aK=1:=ar.a;subst aC;clear ar;simp only[aX]at J;go_upto_region 4 with(with_reducible first|refine lld J ?_|((first|refine lbx J ?_|refine lal J ?_|refine lbs J ?_);clear J;intro ay ac J)|(refine zc J ?_;clear J;intro ac J))
 have aA:=za (ax.out.is (J.ownOf (by repeat (first|exact List.Sublist.refl _|exact List.sublist_append_right _ _|apply List.Sublist.cons))));clear av ax;obtain⟨wr,aI⟩:∃ x,x=ac:=⟨_,rfl⟩;subst aI;refine zb [25,26,27,28,29,30,31,32,33,34,35,36,37,38,39,40,41,42,43,44,45,46,47,48,49,50,51,52,53,54,55,56,57,58,59,60,61,62,63,64,65,66,67,0] ?_
 iterate 38 refine qdd ?_
 refine qdn (SmR wr.heap.size) SmR.stable J ?_ ?_
 ·intro g w i J _ q;simp only[aG]at q;simp only[fD];simp only[q]
  go_wp2_with (go_at_call 39;refine(j0 _).mono ?_;rintro e aj ⟨ae,rfl,ag,ah,p⟩;dsimp only);exact⟨rfl,_,rfl,p,ae,Nat.le_trans i.size ag,rfl,ah⟩
 refine qdd ?_;refine' j2 J ?_ ?_;rotate_left
 ·intro g w i J y q;simp only[aG]at q;have d38:(SmR wr.heap.size) (g 63) w:=yr y 38;have ai:=Exists.choose_spec d38;generalize Exists.choose d38=ae at ai;have au:=ai.2.2;replace d38:=ai.2.1;clear y;simp only[fD];simp only[q,d38]
  go_wp2_with (go_at_call 42;refine(UR _ ⟨1,aT,rt3,aP,aR,aN⟩ _ (qY au) (aA.out.grow i)).mono ?_;rintro e aj ⟨rfl,p⟩;dsimp only);exact⟨rfl,_,rfl,p,rfl⟩
 iterate 3 refine qdd ?_
 refine qy J ?_;intro g ad i o q;simp only[aG]at q;have ak:(SmR wr.heap.size) (g 63) ad:=qye o 38;have ai:=Exists.choose_spec ak;generalize Exists.choose ak=bg at ai;replace ak:=ai.2.1;clear o;simp only[fD];simp only[q,ak];clear q ak;replace J:=J.grow i;clear i;go_wp2_with (with_reducible first|refine lld J ?_|((first|refine lbx J ?_|refine lal J ?_|refine lbs J ?_);clear J;intro ay ac J)|(refine zc J ?_;clear J;intro ac J))
 (try simp only[Exit.inBlock,Exit.then]);refine rt1 ?_
 exact⟨rfl,J.below⟩
end Go.Proofs.YtplcndmdkabmeaaGreatDoor
