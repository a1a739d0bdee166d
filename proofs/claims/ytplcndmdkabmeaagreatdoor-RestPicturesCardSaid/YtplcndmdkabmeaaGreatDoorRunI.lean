/- The machine of package run in memory; its methods over and set. Conditions: the indexes that a right program has. | The walk over the machine's count. Conditions: the indexes and numbers that a right program and a right run have. -/
import Derived.Test.YtplcndmdkabmeaaGreatDoorRunG
import Derived.Test.YtplcndmdkabmeaaGreatDoorEnd0
import Derived.Test.YtplcndmdkabmeaaGreatDoorLib
set_option linter.unusedSimpArgs false
set_option linter.unusedVariables false
set_option maxRecDepth 100000
set_option maxHeartbeats 1600000
namespace Go.Proofs.YtplcndmdkabmeaaGreatDoor
open Go.Proofs.Tryz
open Go.RowKit
abbrev q8 (p:Pg) (r:Rn) (ins:Sl):List Value:=[.int .i64 p.vars,.int .i64 p.fields,.slice p.pc p.n p.cap,.int .i64 r.at',.slice r.vars.p r.vars.n r.vars.cap,.slice r.things.p r.things.n r.things.cap,.int .i64 r.taken,.slice r.lines.p r.lines.n r.lines.cap,.int .i64 r.ending,.slice ins.p ins.n ins.cap]
def zY (w0:World) (bm:Nat) (p:Pg) (ins:Sl) (s:Rs) (w:World):Prop:=
 ∃ r t o j i g,yE r s t o j i g∧Loc w0 w ((bm,100,q8 p r ins)::(o++(j++(i++g)))) []
theorem Qt (w0:World) (bm:Nat) (p:Pg) (ins:Sl) (s:Rs) (k:Int) (w:World) (h:zY w0 bm p ins s w):
  Calls prog 48 #[.pointer (some ⟨bm,0,none⟩),.int .i64 k] w fun e ah=>e=.returned (.tuple #[])∧zY w0 bm p ins { s with ending:=k } ah:=by
 obtain⟨r,ag,C,t,o,j,g,J⟩:=h;have i:=za g;clear g;obtain⟨ab,af,ae,ac,ad,aj⟩:=r;go_enter func48,ntmps48;go_wp2_with (with_reducible refine zc J ?_;clear J;intro ak J)
 (try simp only[Exit.inBlock,Exit.then]);(first|refine qv rfl rfl ?_|refine qw rfl rfl ?_)
 obtain⟨I,P,R,T,U,aa,ai⟩:=i.out;exact⟨rfl,⟨ab,af,ae,ac,ad,k⟩,ag,C,t,o,j,⟨I,P,R,T,U,aa,rfl⟩,J⟩
def Rs.set (s:Rs) (k:Nat) (v:Vl):Rs:={ s with vars:=s.vars.set k v,at':=s.at' + 1 }
theorem j6 (w0:World) (bm:Nat) (p:Pg) (ins:Sl) (s:Rs) (k:Nat) (v:Vl) (w:World) (h:zY w0 bm p ins s w) (hk:k<s.vars.length) (ha:0<=s.at'∧s.at'<=1000000):
  Calls prog 88 #[.pointer (some ⟨bm,0,none⟩),.int .i64 k,v.v] w fun e R=>e=.returned (.tuple #[])∧zY w0 bm p ins (s.set k v) R:=by
 obtain⟨r,av,az,ac,ab,aa,g,J⟩:=h;have al:=g.vars.flatlen jc (by decide);have aj:=g.a;obtain⟨o,j,I,rfl,an,C⟩:=g.vars.block (by omega);simp only[aX]at J;have i:=g.vars.put jc dV (k:=k) (by omega) v;have hk:k<r.vars.n:=by omega
 have ak:=g.vars.fits;have T:=za (And.intro g i);have t:0<=r.at'∧r.at'<=1000000:=by omega
 have U:=za (show k*2+v.cells.length<=j.length by show k*2+2<=_;rw[C];omega);clear g i al aj an C ak ha;obtain⟨P,⟨a4,ax,aw⟩,au,aq,ar,ao⟩:=r;dsimp only at I hk t;subst I;obtain⟨a2,a3⟩:=t;go_enter func88,ntmps88;go_upto_region 1 with(with_reducible refine lbx J ?_;clear J;intro a0 ay J)
 refine zb [6,7,8,9,10,11,12,13] ?_
 iterate 8 refine qdv ?_
 refine dnd J ?_;clear J;intro a5 J;simp only[zr,sTa,sTb];go_wp2_with (first|(refine zR (b:=o) (off:=k*2) (vs:=v.cells) (cs':=zj j (k*2) v.cells) J rfl rfl cIn rfl jk.sz rfl U.out rfl ?_;clear J;intro R J)|(with_reducible first|refine lld J ?_|(refine zc J ?_;clear J;intro ay J)))
 (try simp only[Exit.inBlock,Exit.then]);(first|refine qv rfl rfl ?_|refine qw rfl rfl ?_)
 obtain⟨⟨a1,ad,ae,af,ag,ah,ai⟩,i⟩:=T.out;refine⟨rfl,⟨P+1,⟨some ⟨o,0,none⟩,ax,aw⟩,au,aq,ar,ao⟩,av,[(o,77,zj j (k*2) v.cells)],ac,ab,aa,⟨i,ad,ae,af,?_,ah,ai⟩,J.drop (List.sublist_cons_self _ _) (fun _ h=>h)⟩;show P+1=s.at' + 1
 rw[<- ag]
set_option maxHeartbeats 4000000
theorem zeY {a b:Int}(ha:-2147483648<=a∧a<=2147483647) (hb:-2147483648<=b∧b<=2147483647):-4611686018427387904<=a*b∧a*b<=4611686018427387904:=by
 have h:(a*b).natAbs<=2147483648*2147483648:=by
  rw[Int.natAbs_mul];exact Nat.mul_le_mul (by omega) (by omega)
 generalize a*b=x at h ⊢;omega
theorem K4 {x:Int}(h:-4611686018427387904<=x∧x<=4611686018427387904):wrap64 (wrap32 (wrap64 x))=wrap32 x:=by
 rw[Go.IntWalk.wrap64_in x (by omega),Go.IntWalk.wrap64_in];unfold wrap32;omega
def zc3 (k x y:Int):Int:=if k=5 then x+y else if k=6 then x - y else x*y
def jU (kind:Int) (t a b:Nat) (s:Rs):Rs:=
 if (s.val a).kind=1∧(s.val b).kind=1 then
  if kind=8 then s.set t (jW (decide ((s.val a).n<(s.val b).n))) else s.set t ⟨1,wrap32 (zc3 kind (s.val a).n (s.val b).n)⟩
 else { s with ending:=2 }
def yA (n:Int):Prop:=-2147483648<=n∧n<=2147483647
theorem Z1 (w0:World) (bm:Nat) (p:Pg) (ins:Sl) (s:Rs) (i:Ins) (t a b:Nat) (w:World) (h:zY w0 bm p ins s w) (hi:i.to=t∧i.a=a∧i.b=b) (ht:t<s.vars.length) (ha:a<s.vars.length) (hb:b<s.vars.length)
  (hk:i.kind=5∨i.kind=6∨i.kind=7∨i.kind=8) (aY:0<=s.at'∧s.at'<=1000000) (aq:(s.val a).kind=1->yA (s.val a).n) (ar:(s.val b).kind=1->yA (s.val b).n):
  Calls prog 90 #[.pointer (some ⟨bm,0,none⟩),i.v] w fun e bq=>e=.returned (.tuple #[])∧zY w0 bm p ins (jU i.kind t a b s) bq:=by
 obtain⟨r,au,br,al,ak,aj,ao,J⟩:=h;have bl:=ao.vars.flatlen jc (by decide);obtain⟨P,af,bd,rfl,bn,bk⟩:=ao.vars.block (by omega);simp only[aX]at J;have bb:=ao.vars.elem jc dV (k:=a) (by omega);have bc:=ao.vars.elem jc dV (k:=b) (by omega);obtain⟨aa,az⟩:∃ x,x=s.val a:=⟨_,rfl⟩;obtain⟨ab,a0⟩:∃ x,x=s.val b:=⟨_,rfl⟩;have aO:=za (show zn prog 77 af (a*2) aa.v by rw[az];exact zn.agg jk bb rfl);have aP:=za (show zn prog 77 af (b*2) ab.v by rw[a0];exact zn.agg jk bc rfl);rw[<- az]at aq;rw[<- a0]at ar;have ai:=za ao;have bi:a<r.vars.n:=by omega
 have bj:b<r.vars.n:=by omega
 have ad:=za (And.intro ht aY);have ac:=za (And.intro az a0);have a1:=za hk;obtain⟨kind,to,bs,bt,num,goto⟩:=i;obtain⟨rfl,rfl,rfl⟩:=hi;clear ao bb bc bl bn bk ht ha hb aY hk az a0;obtain⟨bu,⟨b0,ah,ag⟩,bz,bw,bx,bv⟩:=r;dsimp only at bd bi bj;subst bd;go_enter func90,ntmps90;go_upto_region 1 with(with_reducible refine lbx J ?_;clear J;intro ae b1 J)
 refine zdG (xs:=[(0,7,.pointer (some ⟨bm,0,none⟩)),(1,8,.pointer (some ⟨bm,0,none⟩)),(2,9,.pointer (some ⟨bm,3,none⟩)),(3,10,.pointer (some ⟨bm,4,none⟩)),(4,11,.slice (some ⟨P,0,none⟩) ah ag),(5,12,.pointer (some ⟨ae,2,none⟩)),(6,13,.int .i64 (a:Int)),(7,14,.pointer (some ⟨P,a*2,none⟩)),(8,15,aa.v),(9,16,.pointer (some ⟨bm,0,none⟩)),(10,17,.pointer (some ⟨bm,0,none⟩)),(11,18,.pointer (some ⟨bm,3,none⟩)),(12,19,.pointer (some ⟨bm,4,none⟩)),(13,20,.slice (some ⟨P,0,none⟩) ah ag),(14,21,.pointer (some ⟨ae,3,none⟩)),(15,22,.int .i64 (b:Int)),(16,23,.pointer (some ⟨P,b*2,none⟩)),(17,24,ab.v)]) (vs:=[⟨18,20,4,77,[.int .i64 0,.int .i64 0],aa.cells⟩,⟨19,21,5,77,[.int .i64 0,.int .i64 0],ab.cells⟩]) [7,8,9,10,11,12,13,14,15,16,17,18,19,20,21,22,23,24,4,5] (by kernel_rfl) ⟨?_,?_,?_,?_,?_,?_,?_,?_,?_,?_,?_,?_,?_,?_,?_,?_,?_,?_,?_,?_,?_,?_,trivial⟩ (by kernel_rfl) (by kernel_rfl) (by kernel_rfl) ?_
 ·intro hk l I w C hi g o j u
  replace J:=J.grow g.below;refine jt (d:=7) (x:=.pointer (some ⟨bm,0,none⟩)) hk cMm g j ?_;clear u g o C;simp only[fD];go_wp2;exact cY
 ·intro hk l I w C hi g o j u
  replace J:=J.grow g.below;have d0:=g.vals (0,7,.pointer (some ⟨bm,0,none⟩)) cMm (u 0 (by decide));dsimp only at d0;refine jt (d:=8) (x:=.pointer (some ⟨bm,0,none⟩)) hk cMm g j ?_;clear u g o C;simp only[fD];simp only[d0];go_wp2;exact cY
 ·intro hk l I w C hi g o j u
  replace J:=J.grow g.below;have d1:=g.vals (1,8,.pointer (some ⟨bm,0,none⟩)) cMm (u 1 (by decide));dsimp only at d1;refine jt (d:=9) (x:=.pointer (some ⟨bm,3,none⟩)) hk cMm g j ?_;clear u g o C;simp only[fD];simp only[d1];go_wp2;exact cY
 ·intro hk l I w C hi g o j u
  replace J:=J.grow g.below;have d2:=g.vals (2,9,.pointer (some ⟨bm,3,none⟩)) cMm (u 2 (by decide));dsimp only at d2;refine jt (d:=10) (x:=.pointer (some ⟨bm,4,none⟩)) hk cMm g j ?_;clear u g o C;simp only[fD];simp only[d2];go_wp2;exact cY
 ·intro hk l I w C hi g o j u
  replace J:=J.grow g.below;have d3:=g.vals (3,10,.pointer (some ⟨bm,4,none⟩)) cMm (u 3 (by decide));dsimp only at d3;refine jt (d:=11) (x:=.slice (some ⟨P,0,none⟩) ah ag) hk cMm g j ?_;clear u g o C;simp only[fD];simp only[d3];go_wp2_with (with_reducible first|refine lld J ?_|refine ldD J ?_);exact cY
 ·intro hk l I w C hi g o j u
  replace J:=J.grow g.below;refine jt (d:=12) (x:=.pointer (some ⟨ae,2,none⟩)) hk cMm g j ?_;clear u g o C;simp only[fD];go_wp2;exact cY
 ·intro hk l I w C hi g o j u
  replace J:=J.grow g.below;have d5:=g.vals (5,12,.pointer (some ⟨ae,2,none⟩)) cMm (u 5 (by decide));dsimp only at d5;refine jt (d:=13) (x:=.int .i64 (a:Int)) hk cMm g j ?_;clear u g o C;simp only[fD];simp only[d5];go_wp2_with (with_reducible first|refine lld J ?_|refine ldD J ?_);exact cY
 ·intro hk l I w C hi g o j u
  replace J:=J.grow g.below;have d4:=g.vals (4,11,.slice (some ⟨P,0,none⟩) ah ag) cMm (u 4 (by decide));dsimp only at d4;have d6:=g.vals (6,13,.int .i64 (a:Int)) cMm (u 6 (by decide));dsimp only at d6;refine jt (d:=14) (x:=.pointer (some ⟨P,a*2,none⟩)) hk cMm g j ?_;clear u g o C;simp only[fD];simp only[d4,d6];go_wp2;exact cY
 ·intro hk l I w C hi g o j u
  replace J:=J.grow g.below;have d7:=g.vals (7,14,.pointer (some ⟨P,a*2,none⟩)) cMm (u 7 (by decide));dsimp only at d7;refine jt (d:=15) (x:=aa.v) hk cMm g j ?_;clear u g o C;simp only[fD];simp only[d7];refine ya J rfl rfl cIn aO.out ?_;exact cY
 ·intro hk l I w C hi g o j u
  replace J:=J.grow g.below;refine jt (d:=16) (x:=.pointer (some ⟨bm,0,none⟩)) hk cMm g j ?_;clear u g o C;simp only[fD];go_wp2;exact cY
 ·intro hk l I w C hi g o j u
  replace J:=J.grow g.below;have d9:=g.vals (9,16,.pointer (some ⟨bm,0,none⟩)) cMm (u 9 (by decide));dsimp only at d9;refine jt (d:=17) (x:=.pointer (some ⟨bm,0,none⟩)) hk cMm g j ?_;clear u g o C;simp only[fD];simp only[d9];go_wp2;exact cY
 ·intro hk l I w C hi g o j u
  replace J:=J.grow g.below;have d10:=g.vals (10,17,.pointer (some ⟨bm,0,none⟩)) cMm (u 10 (by decide));dsimp only at d10;refine jt (d:=18) (x:=.pointer (some ⟨bm,3,none⟩)) hk cMm g j ?_;clear u g o C;simp only[fD];simp only[d10];go_wp2;exact cY
 ·intro hk l I w C hi g o j u
  replace J:=J.grow g.below;have d11:=g.vals (11,18,.pointer (some ⟨bm,3,none⟩)) cMm (u 11 (by decide));dsimp only at d11;refine jt (d:=19) (x:=.pointer (some ⟨bm,4,none⟩)) hk cMm g j ?_;clear u g o C;simp only[fD];simp only[d11];go_wp2;exact cY
 ·intro hk l I w C hi g o j u
  replace J:=J.grow g.below;have d12:=g.vals (12,19,.pointer (some ⟨bm,4,none⟩)) cMm (u 12 (by decide));dsimp only at d12;refine jt (d:=20) (x:=.slice (some ⟨P,0,none⟩) ah ag) hk cMm g j ?_;clear u g o C;simp only[fD];simp only[d12];go_wp2_with (with_reducible first|refine lld J ?_|refine ldD J ?_);exact cY
 ·intro hk l I w C hi g o j u
  replace J:=J.grow g.below;refine jt (d:=21) (x:=.pointer (some ⟨ae,3,none⟩)) hk cMm g j ?_;clear u g o C;simp only[fD];go_wp2;exact cY
 ·intro hk l I w C hi g o j u
  replace J:=J.grow g.below;have d14:=g.vals (14,21,.pointer (some ⟨ae,3,none⟩)) cMm (u 14 (by decide));dsimp only at d14;refine jt (d:=22) (x:=.int .i64 (b:Int)) hk cMm g j ?_;clear u g o C;simp only[fD];simp only[d14];go_wp2_with (with_reducible first|refine lld J ?_|refine ldD J ?_);exact cY
 ·intro hk l I w C hi g o j u
  replace J:=J.grow g.below;have d13:=g.vals (13,20,.slice (some ⟨P,0,none⟩) ah ag) cMm (u 13 (by decide));dsimp only at d13;have d15:=g.vals (15,22,.int .i64 (b:Int)) cMm (u 15 (by decide));dsimp only at d15;refine jt (d:=23) (x:=.pointer (some ⟨P,b*2,none⟩)) hk cMm g j ?_;clear u g o C;simp only[fD];simp only[d13,d15];go_wp2;exact cY
 ·intro hk l I w C hi g o j u
  replace J:=J.grow g.below;have d16:=g.vals (16,23,.pointer (some ⟨P,b*2,none⟩)) cMm (u 16 (by decide));dsimp only at d16;refine jt (d:=24) (x:=ab.v) hk cMm g j ?_;clear u g o C;simp only[fD];simp only[d16];refine ya J rfl rfl cIn aP.out ?_;exact cY
 ·intro hk l I w C hi g o j u
  refine zc0 (v:=⟨18,20,4,77,[.int .i64 0,.int .i64 0],aa.cells⟩) hk cMm zcE g ?_ hi;cases h:lst l 20 with
  | false=>rfl
  | true=>have:=o ⟨18,20,4,77,[.int .i64 0,.int .i64 0],aa.cells⟩ cMm h;unfold lst at this;rw[getD_both j]at this;cases this
 ·intro hk l I w C hi g o j u
  refine zc0 (v:=⟨19,21,5,77,[.int .i64 0,.int .i64 0],ab.cells⟩) hk cMm zcE g ?_ hi;cases h:lst l 21 with
  | false=>rfl
  | true=>have:=o ⟨19,21,5,77,[.int .i64 0,.int .i64 0],ab.cells⟩ cMm h;unfold lst at this;rw[getD_both j]at this;cases this
 ·intro hk l I w C hi g o j u
  have d8:=g.vals (8,15,aa.v) cMm (u 8 (by decide));dsimp only at d8;refine zc1 (v:=⟨18,20,4,77,[.int .i64 0,.int .i64 0],aa.cells⟩) hk cMm g (getD_both j) hi (u 18 (by decide)) (by simp) jk.sz rfl rfl ?_;simp only[fD];simp only[Act.eval,Array.getD_eq_getD_getElem?,List.getElem?_toArray,List.getElem?_cons_zero,List.getElem?_cons_succ,Option.getD_some,d8]
  try rfl
 ·intro hk l I w C hi g o j u
  have d17:=g.vals (17,24,ab.v) cMm (u 17 (by decide));dsimp only at d17;refine zc1 (v:=⟨19,21,5,77,[.int .i64 0,.int .i64 0],ab.cells⟩) hk cMm g (getD_both j) hi (u 19 (by decide)) (by simp) jk.sz rfl rfl ?_;simp only[fD];simp only[Act.eval,Array.getD_eq_getD_getElem?,List.getElem?_toArray,List.getElem?_cons_zero,List.getElem?_cons_succ,Option.getD_some,d17]
  try rfl
 intro I b2 hb T aM aW;have a2:=T (0,7,.pointer (some ⟨bm,0,none⟩)) cMm (by simp);have a3:=T (1,8,.pointer (some ⟨bm,0,none⟩)) cMm (by simp);have aC:=T (2,9,.pointer (some ⟨bm,3,none⟩)) cMm (by simp);have aD:=T (3,10,.pointer (some ⟨bm,4,none⟩)) cMm (by simp);have aE:=T (4,11,.slice (some ⟨P,0,none⟩) ah ag) cMm (by simp);have aF:=T (5,12,.pointer (some ⟨ae,2,none⟩)) cMm (by simp);have aH:=T (6,13,.int .i64 (a:Int)) cMm (by simp);have aI:=T (7,14,.pointer (some ⟨P,a*2,none⟩)) cMm (by simp);have aJ:=T (8,15,aa.v) cMm (by simp);have aK:=T (9,16,.pointer (some ⟨bm,0,none⟩)) cMm (by simp);have a4:=T (10,17,.pointer (some ⟨bm,0,none⟩)) cMm (by simp);have a5:=T (11,18,.pointer (some ⟨bm,3,none⟩)) cMm (by simp);have a6:=T (12,19,.pointer (some ⟨bm,4,none⟩)) cMm (by simp);have a7:=T (13,20,.slice (some ⟨P,0,none⟩) ah ag) cMm (by simp);have a8:=T (14,21,.pointer (some ⟨ae,3,none⟩)) cMm (by simp);have a9:=T (15,22,.int .i64 (b:Int)) cMm (by simp);have aA:=T (16,23,.pointer (some ⟨P,b*2,none⟩)) cMm (by simp);have aB:=T (17,24,ab.v) cMm (by simp);obtain⟨aR,bg,aw,aT⟩:=aM ⟨18,20,4,77,[.int .i64 0,.int .i64 0],aa.cells⟩ cMm (by simp) (by simp);obtain⟨aS,bh,ax,aU⟩:=aM ⟨19,21,5,77,[.int .i64 0,.int .i64 0],ab.cells⟩ cMm (by simp) (by simp);have bf:aR≠aS:=fun h=>aW ⟨18,20,4,77,[.int .i64 0,.int .i64 0],aa.cells⟩ cMm ⟨19,21,5,77,[.int .i64 0,.int .i64 0],ab.cells⟩ cMm (by simp) (by simp) (by simp) (by dsimp only at aw ax ⊢;rw[aw,ax,h])
 dsimp only at a2 a3 aC aD aE aF aH aI aJ aK a4 a5 a6 a7 a8 a9 aA aB aw ax;clear T aM aW;simp only[fD];simp only[a2,a3,aC,aD,aE,aF,aH,aI,aJ,aK,a4,a5,a6,a7,a8,a9,aA,aB,aw,ax];clear a2 a3 aC aD aE aF aH aI aJ aK a4 a5 a6 a7 a8 a9 aA aB aw ax;replace J:=J.gainOwn (R:=[(aR,77,aa.cells),(aS,77,ab.cells)]) hb ⟨by simp[bf],fun e ba=>by
  simp only[List.mem_cons,List.not_mem_nil,or_false]at ba;rcases ba with rfl|rfl
  ·exact⟨bg,aT⟩
  ·exact⟨bh,aU⟩⟩
 simp only[aX]at J;clear bg aT bh aU bf hb;clear aO aP;obtain⟨aN,bo⟩:=aa;obtain⟨be,bp⟩:=ab;dsimp only at aq ar;by_cases an:aN=1∧be=1
 ·obtain⟨rfl,rfl⟩:=an
  have av:=aq rfl;have aL:=ar rfl;clear aq ar;have hk:=a1.out;clear a1;dsimp only at hk;rcases hk with rfl|rfl|rfl|rfl
  ·go_wp2_with (first|(with_reducible refine lld J ?_)|(go_at_call 88;refine(j6 w0 bm p ins s t ⟨_,_⟩ _ ⟨_,au,[(P,77,af)],al,ak,aj,ai.out,J.drop (by repeat (first|exact List.Sublist.refl _|apply List.Sublist.cons)) (fun _ h=>h)⟩ ad.out.1 ad.out.2).mono ?_;rintro e ay ⟨rfl,U⟩;dsimp only))
   (try simp only[Exit.inBlock,Exit.then]);(first|refine qv rfl rfl ?_|refine qw rfl rfl ?_)
   refine⟨rfl,?_⟩;rw[K4 (by unfold yA at av aL;omega)]at U;unfold jU;rw[<- ac.out.1,<- ac.out.2];simpa [zc3] using U
  ·go_wp2_with (first|(with_reducible refine lld J ?_)|(go_at_call 88;refine(j6 w0 bm p ins s t ⟨_,_⟩ _ ⟨_,au,[(P,77,af)],al,ak,aj,ai.out,J.drop (by repeat (first|exact List.Sublist.refl _|apply List.Sublist.cons)) (fun _ h=>h)⟩ ad.out.1 ad.out.2).mono ?_;rintro e ay ⟨rfl,U⟩;dsimp only))
   (try simp only[Exit.inBlock,Exit.then]);(first|refine qv rfl rfl ?_|refine qw rfl rfl ?_)
   refine⟨rfl,?_⟩;rw[K4 (by unfold yA at av aL;omega)]at U;unfold jU;rw[<- ac.out.1,<- ac.out.2];simpa [zc3] using U
  ·go_wp2_with (first|(with_reducible refine lld J ?_)|(go_at_call 88;refine(j6 w0 bm p ins s t ⟨_,_⟩ _ ⟨_,au,[(P,77,af)],al,ak,aj,ai.out,J.drop (by repeat (first|exact List.Sublist.refl _|apply List.Sublist.cons)) (fun _ h=>h)⟩ ad.out.1 ad.out.2).mono ?_;rintro e ay ⟨rfl,U⟩;dsimp only))
   (try simp only[Exit.inBlock,Exit.then]);(first|refine qv rfl rfl ?_|refine qw rfl rfl ?_)
   refine⟨rfl,?_⟩;rw[K4 (zeY av aL)]at U;unfold jU;rw[<- ac.out.1,<- ac.out.2];simpa [zc3] using U
  ·go_upto_region 7 with(with_reducible refine lld J ?_)
   refine zb [39,40,41,42,43,44,45,46,47] ?_
   iterate 8 refine qdv ?_
   refine qdk J (fun _ hb J=>Z4 _ _) ?_;refine dnd J ?_;clear J;intro b3 J;simp only[zr,sTa,sTb];go_wp2_with (first|fail|(go_at_call 88;refine(j6 w0 bm p ins s t (jW (decide (bo<bp))) _ ⟨_,au,[(P,77,af)],al,ak,aj,ai.out,J.drop (by repeat (first|exact List.Sublist.refl _|apply List.Sublist.cons)) (fun _ h=>h)⟩ ad.out.1 ad.out.2).mono ?_;rintro e ay ⟨rfl,U⟩;dsimp only))
   (try simp only[Exit.inBlock,Exit.then]);(first|refine qv rfl rfl ?_|refine qw rfl rfl ?_)
   refine⟨rfl,?_⟩;unfold jU;rw[<- ac.out.1,<- ac.out.2];simpa using U
 ·clear a1
  have aZ:jU kind t a b s={ s with ending:=2 }:=by
   unfold jU;rw[<- ac.out.1,<- ac.out.2,if_neg (by simpa using an)]
  have aQ:=za aZ;clear aZ ac;by_cases aV:aN=1
  ·subst aV
   have av:(be != 1)=true:=by simp at an ⊢;exact an
   clear an aq ar;go_wp2_with (first|(with_reducible refine lld J ?_)|(go_at_call 48;refine(Qt w0 bm p ins s 2 _ ⟨_,au,[(P,77,af)],al,ak,aj,ai.out,J.drop (by repeat (first|exact List.Sublist.refl _|apply List.Sublist.cons)) (fun _ h=>h)⟩).mono ?_;rintro e ay ⟨rfl,U⟩;dsimp only))
   (try simp only[Exit.inBlock,Exit.then]);(first|refine qv rfl rfl ?_|refine qw rfl rfl ?_)
   exact⟨rfl,by rw[aQ.out];exact U⟩
  ·have av:(aN != 1)=true:=by simp;exact aV
   clear an aq ar;go_wp2_with (first|(with_reducible refine lld J ?_)|(go_at_call 48;refine(Qt w0 bm p ins s 2 _ ⟨_,au,[(P,77,af)],al,ak,aj,ai.out,J.drop (by repeat (first|exact List.Sublist.refl _|apply List.Sublist.cons)) (fun _ h=>h)⟩).mono ?_;rintro e ay ⟨rfl,U⟩;dsimp only))
   (try simp only[Exit.inBlock,Exit.then]);(first|refine qv rfl rfl ?_|refine qw rfl rfl ?_)
   exact⟨rfl,by rw[aQ.out];exact U⟩
end Go.Proofs.YtplcndmdkabmeaaGreatDoor
