import Derived.Test.YteoilpcbekijlaaGreatDoorRunH
import Derived.Test.YteoilpcbekijlaaGreatDoorLib
set_option linter.unusedSimpArgs false
set_option linter.unusedVariables false
set_option maxRecDepth 100000
set_option maxHeartbeats 4000000
namespace Go.Proofs.YteoilpcbekijlaaGreatDoor
open Go.RowKit
theorem mul_fits {a b:Int}(ha:-2147483648≤a∧a≤2147483647) (hb:-2147483648≤b∧b≤2147483647):-4611686018427387904≤a*b∧a*b≤4611686018427387904:=by
 have h:(a*b).natAbs≤2147483648*2147483648:=by
  rw[Int.natAbs_mul];exact Nat.mul_le_mul (by omega) (by omega)
 generalize a*b=x at h ⊢
 omega
theorem wrap_fits {x:Int}(h:-4611686018427387904≤x∧x≤4611686018427387904):wrap64 (wrap32 (wrap64 x))=wrap32 x:=by
 rw[Go.IntWalk.wrap64_in x (by omega),Go.IntWalk.wrap64_in]
 unfold wrap32;omega
def arith (k x y:Int):Int:=if k=5 then x+y else if k=6 then x - y else x*y
def countS (kind:Int) (t a b:Nat) (s:Rs):Rs:=
 if (s.val a).kind=1∧(s.val b).kind=1 then
  if kind=8 then s.set t (truthV (decide ((s.val a).n<(s.val b).n))) else s.set t ⟨1,wrap32 (arith kind (s.val a).n (s.val b).n)⟩
 else { s with ending:=2 }
def Num32 (n:Int):Prop:=-2147483648≤n∧n≤2147483647
theorem count_any (w0:World) (bm:Nat) (p:Pg) (ins:Sl) (s:Rs) (i:Ins) (t a b:Nat) (w:World) (h:Mach w0 bm p ins s w) (hi:i.to=t∧i.a=a∧i.b=b) (ht:t<s.vars.length) (ha:a<s.vars.length) (hb:b<s.vars.length)
  (hk:i.kind=5∨i.kind=6∨i.kind=7∨i.kind=8) (hat:0≤s.at'∧s.at'≤1000000) (hna:(s.val a).kind=1→Num32 (s.val a).n) (hnb:(s.val b).kind=1→Num32 (s.val b).n):
  Calls Tryz.prog 98 #[.pointer (some ⟨bm,0,none⟩),i.v] w fun e w'=>e=.returned (.tuple #[])∧Mach w0 bm p ins (countS i.kind t a b s) w':=by
 obtain⟨r,ts,Rv,Rt,Rl,Rf,hR,hL⟩:=h
 have hn:=hR.vars.flatlen lenV (by decide)
 obtain⟨gv,cs,hp,rfl,htk,hlen⟩:=hR.vars.block (by omega)
 simp only[List.cons_append,List.nil_append]at hL
 have hea:=hR.vars.elem lenV dV (k:=a) (by omega)
 have heb:=hR.vars.elem lenV dV (k:=b) (by omega)
 obtain⟨va,hva⟩:∃ x,x=s.val a:=⟨_,rfl⟩
 obtain⟨vb,hvb⟩:∃ x,x=s.val b:=⟨_,rfl⟩
 have HA:=Lib.hid (show Reads Tryz.prog 81 cs (a*2) va.v by rw[hva];exact Reads.agg tValue hea rfl)
 have HB:=Lib.hid (show Reads Tryz.prog 81 cs (b*2) vb.v by rw[hvb];exact Reads.agg tValue heb rfl)
 rw[← hva]at hna
 rw[← hvb]at hnb
 have HR:=Lib.hid hR
 have ha1:a<r.vars.n:=by omega
 have hb1:b<r.vars.n:=by omega
 have HX:=Lib.hid (And.intro ht hat)
 have HV:=Lib.hid (And.intro hva hvb)
 have HK:=Lib.hid hk
 obtain⟨kind,zt,ia,ib,num,goto⟩:=i
 obtain⟨rfl,rfl,rfl⟩:=hi
 clear hR hea heb hn htk hlen ht ha hb hat hk hva hvb
 obtain⟨ra,⟨vp,vn,vc⟩,rt,rk,rl,re⟩:=r
 dsimp only at hp ha1 hb1
 subst hp
 go_enter Tryz.func98,Tryz.ntmps98
 go_upto_region 1 with(first|(with_reducible first|refine lld hL ?_|((first|refine lbx hL ?_|refine lal hL ?_|refine lbs hL ?_);clear hL;intro bl w1 hL)|(refine lst' hL ?_;clear hL;intro w1 hL)))
 refine draw_vars (xs:=[(0,7,.pointer (some ⟨bm,0,none⟩)),(1,8,.pointer (some ⟨bm,0,none⟩)),(2,9,.pointer (some ⟨bm,3,none⟩)),(3,10,.pointer (some ⟨bm,4,none⟩)),(4,11,.slice (some ⟨gv,0,none⟩) vn vc),(5,12,.pointer (some ⟨bl,2,none⟩)),(6,13,.int .i64 (a:Int)),(7,14,.pointer (some ⟨gv,a*2,none⟩)),(8,15,va.v),(9,16,.pointer (some ⟨bm,0,none⟩)),(10,17,.pointer (some ⟨bm,0,none⟩)),(11,18,.pointer (some ⟨bm,3,none⟩)),(12,19,.pointer (some ⟨bm,4,none⟩)),(13,20,.slice (some ⟨gv,0,none⟩) vn vc),(14,21,.pointer (some ⟨bl,3,none⟩)),(15,22,.int .i64 (b:Int)),(16,23,.pointer (some ⟨gv,b*2,none⟩)),(17,24,vb.v)]) (vs:=[⟨18,20,4,81,[.int .i64 0,.int .i64 0],va.cells⟩,⟨19,21,5,81,[.int .i64 0,.int .i64 0],vb.cells⟩]) [7,8,9,10,11,12,13,14,15,16,17,18,19,20,21,22,23,24,4,5] (by kernel_rfl) ⟨?_,?_,?_,?_,?_,?_,?_,?_,?_,?_,?_,?_,?_,?_,?_,?_,?_,?_,?_,?_,?_,?_,trivial⟩ (by kernel_rfl) (by kernel_rfl) (by kernel_rfl) ?_
 ·intro hk l g w hsz hi hI hsl hun u
  replace hL:=hL.grow hI.below
  refine inv_val (d:=7) (x:=.pointer (some ⟨bm,0,none⟩)) hk cMm hI hun ?_
  clear u hI hsl hsz
  simp only[fillD,fLa,fLb,sTa,sTb]
  go_wp2
  exact cY
 ·intro hk l g w hsz hi hI hsl hun u
  replace hL:=hL.grow hI.below
  have d0:=hI.vals (0,7,.pointer (some ⟨bm,0,none⟩)) cMm (u 0 (by decide))
  dsimp only at d0
  refine inv_val (d:=8) (x:=.pointer (some ⟨bm,0,none⟩)) hk cMm hI hun ?_
  clear u hI hsl hsz
  simp only[fillD,fLa,fLb,sTa,sTb]
  simp only[d0]
  go_wp2
  exact cY
 ·intro hk l g w hsz hi hI hsl hun u
  replace hL:=hL.grow hI.below
  have d1:=hI.vals (1,8,.pointer (some ⟨bm,0,none⟩)) cMm (u 1 (by decide))
  dsimp only at d1
  refine inv_val (d:=9) (x:=.pointer (some ⟨bm,3,none⟩)) hk cMm hI hun ?_
  clear u hI hsl hsz
  simp only[fillD,fLa,fLb,sTa,sTb]
  simp only[d1]
  go_wp2
  exact cY
 ·intro hk l g w hsz hi hI hsl hun u
  replace hL:=hL.grow hI.below
  have d2:=hI.vals (2,9,.pointer (some ⟨bm,3,none⟩)) cMm (u 2 (by decide))
  dsimp only at d2
  refine inv_val (d:=10) (x:=.pointer (some ⟨bm,4,none⟩)) hk cMm hI hun ?_
  clear u hI hsl hsz
  simp only[fillD,fLa,fLb,sTa,sTb]
  simp only[d2]
  go_wp2
  exact cY
 ·intro hk l g w hsz hi hI hsl hun u
  replace hL:=hL.grow hI.below
  have d3:=hI.vals (3,10,.pointer (some ⟨bm,4,none⟩)) cMm (u 3 (by decide))
  dsimp only at d3
  refine inv_val (d:=11) (x:=.slice (some ⟨gv,0,none⟩) vn vc) hk cMm hI hun ?_
  clear u hI hsl hsz
  simp only[fillD,fLa,fLb,sTa,sTb]
  simp only[d3]
  go_wp2_with (first|(with_reducible refine lld hL ?_)|(with_reducible refine ldD hL ?_))
  exact cY
 ·intro hk l g w hsz hi hI hsl hun u
  replace hL:=hL.grow hI.below
  refine inv_val (d:=12) (x:=.pointer (some ⟨bl,2,none⟩)) hk cMm hI hun ?_
  clear u hI hsl hsz
  simp only[fillD,fLa,fLb,sTa,sTb]
  go_wp2
  exact cY
 ·intro hk l g w hsz hi hI hsl hun u
  replace hL:=hL.grow hI.below
  have d5:=hI.vals (5,12,.pointer (some ⟨bl,2,none⟩)) cMm (u 5 (by decide))
  dsimp only at d5
  refine inv_val (d:=13) (x:=.int .i64 (a:Int)) hk cMm hI hun ?_
  clear u hI hsl hsz
  simp only[fillD,fLa,fLb,sTa,sTb]
  simp only[d5]
  go_wp2_with (first|(with_reducible refine lld hL ?_)|(with_reducible refine ldD hL ?_))
  exact cY
 ·intro hk l g w hsz hi hI hsl hun u
  replace hL:=hL.grow hI.below
  have d4:=hI.vals (4,11,.slice (some ⟨gv,0,none⟩) vn vc) cMm (u 4 (by decide))
  dsimp only at d4
  have d6:=hI.vals (6,13,.int .i64 (a:Int)) cMm (u 6 (by decide))
  dsimp only at d6
  refine inv_val (d:=14) (x:=.pointer (some ⟨gv,a*2,none⟩)) hk cMm hI hun ?_
  clear u hI hsl hsz
  simp only[fillD,fLa,fLb,sTa,sTb]
  simp only[d4,d6]
  go_wp2
  exact cY
 ·intro hk l g w hsz hi hI hsl hun u
  replace hL:=hL.grow hI.below
  have d7:=hI.vals (7,14,.pointer (some ⟨gv,a*2,none⟩)) cMm (u 7 (by decide))
  dsimp only at d7
  refine inv_val (d:=15) (x:=va.v) hk cMm hI hun ?_
  clear u hI hsl hsz
  simp only[fillD,fLa,fLb,sTa,sTb]
  simp only[d7]
  refine loc_load hL rfl rfl cIn HA.out ?_
  exact cY
 ·intro hk l g w hsz hi hI hsl hun u
  replace hL:=hL.grow hI.below
  refine inv_val (d:=16) (x:=.pointer (some ⟨bm,0,none⟩)) hk cMm hI hun ?_
  clear u hI hsl hsz
  simp only[fillD,fLa,fLb,sTa,sTb]
  go_wp2
  exact cY
 ·intro hk l g w hsz hi hI hsl hun u
  replace hL:=hL.grow hI.below
  have d9:=hI.vals (9,16,.pointer (some ⟨bm,0,none⟩)) cMm (u 9 (by decide))
  dsimp only at d9
  refine inv_val (d:=17) (x:=.pointer (some ⟨bm,0,none⟩)) hk cMm hI hun ?_
  clear u hI hsl hsz
  simp only[fillD,fLa,fLb,sTa,sTb]
  simp only[d9]
  go_wp2
  exact cY
 ·intro hk l g w hsz hi hI hsl hun u
  replace hL:=hL.grow hI.below
  have d10:=hI.vals (10,17,.pointer (some ⟨bm,0,none⟩)) cMm (u 10 (by decide))
  dsimp only at d10
  refine inv_val (d:=18) (x:=.pointer (some ⟨bm,3,none⟩)) hk cMm hI hun ?_
  clear u hI hsl hsz
  simp only[fillD,fLa,fLb,sTa,sTb]
  simp only[d10]
  go_wp2
  exact cY
 ·intro hk l g w hsz hi hI hsl hun u
  replace hL:=hL.grow hI.below
  have d11:=hI.vals (11,18,.pointer (some ⟨bm,3,none⟩)) cMm (u 11 (by decide))
  dsimp only at d11
  refine inv_val (d:=19) (x:=.pointer (some ⟨bm,4,none⟩)) hk cMm hI hun ?_
  clear u hI hsl hsz
  simp only[fillD,fLa,fLb,sTa,sTb]
  simp only[d11]
  go_wp2
  exact cY
 ·intro hk l g w hsz hi hI hsl hun u
  replace hL:=hL.grow hI.below
  have d12:=hI.vals (12,19,.pointer (some ⟨bm,4,none⟩)) cMm (u 12 (by decide))
  dsimp only at d12
  refine inv_val (d:=20) (x:=.slice (some ⟨gv,0,none⟩) vn vc) hk cMm hI hun ?_
  clear u hI hsl hsz
  simp only[fillD,fLa,fLb,sTa,sTb]
  simp only[d12]
  go_wp2_with (first|(with_reducible refine lld hL ?_)|(with_reducible refine ldD hL ?_))
  exact cY
 ·intro hk l g w hsz hi hI hsl hun u
  replace hL:=hL.grow hI.below
  refine inv_val (d:=21) (x:=.pointer (some ⟨bl,3,none⟩)) hk cMm hI hun ?_
  clear u hI hsl hsz
  simp only[fillD,fLa,fLb,sTa,sTb]
  go_wp2
  exact cY
 ·intro hk l g w hsz hi hI hsl hun u
  replace hL:=hL.grow hI.below
  have d14:=hI.vals (14,21,.pointer (some ⟨bl,3,none⟩)) cMm (u 14 (by decide))
  dsimp only at d14
  refine inv_val (d:=22) (x:=.int .i64 (b:Int)) hk cMm hI hun ?_
  clear u hI hsl hsz
  simp only[fillD,fLa,fLb,sTa,sTb]
  simp only[d14]
  go_wp2_with (first|(with_reducible refine lld hL ?_)|(with_reducible refine ldD hL ?_))
  exact cY
 ·intro hk l g w hsz hi hI hsl hun u
  replace hL:=hL.grow hI.below
  have d13:=hI.vals (13,20,.slice (some ⟨gv,0,none⟩) vn vc) cMm (u 13 (by decide))
  dsimp only at d13
  have d15:=hI.vals (15,22,.int .i64 (b:Int)) cMm (u 15 (by decide))
  dsimp only at d15
  refine inv_val (d:=23) (x:=.pointer (some ⟨gv,b*2,none⟩)) hk cMm hI hun ?_
  clear u hI hsl hsz
  simp only[fillD,fLa,fLb,sTa,sTb]
  simp only[d13,d15]
  go_wp2
  exact cY
 ·intro hk l g w hsz hi hI hsl hun u
  replace hL:=hL.grow hI.below
  have d16:=hI.vals (16,23,.pointer (some ⟨gv,b*2,none⟩)) cMm (u 16 (by decide))
  dsimp only at d16
  refine inv_val (d:=24) (x:=vb.v) hk cMm hI hun ?_
  clear u hI hsl hsz
  simp only[fillD,fLa,fLb,sTa,sTb]
  simp only[d16]
  refine loc_load hL rfl rfl cIn HB.out ?_
  exact cY
 ·intro hk l g w hsz hi hI hsl hun u
  refine inv_new (v:=⟨18,20,4,81,[.int .i64 0,.int .i64 0],va.cells⟩) hk cMm zValue hI ?_ hi
  cases h:lst l 20 with
  | false=>rfl
  | true=>have:=hsl ⟨18,20,4,81,[.int .i64 0,.int .i64 0],va.cells⟩ cMm h;unfold lst at this;rw[getD_both hun]at this;cases this
 ·intro hk l g w hsz hi hI hsl hun u
  refine inv_new (v:=⟨19,21,5,81,[.int .i64 0,.int .i64 0],vb.cells⟩) hk cMm zValue hI ?_ hi
  cases h:lst l 21 with
  | false=>rfl
  | true=>have:=hsl ⟨19,21,5,81,[.int .i64 0,.int .i64 0],vb.cells⟩ cMm h;unfold lst at this;rw[getD_both hun]at this;cases this
 ·intro hk l g w hsz hi hI hsl hun u
  have d8:=hI.vals (8,15,va.v) cMm (u 8 (by decide))
  dsimp only at d8
  refine inv_put (v:=⟨18,20,4,81,[.int .i64 0,.int .i64 0],va.cells⟩) hk cMm hI (getD_both hun) hi (u 18 (by decide)) (by simp) tValue.sz rfl rfl ?_
  simp only[fillD,fLa,fLb,sTa,sTb]
  simp only[Act.eval,Array.getD_eq_getD_getElem?,List.getElem?_toArray,List.getElem?_cons_zero,List.getElem?_cons_succ,Option.getD_some,d8]
  try rfl
 ·intro hk l g w hsz hi hI hsl hun u
  have d17:=hI.vals (17,24,vb.v) cMm (u 17 (by decide))
  dsimp only at d17
  refine inv_put (v:=⟨19,21,5,81,[.int .i64 0,.int .i64 0],vb.cells⟩) hk cMm hI (getD_both hun) hi (u 19 (by decide)) (by simp) tValue.sz rfl rfl ?_
  simp only[fillD,fLa,fLb,sTa,sTb]
  simp only[Act.eval,Array.getD_eq_getD_getElem?,List.getElem?_toArray,List.getElem?_cons_zero,List.getElem?_cons_succ,Option.getD_some,d17]
  try rfl
 intro g w2 hb hX hV hA
 have e0:=hX (0,7,.pointer (some ⟨bm,0,none⟩)) cMm (by simp)
 have e1:=hX (1,8,.pointer (some ⟨bm,0,none⟩)) cMm (by simp)
 have e2:=hX (2,9,.pointer (some ⟨bm,3,none⟩)) cMm (by simp)
 have e3:=hX (3,10,.pointer (some ⟨bm,4,none⟩)) cMm (by simp)
 have e4:=hX (4,11,.slice (some ⟨gv,0,none⟩) vn vc) cMm (by simp)
 have e5:=hX (5,12,.pointer (some ⟨bl,2,none⟩)) cMm (by simp)
 have e6:=hX (6,13,.int .i64 (a:Int)) cMm (by simp)
 have e7:=hX (7,14,.pointer (some ⟨gv,a*2,none⟩)) cMm (by simp)
 have e8:=hX (8,15,va.v) cMm (by simp)
 have e9:=hX (9,16,.pointer (some ⟨bm,0,none⟩)) cMm (by simp)
 have e10:=hX (10,17,.pointer (some ⟨bm,0,none⟩)) cMm (by simp)
 have e11:=hX (11,18,.pointer (some ⟨bm,3,none⟩)) cMm (by simp)
 have e12:=hX (12,19,.pointer (some ⟨bm,4,none⟩)) cMm (by simp)
 have e13:=hX (13,20,.slice (some ⟨gv,0,none⟩) vn vc) cMm (by simp)
 have e14:=hX (14,21,.pointer (some ⟨bl,3,none⟩)) cMm (by simp)
 have e15:=hX (15,22,.int .i64 (b:Int)) cMm (by simp)
 have e16:=hX (16,23,.pointer (some ⟨gv,b*2,none⟩)) cMm (by simp)
 have e17:=hX (17,24,vb.v) cMm (by simp)
 obtain⟨b18,p18,q18,c18⟩:=hV ⟨18,20,4,81,[.int .i64 0,.int .i64 0],va.cells⟩ cMm (by simp) (by simp)
 obtain⟨b19,p19,q19,c19⟩:=hV ⟨19,21,5,81,[.int .i64 0,.int .i64 0],vb.cells⟩ cMm (by simp) (by simp)
 have n18_19:b18≠b19:=fun h=>hA ⟨18,20,4,81,[.int .i64 0,.int .i64 0],va.cells⟩ cMm ⟨19,21,5,81,[.int .i64 0,.int .i64 0],vb.cells⟩ cMm (by simp) (by simp) (by simp) (by dsimp only at q18 q19 ⊢;rw[q18,q19,h])
 dsimp only at e0 e1 e2 e3 e4 e5 e6 e7 e8 e9 e10 e11 e12 e13 e14 e15 e16 e17 q18 q19
 clear hX hV hA
 simp only[fillD,fLa,fLb,sTa,sTb]
 simp only[e0,e1,e2,e3,e4,e5,e6,e7,e8,e9,e10,e11,e12,e13,e14,e15,e16,e17,q18,q19]
 clear e0 e1 e2 e3 e4 e5 e6 e7 e8 e9 e10 e11 e12 e13 e14 e15 e16 e17 q18 q19
 replace hL:=hL.gainOwn (R:=[(b18,81,va.cells),(b19,81,vb.cells)]) hb ⟨by simp[n18_19],fun e he=>by
  simp only[List.mem_cons,List.not_mem_nil,or_false]at he
  rcases he with rfl|rfl
  ·exact⟨p18,c18⟩
  ·exact⟨p19,c19⟩⟩
 simp only[List.cons_append,List.nil_append]at hL
 clear p18 c18 p19 c19 n18_19 hb
 clear HA HB
 obtain⟨ka,na⟩:=va
 obtain⟨kb,nb⟩:=vb
 dsimp only at hna hnb
 by_cases h1:ka=1∧kb=1
 ·obtain⟨rfl,rfl⟩:=h1
  have h3:=hna rfl
  have h4:=hnb rfl
  clear hna hnb
  have hk:=HK.out
  clear HK
  dsimp only at hk
  rcases hk with rfl|rfl|rfl|rfl
  ·go_wp2_with (first|(with_reducible first|refine lld hL ?_|((first|refine lbx hL ?_|refine lal hL ?_|refine lbs hL ?_);clear hL;intro bl w1 hL)|(refine lst' hL ?_;clear hL;intro w1 hL))|(go_at_call 96;refine(set_any w0 bm p ins s t ⟨_,_⟩ _ ⟨_,ts,[(gv,81,cs)],Rt,Rl,Rf,HR.out,hL.drop (by repeat (first|exact List.Sublist.refl _|apply List.Sublist.cons)) (fun _ h=>h)⟩ HX.out.1 HX.out.2).mono ?_;rintro e w3 ⟨rfl,hM⟩;dsimp only))
   (try simp only[Exit.inBlock,Exit.then]);(first|refine end0 rfl rfl ?_|refine ret0 rfl rfl ?_)
   refine⟨rfl,?_⟩
   rw[wrap_fits (by unfold Num32 at h3 h4;omega)]at hM
   unfold countS
   rw[← HV.out.1,← HV.out.2]
   simpa [arith] using hM
  ·go_wp2_with (first|(with_reducible first|refine lld hL ?_|((first|refine lbx hL ?_|refine lal hL ?_|refine lbs hL ?_);clear hL;intro bl w1 hL)|(refine lst' hL ?_;clear hL;intro w1 hL))|(go_at_call 96;refine(set_any w0 bm p ins s t ⟨_,_⟩ _ ⟨_,ts,[(gv,81,cs)],Rt,Rl,Rf,HR.out,hL.drop (by repeat (first|exact List.Sublist.refl _|apply List.Sublist.cons)) (fun _ h=>h)⟩ HX.out.1 HX.out.2).mono ?_;rintro e w3 ⟨rfl,hM⟩;dsimp only))
   (try simp only[Exit.inBlock,Exit.then]);(first|refine end0 rfl rfl ?_|refine ret0 rfl rfl ?_)
   refine⟨rfl,?_⟩
   rw[wrap_fits (by unfold Num32 at h3 h4;omega)]at hM
   unfold countS
   rw[← HV.out.1,← HV.out.2]
   simpa [arith] using hM
  ·go_wp2_with (first|(with_reducible first|refine lld hL ?_|((first|refine lbx hL ?_|refine lal hL ?_|refine lbs hL ?_);clear hL;intro bl w1 hL)|(refine lst' hL ?_;clear hL;intro w1 hL))|(go_at_call 96;refine(set_any w0 bm p ins s t ⟨_,_⟩ _ ⟨_,ts,[(gv,81,cs)],Rt,Rl,Rf,HR.out,hL.drop (by repeat (first|exact List.Sublist.refl _|apply List.Sublist.cons)) (fun _ h=>h)⟩ HX.out.1 HX.out.2).mono ?_;rintro e w3 ⟨rfl,hM⟩;dsimp only))
   (try simp only[Exit.inBlock,Exit.then]);(first|refine end0 rfl rfl ?_|refine ret0 rfl rfl ?_)
   refine⟨rfl,?_⟩
   rw[wrap_fits (mul_fits h3 h4)]at hM
   unfold countS
   rw[← HV.out.1,← HV.out.2]
   simpa [arith] using hM
  ·go_upto_region 7 with(first|(with_reducible first|refine lld hL ?_|((first|refine lbx hL ?_|refine lal hL ?_|refine lbs hL ?_);clear hL;intro bl w1 hL)|(refine lst' hL ?_;clear hL;intro w1 hL)))
   refine draw_begin [39,40,41,42,43,44,45,46,47] ?_
   refine dv0 ?_
   refine dv0 ?_
   refine dv1 1 ?_
   refine dv0 ?_
   refine dv1 3 ?_
   refine dv0 ?_
   refine dv1 5 ?_
   refine dv2 4 6 ?_
   apply draw_val
   ·intro g w hb u;replace hL:=hL.grow hb;have d7:=yv u 7;clear u;simp only[fillD,fLa,fLb,sTa,sTb];simp only[d7]
    go_wp2_with (go_at_call 97;refine(truth_any _ _).mono ?_;rintro e w3 ⟨rfl,hb3⟩;dsimp only)
    exact⟨rfl,_,rfl,hb3,rfl⟩
   simp only[apN,apC]
   refine dnd hL ?_
   clear hL;intro w4 hL;simp only[fillX,sTa,sTb]
   go_wp2_with (first|(with_reducible first|refine lld hL ?_|((first|refine lbx hL ?_|refine lal hL ?_|refine lbs hL ?_);clear hL;intro bl w1 hL)|(refine lst' hL ?_;clear hL;intro w1 hL))|(go_at_call 96;refine(set_any w0 bm p ins s t (truthV (decide (na<nb))) _ ⟨_,ts,[(gv,81,cs)],Rt,Rl,Rf,HR.out,hL.drop (by repeat (first|exact List.Sublist.refl _|apply List.Sublist.cons)) (fun _ h=>h)⟩ HX.out.1 HX.out.2).mono ?_;rintro e w3 ⟨rfl,hM⟩;dsimp only))
   (try simp only[Exit.inBlock,Exit.then]);(first|refine end0 rfl rfl ?_|refine ret0 rfl rfl ?_)
   refine⟨rfl,?_⟩
   unfold countS
   rw[← HV.out.1,← HV.out.2]
   simpa using hM
 ·clear HK
  have hcS:countS kind t a b s={ s with ending:=2 }:=by
   unfold countS
   rw[← HV.out.1,← HV.out.2,if_neg (by simpa using h1)]
  have HC:=Lib.hid hcS
  clear hcS HV
  by_cases h2:ka=1
  ·subst h2
   have h3:(kb != 1)=true:=by simp at h1 ⊢;exact h1
   clear h1 hna hnb
   go_wp2_with (first|(with_reducible first|refine lld hL ?_|((first|refine lbx hL ?_|refine lal hL ?_|refine lbs hL ?_);clear hL;intro bl w1 hL)|(refine lst' hL ?_;clear hL;intro w1 hL))|(go_at_call 53;refine(over_any w0 bm p ins s 2 _ ⟨_,ts,[(gv,81,cs)],Rt,Rl,Rf,HR.out,hL.drop (by repeat (first|exact List.Sublist.refl _|apply List.Sublist.cons)) (fun _ h=>h)⟩).mono ?_;rintro e w3 ⟨rfl,hM⟩;dsimp only))
   (try simp only[Exit.inBlock,Exit.then]);(first|refine end0 rfl rfl ?_|refine ret0 rfl rfl ?_)
   exact⟨rfl,by rw[HC.out];exact hM⟩
  ·have h3:(ka != 1)=true:=by simp;exact h2
   clear h1 hna hnb
   go_wp2_with (first|(with_reducible first|refine lld hL ?_|((first|refine lbx hL ?_|refine lal hL ?_|refine lbs hL ?_);clear hL;intro bl w1 hL)|(refine lst' hL ?_;clear hL;intro w1 hL))|(go_at_call 53;refine(over_any w0 bm p ins s 2 _ ⟨_,ts,[(gv,81,cs)],Rt,Rl,Rf,HR.out,hL.drop (by repeat (first|exact List.Sublist.refl _|apply List.Sublist.cons)) (fun _ h=>h)⟩).mono ?_;rintro e w3 ⟨rfl,hM⟩;dsimp only))
   (try simp only[Exit.inBlock,Exit.then]);(first|refine end0 rfl rfl ?_|refine ret0 rfl rfl ?_)
   exact⟨rfl,by rw[HC.out];exact hM⟩
end Go.Proofs.YteoilpcbekijlaaGreatDoor
