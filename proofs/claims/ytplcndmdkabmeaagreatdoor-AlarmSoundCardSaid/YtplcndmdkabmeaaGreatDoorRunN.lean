/-  -/
import Derived.Test.YtplcndmdkabmeaaGreatDoorRunH
import Derived.Test.YtplcndmdkabmeaaGreatDoorLib
import Derived.Test.YtplcndmdkabmeaaGreatDoorPows
set_option linter.unusedSimpArgs false
set_option linter.unusedVariables false
set_option maxRecDepth 100000
set_option maxHeartbeats 4000000
namespace Go.Proofs.YtplcndmdkabmeaaGreatDoor
open Go.RowKit
theorem mul_fits {a b:Int}(ha:-2147483648≤a∧a≤2147483647) (hb:-2147483648≤b∧b≤2147483647):-4611686018427387904≤a*b∧a*b≤4611686018427387904:=by
 have h:(a*b).natAbs≤2147483648*2147483648:=by
  rw[Int.natAbs_mul];exact Nat.mul_le_mul (by omega) (by omega)
 generalize a*b=x at h ⊢
 omega
theorem wrap_fits {x:Int}(h:-4611686018427387904≤x∧x≤4611686018427387904):wrap64 (wrap32 (wrap64 x))=wrap32 x:=by
 rw[Go.IntWalk.wrap64_in x (by omega),Go.IntWalk.wrap64_in]
 unfold wrap32;omega
def arith (k x y:Int):Int:=if k=5 then x+y else if k=6 then x - y else x*y
def countS (kind:Int) (t a b:Nat) (s:Rs):Rs:=
 if (s.val a).kind=1∧(s.val b).kind=1 then
  if kind=8 then s.set t (truthV (decide ((s.val a).n<(s.val b).n))) else s.set t ⟨1,wrap32 (arith kind (s.val a).n (s.val b).n)⟩
 else { s with ending:=2 }
def Num32 (n:Int):Prop:=-2147483648≤n∧n≤2147483647
theorem count_any (w0:World) (bm:Nat) (p:Pg) (ins:Sl) (s:Rs) (i:Ins) (t a b:Nat) (w:World) (h:Mach w0 bm p ins s w) (hi:i.to=t∧i.a=a∧i.b=b) (ht:t<s.vars.length) (ha:a<s.vars.length) (hb:b<s.vars.length)
  (hk:i.kind=5∨i.kind=6∨i.kind=7∨i.kind=8) (hat:0≤s.at'∧s.at'≤1000000) (hna:(s.val a).kind=1→Num32 (s.val a).n) (hnb:(s.val b).kind=1→Num32 (s.val b).n):
  Calls Tryz.prog 90 #[.pointer (some ⟨bm,0,none⟩),i.v] w fun e w'=>e=.returned (.tuple #[])∧Mach w0 bm p ins (countS i.kind t a b s) w':=by
 obtain⟨r,ts,Rv,Rt,Rl,Rf,hR,hL⟩:=h
 have hn:=hR.vars.flatlen lenV (by decide)
 obtain⟨gv,cs,hp,rfl,htk,hlen⟩:=hR.vars.block (by omega)
 simp only[List.cons_append,List.nil_append]at hL
 have hea:=hR.vars.elem lenV dV (k:=a) (by omega)
 have heb:=hR.vars.elem lenV dV (k:=b) (by omega)
 obtain⟨va,hva⟩:∃ x,x=s.val a:=⟨_,rfl⟩
 obtain⟨vb,hvb⟩:∃ x,x=s.val b:=⟨_,rfl⟩
 have HA:=Lib.hid (show Reads Tryz.prog 77 cs (a*2) va.v by rw[hva];exact Reads.agg tValue hea rfl)
 have HB:=Lib.hid (show Reads Tryz.prog 77 cs (b*2) vb.v by rw[hvb];exact Reads.agg tValue heb rfl)
 rw[← hva]at hna
 rw[← hvb]at hnb
 have HR:=Lib.hid hR
 have ha1:a<r.vars.n:=by omega
 have hb1:b<r.vars.n:=by omega
 have HX:=Lib.hid (And.intro ht hat)
 have HV:=Lib.hid (And.intro hva hvb)
 have HK:=Lib.hid hk
 obtain⟨kind,to,ia,ib,num,goto⟩:=i
 obtain⟨rfl,rfl,rfl⟩:=hi
 clear hR hea heb hn htk hlen ht ha hb hat hk hva hvb
 obtain⟨ra,⟨vp,vn,vc⟩,rt,rk,rl,re⟩:=r
 dsimp only at hp ha1 hb1
 subst hp
 go_enter Tryz.func90,Tryz.ntmps90
 go_upto_region 1 with(first|(with_reducible first|refine lld hL ?_|((first|refine lbx hL ?_|refine lal hL ?_|refine lbs hL ?_);clear hL;intro bl w1 hL)|(refine lst' hL ?_;clear hL;intro w1 hL)))
 refine draw_vars (xs:=[(0,7,.pointer (some ⟨bm,0,none⟩)),(1,8,.pointer (some ⟨bm,0,none⟩)),(2,9,.pointer (some ⟨bm,3,none⟩)),(3,10,.pointer (some ⟨bm,4,none⟩)),(4,11,.slice (some ⟨gv,0,none⟩) vn vc),(5,12,.pointer (some ⟨bl,2,none⟩)),(6,13,.int .i64 (a:Int)),(7,14,.pointer (some ⟨gv,a*2,none⟩)),(8,15,va.v),(9,16,.pointer (some ⟨bm,0,none⟩)),(10,17,.pointer (some ⟨bm,0,none⟩)),(11,18,.pointer (some ⟨bm,3,none⟩)),(12,19,.pointer (some ⟨bm,4,none⟩)),(13,20,.slice (some ⟨gv,0,none⟩) vn vc),(14,21,.pointer (some ⟨bl,3,none⟩)),(15,22,.int .i64 (b:Int)),(16,23,.pointer (some ⟨gv,b*2,none⟩)),(17,24,vb.v)]) (vs:=[⟨18,20,4,77,[.int .i64 0,.int .i64 0],va.cells⟩,⟨19,21,5,77,[.int .i64 0,.int .i64 0],vb.cells⟩]) [7,8,9,10,11,12,13,14,15,16,17,18,19,20,21,22,23,24,4,5] (by kernel_rfl) ⟨?_,?_,?_,?_,?_,?_,?_,?_,?_,?_,?_,?_,?_,?_,?_,?_,?_,?_,?_,?_,?_,?_,trivial⟩ (by kernel_rfl) (by kernel_rfl) (by kernel_rfl) ?_
 ·intro hk l g w hsz hi hI hsl hun u
  replace hL:=hL.grow hI.below
  refine inv_val (d:=7) (x:=.pointer (some ⟨bm,0,none⟩)) hk cMm hI hun ?_
  clear u hI hsl hsz
  simp only[fillD,fLa,fLb,sTa,sTb]
  go_wp2
  exact cY
 ·intro hk l g w hsz hi hI hsl hun u
  replace hL:=hL.grow hI.below
  have d0:=hI.vals (0,7,.pointer (some ⟨bm,0,none⟩)) cMm (u 0 (by decide))
  dsimp only at d0
  refine inv_val (d:=8) (x:=.pointer (some ⟨bm,0,none⟩)) hk cMm hI hun ?_
  clear u hI hsl hsz
  simp only[fillD,fLa,fLb,sTa,sTb]
  simp only[d0]
  go_wp2
  exact cY
 ·intro hk l g w hsz hi hI hsl hun u
  replace hL:=hL.grow hI.below
  have d1:=hI.vals (1,8,.pointer (some ⟨bm,0,none⟩)) cMm (u 1 (by decide))
  dsimp only at d1
  refine inv_val (d:=9) (x:=.pointer (some ⟨bm,3,none⟩)) hk cMm hI hun ?_
  clear u hI hsl hsz
  simp only[fillD,fLa,fLb,sTa,sTb]
  simp only[d1]
  go_wp2
  exact cY
 ·intro hk l g w hsz hi hI hsl hun u
  replace hL:=hL.grow hI.below
  have d2:=hI.vals (2,9,.pointer (some ⟨bm,3,none⟩)) cMm (u 2 (by decide))
  dsimp only at d2
  refine inv_val (d:=10) (x:=.pointer (some ⟨bm,4,none⟩)) hk cMm hI hun ?_
  clear u hI hsl hsz
  simp only[fillD,fLa,fLb,sTa,sTb]
  simp only[d2]
  go_wp2
  exact cY
 ·intro hk l g w hsz hi hI hsl hun u
  replace hL:=hL.grow hI.below
  have d3:=hI.vals (3,10,.pointer (some ⟨bm,4,none⟩)) cMm (u 3 (by decide))
  dsimp only at d3
  refine inv_val (d:=11) (x:=.slice (some ⟨gv,0,none⟩) vn vc) hk cMm hI hun ?_
  clear u hI hsl hsz
  simp only[fillD,fLa,fLb,sTa,sTb]
  simp only[d3]
  go_wp2_with (first|(with_reducible refine lld hL ?_)|(with_reducible refine ldD hL ?_))
  exact cY
 ·intro hk l g w hsz hi hI hsl hun u
  replace hL:=hL.grow hI.below
  refine inv_val (d:=12) (x:=.pointer (some ⟨bl,2,none⟩)) hk cMm hI hun ?_
  clear u hI hsl hsz
  simp only[fillD,fLa,fLb,sTa,sTb]
  go_wp2
  exact cY
 ·intro hk l g w hsz hi hI hsl hun u
  replace hL:=hL.grow hI.below
  have d5:=hI.vals (5,12,.pointer (some ⟨bl,2,none⟩)) cMm (u 5 (by decide))
  dsimp only at d5
  refine inv_val (d:=13) (x:=.int .i64 (a:Int)) hk cMm hI hun ?_
  clear u hI hsl hsz
  simp only[fillD,fLa,fLb,sTa,sTb]
  simp only[d5]
  go_wp2_with (first|(with_reducible refine lld hL ?_)|(with_reducible refine ldD hL ?_))
  exact cY
 ·intro hk l g w hsz hi hI hsl hun u
  replace hL:=hL.grow hI.below
  have d4:=hI.vals (4,11,.slice (some ⟨gv,0,none⟩) vn vc) cMm (u 4 (by decide))
  dsimp only at d4
  have d6:=hI.vals (6,13,.int .i64 (a:Int)) cMm (u 6 (by decide))
  dsimp only at d6
  refine inv_val (d:=14) (x:=.pointer (some ⟨gv,a*2,none⟩)) hk cMm hI hun ?_
  clear u hI hsl hsz
  simp only[fillD,fLa,fLb,sTa,sTb]
  simp only[d4,d6]
  go_wp2
  exact cY
 ·intro hk l g w hsz hi hI hsl hun u
  replace hL:=hL.grow hI.below
  have d7:=hI.vals (7,14,.pointer (some ⟨gv,a*2,none⟩)) cMm (u 7 (by decide))
  dsimp only at d7
  refine inv_val (d:=15) (x:=va.v) hk cMm hI hun ?_
  clear u hI hsl hsz
  simp only[fillD,fLa,fLb,sTa,sTb]
  simp only[d7]
  refine loc_load hL rfl rfl cIn HA.out ?_
  exact cY
 ·intro hk l g w hsz hi hI hsl hun u
  replace hL:=hL.grow hI.below
  refine inv_val (d:=16) (x:=.pointer (some ⟨bm,0,none⟩)) hk cMm hI hun ?_
  clear u hI hsl hsz
  simp only[fillD,fLa,fLb,sTa,sTb]
  go_wp2
  exact cY
 ·intro hk l g w hsz hi hI hsl hun u
  replace hL:=hL.grow hI.below
  have d9:=hI.vals (9,16,.pointer (some ⟨bm,0,none⟩)) cMm (u 9 (by decide))
  dsimp only at d9
  refine inv_val (d:=17) (x:=.pointer (some ⟨bm,0,none⟩)) hk cMm hI hun ?_
  clear u hI hsl hsz
  simp only[fillD,fLa,fLb,sTa,sTb]
  simp only[d9]
  go_wp2
  exact cY
 ·intro hk l g w hsz hi hI hsl hun u
  replace hL:=hL.grow hI.below
  have d10:=hI.vals (10,17,.pointer (some ⟨bm,0,none⟩)) cMm (u 10 (by decide))
  dsimp only at d10
  refine inv_val (d:=18) (x:=.pointer (some ⟨bm,3,none⟩)) hk cMm hI hun ?_
  clear u hI hsl hsz
  simp only[fillD,fLa,fLb,sTa,sTb]
  simp only[d10]
  go_wp2
  exact cY
 ·intro hk l g w hsz hi hI hsl hun u
  replace hL:=hL.grow hI.below
  have d11:=hI.vals (11,18,.pointer (some ⟨bm,3,none⟩)) cMm (u 11 (by decide))
  dsimp only at d11
  refine inv_val (d:=19) (x:=.pointer (some ⟨bm,4,none⟩)) hk cMm hI hun ?_
  clear u hI hsl hsz
  simp only[fillD,fLa,fLb,sTa,sTb]
  simp only[d11]
  go_wp2
  exact cY
 ·intro hk l g w hsz hi hI hsl hun u
  replace hL:=hL.grow hI.below
  have d12:=hI.vals (12,19,.pointer (some ⟨bm,4,none⟩)) cMm (u 12 (by decide))
  dsimp only at d12
  refine inv_val (d:=20) (x:=.slice (some ⟨gv,0,none⟩) vn vc) hk cMm hI hun ?_
  clear u hI hsl hsz
  simp only[fillD,fLa,fLb,sTa,sTb]
  simp only[d12]
  go_wp2_with (first|(with_reducible refine lld hL ?_)|(with_reducible refine ldD hL ?_))
  exact cY
 ·intro hk l g w hsz hi hI hsl hun u
  replace hL:=hL.grow hI.below
  refine inv_val (d:=21) (x:=.pointer (some ⟨bl,3,none⟩)) hk cMm hI hun ?_
  clear u hI hsl hsz
  simp only[fillD,fLa,fLb,sTa,sTb]
  go_wp2
  exact cY
 ·intro hk l g w hsz hi hI hsl hun u
  replace hL:=hL.grow hI.below
  have d14:=hI.vals (14,21,.pointer (some ⟨bl,3,none⟩)) cMm (u 14 (by decide))
  dsimp only at d14
  refine inv_val (d:=22) (x:=.int .i64 (b:Int)) hk cMm hI hun ?_
  clear u hI hsl hsz
  simp only[fillD,fLa,fLb,sTa,sTb]
  simp only[d14]
  go_wp2_with (first|(with_reducible refine lld hL ?_)|(with_reducible refine ldD hL ?_))
  exact cY
 ·intro hk l g w hsz hi hI hsl hun u
  replace hL:=hL.grow hI.below
  have d13:=hI.vals (13,20,.slice (some ⟨gv,0,none⟩) vn vc) cMm (u 13 (by decide))
  dsimp only at d13
  have d15:=hI.vals (15,22,.int .i64 (b:Int)) cMm (u 15 (by decide))
  dsimp only at d15
  refine inv_val (d:=23) (x:=.pointer (some ⟨gv,b*2,none⟩)) hk cMm hI hun ?_
  clear u hI hsl hsz
  simp only[fillD,fLa,fLb,sTa,sTb]
  simp only[d13,d15]
  go_wp2
  exact cY
 ·intro hk l g w hsz hi hI hsl hun u
  replace hL:=hL.grow hI.below
  have d16:=hI.vals (16,23,.pointer (some ⟨gv,b*2,none⟩)) cMm (u 16 (by decide))
  dsimp only at d16
  refine inv_val (d:=24) (x:=vb.v) hk cMm hI hun ?_
  clear u hI hsl hsz
  simp only[fillD,fLa,fLb,sTa,sTb]
  simp only[d16]
  refine loc_load hL rfl rfl cIn HB.out ?_
  exact cY
 ·intro hk l g w hsz hi hI hsl hun u
  refine inv_new (v:=⟨18,20,4,77,[.int .i64 0,.int .i64 0],va.cells⟩) hk cMm zValue hI ?_ hi
  cases h:lst l 20 with
  | false=>rfl
  | true=>have:=hsl ⟨18,20,4,77,[.int .i64 0,.int .i64 0],va.cells⟩ cMm h;unfold lst at this;rw[getD_both hun]at this;cases this
 ·intro hk l g w hsz hi hI hsl hun u
  refine inv_new (v:=⟨19,21,5,77,[.int .i64 0,.int .i64 0],vb.cells⟩) hk cMm zValue hI ?_ hi
  cases h:lst l 21 with
  | false=>rfl
  | true=>have:=hsl ⟨19,21,5,77,[.int .i64 0,.int .i64 0],vb.cells⟩ cMm h;unfold lst at this;rw[getD_both hun]at this;cases this
 ·intro hk l g w hsz hi hI hsl hun u
  have d8:=hI.vals (8,15,va.v) cMm (u 8 (by decide))
  dsimp only at d8
  refine inv_put (v:=⟨18,20,4,77,[.int .i64 0,.int .i64 0],va.cells⟩) hk cMm hI (getD_both hun) hi (u 18 (by decide)) (by simp) tValue.sz rfl rfl ?_
  simp only[fillD,fLa,fLb,sTa,sTb]
  simp only[Act.eval,Array.getD_eq_getD_getElem?,List.getElem?_toArray,List.getElem?_cons_zero,List.getElem?_cons_succ,Option.getD_some,d8]
  try rfl
 ·intro hk l g w hsz hi hI hsl hun u
  have d17:=hI.vals (17,24,vb.v) cMm (u 17 (by decide))
  dsimp only at d17
  refine inv_put (v:=⟨19,21,5,77,[.int .i64 0,.int .i64 0],vb.cells⟩) hk cMm hI (getD_both hun) hi (u 19 (by decide)) (by simp) tValue.sz rfl rfl ?_
  simp only[fillD,fLa,fLb,sTa,sTb]
  simp only[Act.eval,Array.getD_eq_getD_getElem?,List.getElem?_toArray,List.getElem?_cons_zero,List.getElem?_cons_succ,Option.getD_some,d17]
  try rfl
 intro g w2 hb hX hV hA
 have e0:=hX (0,7,.pointer (some ⟨bm,0,none⟩)) cMm (by simp)
 have e1:=hX (1,8,.pointer (some ⟨bm,0,none⟩)) cMm (by simp)
 have e2:=hX (2,9,.pointer (some ⟨bm,3,none⟩)) cMm (by simp)
 have e3:=hX (3,10,.pointer (some ⟨bm,4,none⟩)) cMm (by simp)
 have e4:=hX (4,11,.slice (some ⟨gv,0,none⟩) vn vc) cMm (by simp)
 have e5:=hX (5,12,.pointer (some ⟨bl,2,none⟩)) cMm (by simp)
 have e6:=hX (6,13,.int .i64 (a:Int)) cMm (by simp)
 have e7:=hX (7,14,.pointer (some ⟨gv,a*2,none⟩)) cMm (by simp)
 have e8:=hX (8,15,va.v) cMm (by simp)
 have e9:=hX (9,16,.pointer (some ⟨bm,0,none⟩)) cMm (by simp)
 have e10:=hX (10,17,.pointer (some ⟨bm,0,none⟩)) cMm (by simp)
 have e11:=hX (11,18,.pointer (some ⟨bm,3,none⟩)) cMm (by simp)
 have e12:=hX (12,19,.pointer (some ⟨bm,4,none⟩)) cMm (by simp)
 have e13:=hX (13,20,.slice (some ⟨gv,0,none⟩) vn vc) cMm (by simp)
 have e14:=hX (14,21,.pointer (some ⟨bl,3,none⟩)) cMm (by simp)
 have e15:=hX (15,22,.int .i64 (b:Int)) cMm (by simp)
 have e16:=hX (16,23,.pointer (some ⟨gv,b*2,none⟩)) cMm (by simp)
 have e17:=hX (17,24,vb.v) cMm (by simp)
 obtain⟨b18,p18,q18,c18⟩:=hV ⟨18,20,4,77,[.int .i64 0,.int .i64 0],va.cells⟩ cMm (by simp) (by simp)
 obtain⟨b19,p19,q19,c19⟩:=hV ⟨19,21,5,77,[.int .i64 0,.int .i64 0],vb.cells⟩ cMm (by simp) (by simp)
 have n18_19:b18≠b19:=fun h=>hA ⟨18,20,4,77,[.int .i64 0,.int .i64 0],va.cells⟩ cMm ⟨19,21,5,77,[.int .i64 0,.int .i64 0],vb.cells⟩ cMm (by simp) (by simp) (by simp) (by dsimp only at q18 q19 ⊢;rw[q18,q19,h])
 dsimp only at e0 e1 e2 e3 e4 e5 e6 e7 e8 e9 e10 e11 e12 e13 e14 e15 e16 e17 q18 q19
 clear hX hV hA
 simp only[fillD,fLa,fLb,sTa,sTb]
 simp only[e0,e1,e2,e3,e4,e5,e6,e7,e8,e9,e10,e11,e12,e13,e14,e15,e16,e17,q18,q19]
 clear e0 e1 e2 e3 e4 e5 e6 e7 e8 e9 e10 e11 e12 e13 e14 e15 e16 e17 q18 q19
 replace hL:=hL.gainOwn (R:=[(b18,77,va.cells),(b19,77,vb.cells)]) hb ⟨by simp[n18_19],fun e he=>by
  simp only[List.mem_cons,List.not_mem_nil,or_false]at he
  rcases he with rfl|rfl
  ·exact⟨p18,c18⟩
  ·exact⟨p19,c19⟩⟩
 simp only[List.cons_append,List.nil_append]at hL
 clear p18 c18 p19 c19 n18_19 hb
 clear HA HB
 obtain⟨ka,na⟩:=va
 obtain⟨kb,nb⟩:=vb
 dsimp only at hna hnb
 by_cases h1:ka=1∧kb=1
 ·obtain⟨rfl,rfl⟩:=h1
  have h3:=hna rfl
  have h4:=hnb rfl
  clear hna hnb
  have hk:=HK.out
  clear HK
  dsimp only at hk
  rcases hk with rfl|rfl|rfl|rfl
  ·go_wp2_with (first|(with_reducible first|refine lld hL ?_|((first|refine lbx hL ?_|refine lal hL ?_|refine lbs hL ?_);clear hL;intro bl w1 hL)|(refine lst' hL ?_;clear hL;intro w1 hL))|(go_at_call 88;refine(set_any w0 bm p ins s t ⟨_,_⟩ _ ⟨_,ts,[(gv,77,cs)],Rt,Rl,Rf,HR.out,hL.drop (by repeat (first|exact List.Sublist.refl _|apply List.Sublist.cons)) (fun _ h=>h)⟩ HX.out.1 HX.out.2).mono ?_;rintro e w3 ⟨rfl,hM⟩;dsimp only))
   (try simp only[Exit.inBlock,Exit.then]);(first|refine end0 rfl rfl ?_|refine ret0 rfl rfl ?_)
   refine⟨rfl,?_⟩
   rw[wrap_fits (by unfold Num32 at h3 h4;omega)]at hM
   unfold countS
   rw[← HV.out.1,← HV.out.2]
   simpa [arith] using hM
  ·go_wp2_with (first|(with_reducible first|refine lld hL ?_|((first|refine lbx hL ?_|refine lal hL ?_|refine lbs hL ?_);clear hL;intro bl w1 hL)|(refine lst' hL ?_;clear hL;intro w1 hL))|(go_at_call 88;refine(set_any w0 bm p ins s t ⟨_,_⟩ _ ⟨_,ts,[(gv,77,cs)],Rt,Rl,Rf,HR.out,hL.drop (by repeat (first|exact List.Sublist.refl _|apply List.Sublist.cons)) (fun _ h=>h)⟩ HX.out.1 HX.out.2).mono ?_;rintro e w3 ⟨rfl,hM⟩;dsimp only))
   (try simp only[Exit.inBlock,Exit.then]);(first|refine end0 rfl rfl ?_|refine ret0 rfl rfl ?_)
   refine⟨rfl,?_⟩
   rw[wrap_fits (by unfold Num32 at h3 h4;omega)]at hM
   unfold countS
   rw[← HV.out.1,← HV.out.2]
   simpa [arith] using hM
  ·go_wp2_with (first|(with_reducible first|refine lld hL ?_|((first|refine lbx hL ?_|refine lal hL ?_|refine lbs hL ?_);clear hL;intro bl w1 hL)|(refine lst' hL ?_;clear hL;intro w1 hL))|(go_at_call 88;refine(set_any w0 bm p ins s t ⟨_,_⟩ _ ⟨_,ts,[(gv,77,cs)],Rt,Rl,Rf,HR.out,hL.drop (by repeat (first|exact List.Sublist.refl _|apply List.Sublist.cons)) (fun _ h=>h)⟩ HX.out.1 HX.out.2).mono ?_;rintro e w3 ⟨rfl,hM⟩;dsimp only))
   (try simp only[Exit.inBlock,Exit.then]);(first|refine end0 rfl rfl ?_|refine ret0 rfl rfl ?_)
   refine⟨rfl,?_⟩
   rw[wrap_fits (mul_fits h3 h4)]at hM
   unfold countS
   rw[← HV.out.1,← HV.out.2]
   simpa [arith] using hM
  ·go_upto_region 7 with(first|(with_reducible first|refine lld hL ?_|((first|refine lbx hL ?_|refine lal hL ?_|refine lbs hL ?_);clear hL;intro bl w1 hL)|(refine lst' hL ?_;clear hL;intro w1 hL)))
   refine draw_begin [39,40,41,42,43,44,45,46,47] ?_
   refine dv0 ?_
   refine dv0 ?_
   refine dv1 1 ?_
   refine dv0 ?_
   refine dv1 3 ?_
   refine dv0 ?_
   refine dv1 5 ?_
   refine dv2 4 6 ?_
   apply draw_val
   ·intro g w hb u;replace hL:=hL.grow hb;have d7:=yv u 7;clear u;simp only[fillD,fLa,fLb,sTa,sTb];simp only[d7]
    go_wp2_with (go_at_call 89;refine(truth_any _ _).mono ?_;rintro e w3 ⟨rfl,hb3⟩;dsimp only)
    exact⟨rfl,_,rfl,hb3,rfl⟩
   simp only[apN,apC]
   refine dnd hL ?_
   clear hL;intro w4 hL;simp only[fillX,sTa,sTb]
   go_wp2_with (first|(with_reducible first|refine lld hL ?_|((first|refine lbx hL ?_|refine lal hL ?_|refine lbs hL ?_);clear hL;intro bl w1 hL)|(refine lst' hL ?_;clear hL;intro w1 hL))|(go_at_call 88;refine(set_any w0 bm p ins s t (truthV (decide (na<nb))) _ ⟨_,ts,[(gv,77,cs)],Rt,Rl,Rf,HR.out,hL.drop (by repeat (first|exact List.Sublist.refl _|apply List.Sublist.cons)) (fun _ h=>h)⟩ HX.out.1 HX.out.2).mono ?_;rintro e w3 ⟨rfl,hM⟩;dsimp only))
   (try simp only[Exit.inBlock,Exit.then]);(first|refine end0 rfl rfl ?_|refine ret0 rfl rfl ?_)
   refine⟨rfl,?_⟩
   unfold countS
   rw[← HV.out.1,← HV.out.2]
   simpa using hM
 ·clear HK
  have hcS:countS kind t a b s={ s with ending:=2 }:=by
   unfold countS
   rw[← HV.out.1,← HV.out.2,if_neg (by simpa using h1)]
  have HC:=Lib.hid hcS
  clear hcS HV
  by_cases h2:ka=1
  ·subst h2
   have h3:(kb != 1)=true:=by simp at h1 ⊢;exact h1
   clear h1 hna hnb
   go_wp2_with (first|(with_reducible first|refine lld hL ?_|((first|refine lbx hL ?_|refine lal hL ?_|refine lbs hL ?_);clear hL;intro bl w1 hL)|(refine lst' hL ?_;clear hL;intro w1 hL))|(go_at_call 48;refine(over_any w0 bm p ins s 2 _ ⟨_,ts,[(gv,77,cs)],Rt,Rl,Rf,HR.out,hL.drop (by repeat (first|exact List.Sublist.refl _|apply List.Sublist.cons)) (fun _ h=>h)⟩).mono ?_;rintro e w3 ⟨rfl,hM⟩;dsimp only))
   (try simp only[Exit.inBlock,Exit.then]);(first|refine end0 rfl rfl ?_|refine ret0 rfl rfl ?_)
   exact⟨rfl,by rw[HC.out];exact hM⟩
  ·have h3:(ka != 1)=true:=by simp;exact h2
   clear h1 hna hnb
   go_wp2_with (first|(with_reducible first|refine lld hL ?_|((first|refine lbx hL ?_|refine lal hL ?_|refine lbs hL ?_);clear hL;intro bl w1 hL)|(refine lst' hL ?_;clear hL;intro w1 hL))|(go_at_call 48;refine(over_any w0 bm p ins s 2 _ ⟨_,ts,[(gv,77,cs)],Rt,Rl,Rf,HR.out,hL.drop (by repeat (first|exact List.Sublist.refl _|apply List.Sublist.cons)) (fun _ h=>h)⟩).mono ?_;rintro e w3 ⟨rfl,hM⟩;dsimp only))
   (try simp only[Exit.inBlock,Exit.then]);(first|refine end0 rfl rfl ?_|refine ret0 rfl rfl ?_)
   exact⟨rfl,by rw[HC.out];exact hM⟩
end Go.Proofs.YtplcndmdkabmeaaGreatDoor
set_option linter.unusedSimpArgs false
set_option linter.unusedVariables false
set_option maxRecDepth 100000
set_option maxHeartbeats 4000000
namespace Go.Proofs.YtplcndmdkabmeaaGreatDoor
open Go.RowKit
theorem field_no (w0:World) (bm:Nat) (p:Pg) (ins:Sl) (s:Rs) (i:Ins) (a:Nat) (w:World) (h:Mach w0 bm p ins s w) (hi:i.a=a) (ha:a<s.vars.length) (h3:(s.val a).kind≠3):
  Calls Tryz.prog 93 #[.pointer (some ⟨bm,0,none⟩),i.v] w fun e w'=>e=.returned (.pointer none)∧Mach w0 bm p ins { s with ending:=2 } w':=by
 obtain⟨r,ts,Rv,Rt,Rl,Rf,hR,hL⟩:=h
 have hn:=hR.vars.flatlen lenV (by decide)
 obtain⟨gv,cs,hp,rfl,htk,hlen⟩:=hR.vars.block (by omega)
 simp only[List.cons_append,List.nil_append]at hL
 have hea:=hR.vars.elem lenV dV (k:=a) (by omega)
 obtain⟨va,hva⟩:∃ x,x=s.val a:=⟨_,rfl⟩
 have HA:=Lib.hid (show Reads Tryz.prog 77 cs (a*2) va.v by rw[hva];exact Reads.agg tValue hea rfl)
 rw[← hva]at h3
 have HR:=Lib.hid hR
 have ha1:a<r.vars.n:=by omega
 obtain⟨kind,to,ia,ib,num,goto⟩:=i
 dsimp only at hi
 subst hi
 clear hR hea hn htk hlen ha hva
 obtain⟨ra,⟨vp,vn,vc⟩,rt,rk,rl,re⟩:=r
 dsimp only at hp ha1
 subst hp
 obtain⟨ka,na⟩:=va
 have h4:(ka != 3)=true:=by simpa using h3
 clear h3
 go_enter Tryz.func93,Tryz.ntmps93
 go_upto_region 1 with(first|(with_reducible first|refine lld hL ?_|((first|refine lbx hL ?_|refine lal hL ?_|refine lbs hL ?_);clear hL;intro bl w1 hL)|(refine lst' hL ?_;clear hL;intro w1 hL)))
 refine draw_begin [6,7,8,9,10,11,12,13,14,5] ?_
 refine dv0 ?_
 refine dv1 0 ?_
 refine dv1 1 ?_
 refine dv1 2 ?_
 refine dv1 3 ?_
 refine dv0 ?_
 refine dv1 5 ?_
 refine dv2 4 6 ?_
 apply draw_val
 ·intro g w hb v;replace hL:=hL.grow hb;have d7:=yv v 7;clear v;simp only[fillD,fLa,fLb,sTa,sTb];simp only[d7]
  refine loc_load hL rfl rfl cIn HA.out ?_
  exact cY
 simp only[apN,apC]
 apply draw_ptr
 ·intro g w hb v;replace hL:=hL.grow hb;clear v;simp only[fillD,fLa,fLb,sTa,sTb]
  go_wp2
  exact⟨rfl,_,rfl,(Below.refl _ _).alloc (Nat.le_refl _) _,_,hb.size,rfl,heap_new _ _⟩
 simp only[apN,apC]
 refine draw_end hL (by kernel_rfl) (by kernel_rfl) ?_
 intro g w2 hb hR;simp only[List.length_cons,List.length_nil,Nat.reduceAdd]at hR
 have e0:=yv hR 0
 have e1:=yv hR 1
 have e2:=yv hR 2
 have e3:=yv hR 3
 have e4:=yv hR 4
 have e5:=yv hR 5
 have e6:=yv hR 6
 have e7:=yv hR 7
 have e8:=yv hR 8
 obtain⟨b9,p9,e9,c9⟩:=rat_ptr (allR_get hR (j:=9) (by decide)) rfl rfl
 clear hR;simp only[fillD,fLa,fLb,sTa,sTb]
 simp only[e0,e1,e2,e3,e4,e5,e6,e7,e8,e9]
 clear e0 e1 e2 e3 e4 e5 e6 e7 e8 e9
 replace hL:=hL.gain hb p9 c9
 clear p9 c9
 clear hb
 clear HA
 go_wp2_with (first|(with_reducible first|refine lld hL ?_|((first|refine lbx hL ?_|refine lal hL ?_|refine lbs hL ?_);clear hL;intro bl w1 hL)|(refine lst' hL ?_;clear hL;intro w1 hL))|(go_at_call 48;refine(over_any w0 bm p ins s 2 _ ⟨_,ts,[(gv,77,cs)],Rt,Rl,Rf,HR.out,hL.drop (by repeat (first|exact List.Sublist.refl _|apply List.Sublist.cons)) (fun _ h=>h)⟩).mono ?_;rintro e w3 ⟨rfl,hM⟩;dsimp only))
 go_ret
 exact⟨rfl,hM⟩
theorem field_yes (w0:World) (bm gv gt gf:Nat) (p:Pg) (ins:Sl) (ra:Int) (vn vc tn tc fn fc:Nat) (rk:Int) (rl:Sl) (re:Int) (csv cst csf:List Value) (Rest:List LBlk) (i:Ins) (a k f:Nat) (w:World)
  (hL:Loc w0 w ((bm,100,machC p ⟨ra,⟨some ⟨gv,0,none⟩,vn,vc⟩,⟨some ⟨gt,0,none⟩,tn,tc⟩,rk,rl,re⟩ ins)::(gv,77,csv)::(gt,79,cst)::(gf,77,csf)::Rest) [])
  (hi:i.a=a∧i.n=f) (ha:a<vn) (hk:k<tn) (hf:f<fn) (hA:Reads Tryz.prog 77 csv (a*2) (Vl.v ⟨3,k⟩)) (hT:Reads Tryz.prog 42 cst (k*2+1) (.slice (some ⟨gf,0,none⟩) fn fc)):
  Calls Tryz.prog 93 #[.pointer (some ⟨bm,0,none⟩),i.v] w fun e w'=>e=.returned (.pointer (some ⟨gf,f*2,none⟩))∧
   Loc w0 w' ((bm,100,machC p ⟨ra,⟨some ⟨gv,0,none⟩,vn,vc⟩,⟨some ⟨gt,0,none⟩,tn,tc⟩,rk,rl,re⟩ ins)::(gv,77,csv)::(gt,79,cst)::(gf,77,csf)::Rest) []:=by
 have HA:=Lib.hid hA
 have HT:=Lib.hid hT
 obtain⟨kind,to,ia,ib,num,goto⟩:=i
 dsimp only at hi
 obtain⟨rfl,rfl⟩:=hi
 clear hA hT
 go_enter Tryz.func93,Tryz.ntmps93
 go_upto_region 1 with(first|(with_reducible first|refine lld hL ?_|((first|refine lbx hL ?_|refine lal hL ?_|refine lbs hL ?_);clear hL;intro bl w1 hL)|(refine lst' hL ?_;clear hL;intro w1 hL)))
 refine draw_begin [6,7,8,9,10,11,12,13,14,5] ?_
 refine dv0 ?_
 refine dv1 0 ?_
 refine dv1 1 ?_
 refine dv1 2 ?_
 refine dv1 3 ?_
 refine dv0 ?_
 refine dv1 5 ?_
 refine dv2 4 6 ?_
 apply draw_val
 ·intro g w hb v;replace hL:=hL.grow hb;have d7:=yv v 7;clear v;simp only[fillD,fLa,fLb,sTa,sTb];simp only[d7]
  refine loc_load hL rfl rfl cIn HA.out ?_
  exact cY
 simp only[apN,apC]
 apply draw_ptr
 ·intro g w hb v;replace hL:=hL.grow hb;clear v;simp only[fillD,fLa,fLb,sTa,sTb]
  go_wp2
  exact⟨rfl,_,rfl,(Below.refl _ _).alloc (Nat.le_refl _) _,_,hb.size,rfl,heap_new _ _⟩
 simp only[apN,apC]
 refine draw_end hL (by kernel_rfl) (by kernel_rfl) ?_
 intro g w2 hb hR;simp only[List.length_cons,List.length_nil,Nat.reduceAdd]at hR
 have e0:=yv hR 0
 have e1:=yv hR 1
 have e2:=yv hR 2
 have e3:=yv hR 3
 have e4:=yv hR 4
 have e5:=yv hR 5
 have e6:=yv hR 6
 have e7:=yv hR 7
 have e8:=yv hR 8
 obtain⟨b9,p9,e9,c9⟩:=rat_ptr (allR_get hR (j:=9) (by decide)) rfl rfl
 clear hR;simp only[fillD,fLa,fLb,sTa,sTb]
 simp only[e0,e1,e2,e3,e4,e5,e6,e7,e8,e9]
 clear e0 e1 e2 e3 e4 e5 e6 e7 e8 e9
 replace hL:=hL.gain hb p9 c9
 clear p9 c9
 clear hb
 clear HA
 go_upto_region 5 with(first|(with_reducible first|refine lld hL ?_|((first|refine lbx hL ?_|refine lal hL ?_|refine lbs hL ?_);clear hL;intro bl w1 hL)|(refine lst' hL ?_;clear hL;intro w1 hL)))
 refine draw_begin [20,21,22,23,24,25,26,27,28,29,30,31,32,4] ?_
 refine dv0 ?_
 refine dv1 0 ?_
 refine dv1 1 ?_
 refine dv1 2 ?_
 refine dv1 3 ?_
 refine dv0 ?_
 refine dv1 5 ?_
 refine dv2 4 6 ?_
 refine dv1 7 ?_
 apply draw_val
 ·intro g w hb v;replace hL:=hL.grow hb;have d8:=yv v 8;clear v;simp only[fillD,fLa,fLb,sTa,sTb];simp only[d8]
  refine loc_load hL rfl rfl cIn HT.out ?_
  exact cY
 simp only[apN,apC]
 refine dv0 ?_
 refine dv1 10 ?_
 refine dv2 9 11 ?_
 refine dv1 12 ?_
 refine dnd hL ?_
 clear hL;intro w3 hL;simp only[fillX,sTa,sTb]
 go_wp2_with (first|(with_reducible first|refine lld hL ?_|((first|refine lbx hL ?_|refine lal hL ?_|refine lbs hL ?_);clear hL;intro bl w1 hL)|(refine lst' hL ?_;clear hL;intro w1 hL)))
 go_ret
 exact⟨rfl,hL.drop (by repeat (first|exact List.Sublist.refl _|apply List.Sublist.cons)) (fun _ h=>h)⟩
section
variable {P : Program} {ops : Array Oper} {Q : Exit → Act → World → Prop} {a : Act} {w0 w : World} {rest : List Oper} {L : List LBlk} {D : List Datum}
 {d:Option Tmp} {ty:TypeId} {pos:String} {after:Array Edge} {g:Option (Nat × Bool)}
theorem wp_make_new {T E:TypeId}{z:List Value}{bytes n:Nat}{l c:Operand}{kl kc:IntKind}(hw:Region.wanted ⟨d,.makeSlice T l c,ty,pos,after,g⟩ (yielded ops a.tmps)=true) (hT:SliceT P T E z) (hby:BytesT P E bytes)
  (hl:a.eval l=.int kl (n:Int)) (hc:a.eval c=.int kc (n:Int)) (hb:bytes*n≤281474976710656) (h63:n≤9223372036854775807)
  (h:∀ p cap R w',RowS E z.length p n cap (List.replicate n z).flatten R→Own w.heap.size w' R→Below w.heap.size w w'→wpList P ops Q rest (a.put d (.slice p n cap)) w'):wpList P ops Q (⟨d,.makeSlice T l c,ty,pos,after,g⟩::rest) a w:=by
 refine loc_make (Loc.start w) hw hT hby hl hc hb h63 ?_
 intro b w' hL
 refine h _ _ _ w' (RowS.full ?_ h63) hL.own hL.below
 simp[List.length_flatten]
end
def createS (t m:Nat) (s:Rs):Rs:=
 if s.things.length=100 then { s with ending:=5 } else Rs.set { s with things:=s.things++[(s.at',List.replicate m dV)] } t ⟨3,s.things.length⟩
theorem mcreate_any (w0:World) (bm:Nat) (p:Pg) (ins:Sl) (s:Rs) (i:Ins) (t m:Nat) (w:World) (h:Mach w0 bm p ins s w) (hi:i.to=t) (ht:t<s.vars.length) (hm:p.fields=m∧m≤3) (hlen:s.things.length≤100) (hat:0≤s.at'∧s.at'≤1000000):
  Calls Tryz.prog 92 #[.pointer (some ⟨bm,0,none⟩),i.v] w fun e w'=>e=.returned (.tuple #[])∧Mach w0 bm p ins (createS t m s) w':=by
 obtain⟨r,ts,Rv,Rt,Rl,Rf,hR,hL⟩:=h
 have hpm:∀ X:List LBlk,(Rv++(Rl++(X++Rt))).Perm (Rv++(Rt++(Rl++X))):=fun X=>
  List.Perm.append_left Rv (by rw[← List.append_assoc Rl X Rt];exact List.perm_append_comm)
 replace hL:=hL.perm ((hpm Rf).cons _)
 have hn:=hR.things.flatlen lenT (by decide)
 have hfl:=hR.fields.len
 have HR:=Lib.hid hR
 have HX:=Lib.hid (And.intro ht hat)
 have hmx:maxLen=9223372036854775807:=rfl
 obtain⟨kind,to,ia,ib,num,goto⟩:=i
 dsimp only at hi
 subst hi
 obtain⟨pv,pf,pc,pn,pcap⟩:=p
 dsimp only at hm
 obtain⟨rfl,hm3⟩:=hm
 have hN:r.things.n=s.things.length:=hn.trans hfl
 clear hn hpm hR ht hat
 obtain⟨ra,rv,⟨tp,tn,tc⟩,rk,rl,re⟩:=r
 dsimp only at hN
 by_cases h100:s.things.length=100
 ·obtain rfl:tn=100:=by omega
  have hC:createS t m s={ s with ending:=5 }:=by rw[createS,if_pos h100]
  have HC:=Lib.hid hC
  clear hC h100 hN hlen
  go_enter Tryz.func92,Tryz.ntmps92
  go_wp2_with (first|(with_reducible first|refine lld hL ?_|((first|refine lbx hL ?_|refine lal hL ?_|refine lbs hL ?_);clear hL;intro bl w1 hL)|(refine lst' hL ?_;clear hL;intro w1 hL))|(go_at_call 48;refine(over_any w0 bm ⟨pv,m,pc,pn,pcap⟩ ins s 5 _ ⟨_,ts,Rv,Rt,Rl,Rf,HR.out,(hL.drop (List.sublist_cons_self _ _) (fun _ h=>h)).perm (List.Perm.cons _ (List.Perm.append_left Rv (by rw[← List.append_assoc Rl Rf Rt];exact List.perm_append_comm)))⟩).mono ?_;rintro e w3 ⟨rfl,hM⟩;dsimp only))
  (try simp only[Exit.inBlock,Exit.then]);(first|refine end0 rfl rfl ?_|refine ret0 rfl rfl ?_)
  exact⟨rfl,by rw[HC.out];exact hM⟩
 ·have hne:((tn:Int)==100)=false:=by simp;omega
  have HN:=Lib.hid (And.intro hN (And.intro hlen (And.intro hm3 (And.intro hmx h100))))
  clear hN hlen hm3 hmx h100 hfl
  go_enter Tryz.func92,Tryz.ntmps92
  go_upto_region 3 with(first|(with_reducible first|refine lld hL ?_|((first|refine lbx hL ?_|refine lal hL ?_|refine lbs hL ?_);clear hL;intro bl w1 hL)|(refine lst' hL ?_;clear hL;intro w1 hL)))
  obtain⟨wq,hwq⟩:∃ x,x=w1:=⟨_,rfl⟩
  subst hwq
  refine draw_begin [13,14,15,16,17,18,19,20,21,22,23,24,25,26,27,28,29,30,31] ?_
  refine dv0 ?_
  refine dv0 ?_
  refine dv1 1 ?_
  refine dv1 2 ?_
  refine dv1 3 ?_
  refine dv1 4 ?_
  refine dv0 ?_
  refine dv1 6 ?_
  refine dv1 7 ?_
  refine dv1 8 ?_
  refine dv1 9 ?_
  refine dv0 ?_
  refine dv1 11 ?_
  refine dv1 12 ?_
  refine dv1 13 ?_
  refine dv1 14 ?_
  refine draw_next (FieldR wq.heap.size m (List.replicate m dV)) FieldR.stable ?_ ?_
  ·intro g w hb v;replace hL:=hL.grow hb;have d15:=yv v 15;clear v;simp only[fillD,fLa,fLb,sTa,sTb];simp only[d15]
   go_wp2_with (refine wp_make_new (n:=m) rfl sValues bValue rfl rfl (by have:=HN.out.2.2.1;omega) (by have:=HN.out.2.2.1;omega) ?_;intro p' cap' R' w' hS' hO' hB')
   exact⟨rfl,_,rfl,hB',_,_,_,rfl,by rw[flat_rep]at hS';exact hS',hO'.mono hb.size⟩
  simp only[apN,apC]
  refine draw_next (ThingR wq.heap.size m ra (List.replicate m dV)) ThingR.stable ?_ ?_
  ·intro g w hb v;replace hL:=hL.grow hb;have d10:=yv v 10;have d16:(FieldR wq.heap.size m (List.replicate m dV)) (g 29) w:=yr v 16;obtain⟨q16,c16,R16,d16,hS16,hO16⟩:=d16;clear v;simp only[fillD,fLa,fLb,sTa,sTb];simp only[d10,d16]
   go_wp2_with (fail)
   exact⟨rfl,_,rfl,Below.refl _ _,_,_,_,rfl,hS16,hO16⟩
  simp only[apN,apC]
  refine draw_next (RowTR wq.heap.size m ra (List.replicate m dV)) RowTR.stable ?_ ?_
  ·intro g w hb v;replace hL:=hL.grow hb;have d17:(ThingR wq.heap.size m ra (List.replicate m dV)) (g 30) w:=yr v 17;obtain⟨q17,c17,R17,d17,hS17,hO17⟩:=d17;clear v;simp only[fillD,fLa,fLb,sTa,sTb];simp only[d17]
   go_wp2_with (fail)
   exact⟨rfl,_,rfl,(Below.refl _ _).alloc (Nat.le_refl _) _,_,_,_,_,rfl,hS17,hO17.grow ((Below.refl _ _).alloc (Nat.le_refl _) _),heap_new _ _⟩
  simp only[apN,apC]
  refine draw_end1 0 hL (by kernel_rfl) (by kernel_rfl) (fun _ _ _ _ _ h=>h) ?_ ?_
  ·(refine late_ok rfl rfl ?_;intro g w hb v;(try simp[depsOf,List.filter_cons,Region.binds,AllR,RAt]at v);simp only[fillD,List.foldl_cons,List.foldl_nil,List.set_cons_succ,List.set_cons_zero];(try simp only[v]);exact⟨_,.inl ⟨rfl,fun w=>(by go_simp<;>(try (split<;>(rename_i hs;simp[hs,cnd]))))⟩,rfl⟩)
  intro g w2 hb hR;simp only[List.length_cons,List.length_nil,Nat.reduceAdd]at hR
  have e0:=yv hR 0
  have e1:=yv hR 1
  have e2:=yv hR 2
  have e3:=yv hR 3
  have e4:=yv hR 4
  have e5:=yv hR 5
  have e6:=yv hR 6
  have e7:=yv hR 7
  have e8:=yv hR 8
  have e9:=yv hR 9
  have e10:=yv hR 10
  have e11:=yv hR 11
  have e12:=yv hR 12
  have e13:=yv hR 13
  have e14:=yv hR 14
  have e15:=yv hR 15
  have e16:(FieldR wq.heap.size m (List.replicate m dV)) (g 29) w2:=yr hR 16
  obtain⟨q16,c16,R16,e16,-,-⟩:=e16
  have e17:(ThingR wq.heap.size m ra (List.replicate m dV)) (g 30) w2:=yr hR 17
  obtain⟨q17,c17,R17,e17,-,-⟩:=e17
  have e18:(RowTR wq.heap.size m ra (List.replicate m dV)) (g 31) w2:=yr hR 18
  obtain⟨qf,cf,Rn,bf,e18,hSf,hOf,hHf⟩:=e18;have hL2:=hL.gainMid (K:=(bl,_,_)::(bm,_,_)::(Rv++(Rl++Rf))) (R:=Rt) (by simp only[List.cons_append,List.append_assoc];rfl) hb hOf;clear hOf
  clear hR;simp only[fillD,fLa,fLb,sTa,sTb]
  simp only[e0,e1,e2,e3,e4,e5,e6,e7,e8,e9,e10,e11,e12,e13,e14,e15,e16,e17,e18]
  clear e0 e1 e2 e3 e4 e5 e6 e7 e8 e9 e10 e11 e12 e13 e14 e15 e16 e17 e18
  replace hL:=hL.grow hb
  clear hb
  replace hL:=hL2
  clear hL2
  go_wp2_with (first|(refine loc_appendS (K:=(bl,_,_)::(bm,_,_)::(Rv++(Rl++(Rf++Rn)))) (R:=Rt) (news:=[.int .i64 ra,.slice qf m cf]) HR.out.things hL (by simp only[List.cons_append,List.append_assoc];rfl) rfl rfl sThings bThing (by decide) rfl (fun _=>⟨⟨bf,0,none⟩,rfl,fun j u hj=>by rw[add_addr,Nat.zero_add];exact heap_cell hHf j hj⟩) rfl (by simp[Value.oneCell']) (by have:=HN.out.1;have:=HN.out.2.1;have:=HN.out.2.2.2.1;omega) (by have:=HN.out.1;have:=HN.out.2.1;omega) ?_;clear hL;intro p4 cap4 Rt4 w4 hS4 hL;simp only[List.cons_append,List.append_assoc]at hL)|(with_reducible first|refine lld hL ?_|((first|refine lbx hL ?_|refine lal hL ?_|refine lbs hL ?_);clear hL;intro bl w1 hL)|(refine lst' hL ?_;clear hL;intro w1 hL)))
  replace hL:=(hL.perm (L':=(bl,_,_)::(bm,_,_)::(Rv++(Rt4++(Rl++(Rf++Rn))))) (List.Perm.cons _ (List.Perm.cons _ (List.Perm.append_left Rv (by rw[← List.append_assoc Rf Rn Rt4,← List.append_assoc Rl (Rf++Rn) Rt4];exact List.perm_append_comm)))))
  have hR2:RowsR ⟨ra,rv,⟨p4,tn+1,cap4⟩,rk,rl,re⟩ { s with things:=s.things++[(s.at',List.replicate m dV)] } (ts++[⟨ra,⟨qf,m,cf⟩⟩]) Rv Rt4 Rl (Rf++Rn):=by
   obtain⟨h1,h2,h3,h4,h5,h6,h7⟩:=HR.out
   refine⟨h1,by simpa [flatT] using hS4,h3,?_,h5,h6,h7⟩
   have:=FRows.snoc (t:=⟨ra,⟨qf,m,cf⟩⟩) h4 hSf
   have h5' : ra=s.at':=h5
   rw[← h5'];exact this
  have HR2:=Lib.hid hR2
  have HS:=Lib.hid (show createS t m s=Rs.set { s with things:=s.things++[(s.at',List.replicate m dV)] } t ⟨3,tn⟩ by rw[createS,if_neg HN.out.2.2.2.2,HN.out.1])
  have hb1:tn≤100:=by have:=HN.out.1;have:=HN.out.2.1;omega
  clear hR2 hS4 hSf hHf HR HN
  go_upto_region 4 with(first|(with_reducible first|refine lld hL ?_|((first|refine lbx hL ?_|refine lal hL ?_|refine lbs hL ?_);clear hL;intro bl w1 hL)|(refine lst' hL ?_;clear hL;intro w1 hL)))
  refine draw_begin [36,37,38,39,40,41,42,43,44,45,46] ?_
  refine dv0 ?_
  refine dv0 ?_
  refine dv1 1 ?_
  refine dv0 ?_
  refine dv1 3 ?_
  refine dv1 4 ?_
  refine dv1 5 ?_
  refine dv1 6 ?_
  refine dv1 7 ?_
  refine dv1 8 ?_
  refine dv1 9 ?_
  refine dnd hL ?_
  clear hL;intro w5 hL;simp only[fillX,sTa,sTb]
  go_wp2_with (first|(with_reducible first|refine lld hL ?_|((first|refine lbx hL ?_|refine lal hL ?_|refine lbs hL ?_);clear hL;intro bl w1 hL)|(refine lst' hL ?_;clear hL;intro w1 hL))|(go_at_call 88;refine(set_any w0 bm ⟨pv,m,pc,pn,pcap⟩ ins _ t ⟨_,_⟩ _ ⟨_,_,Rv,Rt4,Rl,_,HR2.out,hL.drop (List.sublist_cons_self _ _) (fun _ h=>h)⟩ HX.out.1 HX.out.2).mono ?_;rintro e w3 ⟨rfl,hM⟩;dsimp only))
  (try simp only[Exit.inBlock,Exit.then]);(first|refine end0 rfl rfl ?_|refine ret0 rfl rfl ?_)
  refine⟨rfl,?_⟩
  rw[HS.out]
  exact hM
end Go.Proofs.YtplcndmdkabmeaaGreatDoor
set_option linter.unusedSimpArgs false
set_option linter.unusedVariables false
set_option maxRecDepth 100000
set_option maxHeartbeats 1600000
namespace Go.Proofs.YtplcndmdkabmeaaGreatDoor
open Go.RowKit
def lineV (v:Vl):ByteArray:=if v.kind=1 then ⟨(Lib.itoa v.n).toArray⟩ else if v.kind=2 then (if v.n=1 then ⟨#[116,114,117,101]⟩ else ⟨#[102,97,108,115,101]⟩) else if v.kind=3 then ⟨#[116,104,105,110,103]⟩ else ⟨#[110,117,108,108]⟩
theorem line_any (v:Vl) (w:World) (h0:-9223372036854775808≤v.n) (h1:v.n≤9223372036854775807) (ht:Pows w):
  Calls Tryz.prog 135 #[v.v] w fun e w'=>e=.returned (.string (lineV v))∧Below w.heap.size w w':=by
 have HT:=Lib.hid ht
 clear ht
 obtain⟨k,n⟩:=v
 dsimp only at h0 h1
 have hL:=Loc.start w
 have hcase:k=1∨(k=2∧n=1)∨(k=2∧(n==1)=false)∨k=3∨((k==1)=false∧(k==2)=false∧(k==3)=false):=by simp only[beq_eq_false_iff_ne];omega
 rcases hcase with rfl|⟨rfl,rfl⟩|⟨rfl,hn⟩|rfl|⟨g0,g1,g2⟩
 ·have HI:=Lib.hid (fun w' (hb:Below w.heap.size w w')=>itoa_lays n h0 h1 w' (HT.out.grow hb))
  clear h0 h1
  go_enter Tryz.func135,Tryz.ntmps135
  go_wp2_with (first|(with_reducible first|refine lld hL ?_|((first|refine lbx hL ?_|refine lal hL ?_|refine lbs hL ?_);clear hL;intro bl w1 hL)|(refine lst' hL ?_;clear hL;intro w1 hL))|(go_at_call 34;refine(HI.out _ hL.below).mono ?_;rintro e w3 ⟨rfl,k3,os3,rfl⟩;replace hL:=hL.grow (below_grow' _ k3 os3);dsimp only))
  (try simp only[Exit.inBlock,Exit.then]);refine rt1 ?_
  exact⟨by simp[lineV],hL.below⟩
 all_goals
  clear h0 h1
  go_enter Tryz.func135,Tryz.ntmps135
  go_wp2_with (first|(with_reducible first|refine lld hL ?_|((first|refine lbx hL ?_|refine lal hL ?_|refine lbs hL ?_);clear hL;intro bl w1 hL)|(refine lst' hL ?_;clear hL;intro w1 hL))|go_in)
  (try simp only[Exit.inBlock,Exit.then]);refine rt1 ?_
  first|exact⟨by simp[lineV];rfl,hL.below⟩|exact⟨by simp_all [lineV];rfl,hL.below⟩|exact⟨by simp_all [lineV],hL.below⟩
end Go.Proofs.YtplcndmdkabmeaaGreatDoor
set_option linter.unusedSimpArgs false
set_option linter.unusedVariables false
set_option maxRecDepth 100000
set_option maxHeartbeats 4000000
namespace Go.Proofs.YtplcndmdkabmeaaGreatDoor
open Go.RowKit
def InputsAt (w:World) (ins:Sl) (xs:Nat→Int):Prop:=ListC w 1 ins.p ins.n (fun k=>[.int .i64 (xs k)])∧ins.n≤9223372036854775807
def inputV (i:Ins) (ins:Sl) (xs:Nat→Int) (s:Rs):Int:=if s.taken<ins.n then max (-i.n) (min i.n (xs s.taken.toNat)) else 0
def takeS (i:Ins) (t:Nat) (ins:Sl) (xs:Nat→Int) (s:Rs):Rs:=Rs.set { s with taken:=wrap64 (s.taken+1) } t ⟨1,inputV i ins xs s⟩
theorem take_any (w0:World) (bm:Nat) (p:Pg) (ins:Sl) (xs:Nat→Int) (s:Rs) (i:Ins) (t:Nat) (w:World) (h:Mach w0 bm p ins s w) (hin:InputsAt w0 ins xs) (hi:i.to=t) (ht:t<s.vars.length) (hn:0≤i.n∧i.n≤1000000) (htk:0≤s.taken∧s.taken≤9223372036854775807) (hat:0≤s.at'∧s.at'≤1000000):
  Calls Tryz.prog 94 #[.pointer (some ⟨bm,0,none⟩),i.v] w fun e w'=>e=.returned (.tuple #[])∧Mach w0 bm p ins (takeS i t ins xs s) w':=by
 obtain⟨r,ts,Rv,Rt,Rl,Rf,hR,hL⟩:=h
 have hR2:RowsR { r with taken:=wrap64 (s.taken+1) } { s with taken:=wrap64 (s.taken+1) } ts Rv Rt Rl Rf:=⟨hR.vars,hR.things,hR.lines,hR.fields,hR.a,rfl,hR.e⟩
 have hrt:=hR.t
 obtain⟨hl,hm⟩:=hin
 obtain⟨b,o,hp,hc⟩:=hl.ex
 have HP:=Lib.hid hp
 have HC:=Lib.hid hc
 have HX:=Lib.hid (And.intro ht hat)
 obtain⟨kind,to,ia,ib,num,goto⟩:=i
 obtain⟨ra,rv,rg,rk,rl,re⟩:=r
 dsimp only at hi hn hrt hR2
 subst hi
 subst hrt
 have HR:=Lib.hid hR2
 obtain⟨hn0,hn1⟩:=hn
 obtain⟨ht0,ht1⟩:=htk
 clear hR hR2 hp hc ht hat hl
 by_cases hlt:s.taken<ins.n
 ·obtain⟨k,hk⟩:∃ k:Nat,s.taken=k:=⟨s.taken.toNat,by omega⟩
  have hkn:k<ins.n:=by omega
  have HP2:=Lib.hid (HP.out (by omega))
  have HRd:=Lib.hid (show ReadsAt Tryz.prog 3 w0 b (o+k) (.int .i64 (xs k)) by have h:=ReadsAt.cell (P:=Tryz.prog) tInt (HC.out k hkn).1 ((HC.out k hkn).2 0 _ rfl);rw[Nat.mul_one,Nat.add_zero]at h;exact h)
  have HT:=Lib.hid (show takeS ⟨kind,t,ia,ib,num,goto⟩ t ins xs s=Rs.set { s with taken:=wrap64 (s.taken+1) } t ⟨1,max (-num) (min num (xs k))⟩ by
   unfold takeS inputV;rw[if_pos hlt,hk];rfl)
  have HK:=Lib.hid hk
  generalize hs:s.taken=st at hlt hk HT HR hL ht0 ht1 ⊢
  subst hk
  clear HP HC
  go_enter Tryz.func94,Tryz.ntmps94
  go_upto_region 2 with(first|(with_reducible first|refine lld hL ?_|((first|refine lbx hL ?_|refine lal hL ?_|refine lbs hL ?_);clear hL;intro bl w1 hL)|(refine lst' hL ?_;clear hL;intro w1 hL)))
  refine draw_begin [5,6,7,8,9,10,11,12,13,14,15] ?_
  refine dv0 ?_
  refine dv1 0 ?_
  refine dv1 1 ?_
  refine dv1 2 ?_
  refine dv1 3 ?_
  refine dv0 ?_
  refine dv1 5 ?_
  refine dv1 6 ?_
  refine dv1 7 ?_
  refine dv1 8 ?_
  refine dv2 4 9 ?_
  refine dnd hL ?_
  clear hL;intro w2 hL;simp only[fillX,sTa,sTb]
  go_upto_region 3 with(first|(with_reducible first|refine lld hL ?_|((first|refine lbx hL ?_|refine lal hL ?_|refine lbs hL ?_);clear hL;intro bl w1 hL)|(refine lst' hL ?_;clear hL;intro w1 hL)))
  refine draw_begin [16,17,18,19,20,21,22,23,24,25,26,27,28,29,30,31,32,33,4] ?_
  refine dv0 ?_
  refine dv1 0 ?_
  refine dv1 1 ?_
  refine dv0 ?_
  refine dv1 3 ?_
  refine dv0 ?_
  refine dv1 5 ?_
  refine dv1 6 ?_
  refine dv1 7 ?_
  refine dv0 ?_
  refine dv1 9 ?_
  refine dv1 10 ?_
  refine dv1 11 ?_
  refine dv1 12 ?_
  apply draw_val
  ·intro g w hb v;replace hL:=hL.grow hb;have d8:=yv v 8;have d13:=yv v 13;clear v;simp only[fillD,fLa,fLb,sTa,sTb];simp only[d8,d13]
   (simp only[HP2.out];go_wp2)
   exact cY
  simp only[apN,apC]
  apply draw_val
  ·intro g w hb v;replace hL:=hL.grow hb;have d14:=yv v 14;clear v;simp only[fillD,fLa,fLb,sTa,sTb];simp only[d14]
   refine loc_loadB HRd.out hL rfl rfl ?_
   exact cY
  simp only[apN,apC]
  refine dv2 4 15 ?_
  refine dv2 2 16 ?_
  refine dv1 17 ?_
  refine dnd hL ?_
  clear hL;intro w3 hL;simp only[fillX,sTa,sTb]
  have hw1:wrap64 ((k:Int)+1)=k+1:=Go.IntWalk.wrap64_in _ (by omega)
  rw[hw1]at HR HT
  clear hw1
  go_wp2_with (first|(with_reducible first|refine lld hL ?_|((first|refine lbx hL ?_|refine lal hL ?_|refine lbs hL ?_);clear hL;intro bl w1 hL)|(refine lst' hL ?_;clear hL;intro w1 hL))|(go_at_call 88;refine(set_any w0 bm p ins _ t ⟨_,_⟩ _ ⟨_,_,Rv,Rt,Rl,_,HR.out,hL.drop (List.sublist_cons_self _ _) (fun _ h=>h)⟩ HX.out.1 HX.out.2).mono ?_;rintro e w3 ⟨rfl,hM⟩;dsimp only))
  (try simp only[Exit.inBlock,Exit.then]);(first|refine end0 rfl rfl ?_|refine ret0 rfl rfl ?_)
  exact⟨rfl,by rw[HT.out];exact hM⟩
 ·have HT:=Lib.hid (show takeS ⟨kind,t,ia,ib,num,goto⟩ t ins xs s=Rs.set { s with taken:=wrap64 (s.taken+1) } t ⟨1,0⟩ by
   unfold takeS inputV;rw[if_neg hlt])
  generalize hs:s.taken=st at hlt HT HR hL ht0 ht1 ⊢
  clear HP HC
  replace hlt:(ins.n:Int)≤st:=by omega
  go_enter Tryz.func94,Tryz.ntmps94
  go_upto_region 2 with(first|(with_reducible first|refine lld hL ?_|((first|refine lbx hL ?_|refine lal hL ?_|refine lbs hL ?_);clear hL;intro bl w1 hL)|(refine lst' hL ?_;clear hL;intro w1 hL)))
  refine draw_begin [5,6,7,8,9,10,11,12,13,14,15] ?_
  refine dv0 ?_
  refine dv1 0 ?_
  refine dv1 1 ?_
  refine dv1 2 ?_
  refine dv1 3 ?_
  refine dv0 ?_
  refine dv1 5 ?_
  refine dv1 6 ?_
  refine dv1 7 ?_
  refine dv1 8 ?_
  refine dv2 4 9 ?_
  refine dnd hL ?_
  clear hL;intro w2 hL;simp only[fillX,sTa,sTb]
  go_wp2_with (first|(with_reducible first|refine lld hL ?_|((first|refine lbx hL ?_|refine lal hL ?_|refine lbs hL ?_);clear hL;intro bl w1 hL)|(refine lst' hL ?_;clear hL;intro w1 hL))|(go_at_call 88;refine(set_any w0 bm p ins _ t ⟨_,_⟩ _ ⟨_,_,Rv,Rt,Rl,_,HR.out,hL.drop (List.sublist_cons_self _ _) (fun _ h=>h)⟩ HX.out.1 HX.out.2).mono ?_;rintro e w3 ⟨rfl,hM⟩;dsimp only))
  (try simp only[Exit.inBlock,Exit.then]);(first|refine end0 rfl rfl ?_|refine ret0 rfl rfl ?_)
  exact⟨rfl,by rw[HT.out];exact hM⟩
end Go.Proofs.YtplcndmdkabmeaaGreatDoor
set_option linter.unusedSimpArgs false
set_option linter.unusedVariables false
set_option maxRecDepth 100000
set_option maxHeartbeats 1000000
namespace Go.Proofs.YtplcndmdkabmeaaGreatDoor
open Go.RowKit
def onwardS (kind goto:Int) (a:Nat) (s:Rs):Rs:=
 if kind=16 then { s with at':=goto }
 else if kind=15 then (if countsV (s.val a) then { s with at':=goto } else { s with at':=s.at' + 1 })
 else if kind=17 then (if countsV (s.val a) then { s with at':=s.at' + 1 } else { s with ending:=3 })
 else if kind=18 then { s with lines:=s.lines++[lineV (s.val a)],at':=s.at' + 1 }
 else { s with ending:=1 }
theorem onward_plain (w0:World) (bm:Nat) (p:Pg) (ins:Sl) (s:Rs) (i:Ins) (w:World) (h:Mach w0 bm p ins s w) (hk:i.kind=16∨i.kind=19):
  Calls Tryz.prog 95 #[.pointer (some ⟨bm,0,none⟩),i.v] w fun e w'=>e=.returned (.tuple #[])∧Mach w0 bm p ins (onwardS i.kind i.goto i.a.toNat s) w':=by
 obtain⟨r,ts,Rv,Rt,Rl,Rf,hR,hL⟩:=h
 obtain⟨kind,to,ia,ib,num,goto⟩:=i
 have HR:=Lib.hid hR
 obtain⟨ra,rv,rg,rk,rl,re⟩:=r
 dsimp only at hk
 clear hR
 rcases hk with rfl|rfl
 ·go_enter Tryz.func95,Tryz.ntmps95
  go_wp2_with (first|(with_reducible first|refine lld hL ?_|((first|refine lbx hL ?_|refine lal hL ?_|refine lbs hL ?_);clear hL;intro bl w1 hL)|(refine lst' hL ?_;clear hL;intro w1 hL)))
  (try simp only[Exit.inBlock,Exit.then]);(first|refine end0 rfl rfl ?_|refine ret0 rfl rfl ?_)
  obtain⟨h1,h2,h3,h4,h5,h6,h7⟩:=HR.out
  exact⟨rfl,⟨goto,rv,rg,rk,rl,re⟩,ts,Rv,Rt,Rl,Rf,⟨h1,h2,h3,h4,rfl,h6,h7⟩,hL.drop (List.sublist_cons_self _ _) (fun _ h=>h)⟩
 ·go_enter Tryz.func95,Tryz.ntmps95
  go_wp2_with (first|(with_reducible first|refine lld hL ?_|((first|refine lbx hL ?_|refine lal hL ?_|refine lbs hL ?_);clear hL;intro bl w1 hL)|(refine lst' hL ?_;clear hL;intro w1 hL))|(go_at_call 48;refine(over_any w0 bm p ins s 1 _ ⟨_,ts,Rv,Rt,Rl,Rf,HR.out,hL.drop (List.sublist_cons_self _ _) (fun _ h=>h)⟩).mono ?_;rintro e w3 ⟨rfl,hM⟩;dsimp only))
  (try simp only[Exit.inBlock,Exit.then]);(first|refine end0 rfl rfl ?_|refine ret0 rfl rfl ?_)
  exact⟨rfl,by simpa [onwardS] using hM⟩
theorem onward_any (w0:World) (bm:Nat) (p:Pg) (ins:Sl) (s:Rs) (i:Ins) (a:Nat) (w:World) (h:Mach w0 bm p ins s w) (hk:i.kind=15∨i.kind=17∨i.kind=18) (hi:i.a=a) (ha:a<s.vars.length) (hat:0≤s.at'∧s.at'≤1000000)
  (hn:-9223372036854775808≤(s.val a).n∧(s.val a).n≤9223372036854775807) (hl:s.lines.length*16+16≤140737488355328) (hp:Pows w0):
  Calls Tryz.prog 95 #[.pointer (some ⟨bm,0,none⟩),i.v] w fun e w'=>e=.returned (.tuple #[])∧Mach w0 bm p ins (onwardS i.kind i.goto a s) w':=by
 obtain⟨r,ts,Rv,Rt,Rl,Rf,hR,hL⟩:=h
 have hvn:=hR.vars.flatlen lenV (by decide)
 have hln:=hR.lines.flatlen lenL (by decide)
 obtain⟨gv,cs,hpv,rfl,htk,hlen⟩:=hR.vars.block (by omega)
 have hpm:∀ X:List LBlk,(Rt++(Rf++X)).Perm (Rt++(X++Rf)):=fun X=>List.Perm.append_left Rt List.perm_append_comm
 replace hL:=hL.perm (((hpm Rl).append_left [(gv,77,cs)]).cons _)
 simp only[List.cons_append,List.nil_append]at hL
 have hea:=hR.vars.elem lenV dV (k:=a) (by omega)
 obtain⟨va,hva⟩:∃ x,x=s.val a:=⟨_,rfl⟩
 have HA:=Lib.hid (show Reads Tryz.prog 77 cs (a*2) va.v by rw[hva];exact Reads.agg tValue hea rfl)
 rw[← hva]at hn
 have HR:=Lib.hid hR
 have ha1:a<r.vars.n:=by omega
 have hra:=hR.a
 have hmx:maxLen=9223372036854775807:=rfl
 have HX:=Lib.hid (And.intro hln (And.intro hl (And.intro hn (And.intro hva hmx))))
 have HW:=Lib.hid hp
 obtain⟨kind,to,ia,ib,num,goto⟩:=i
 dsimp only at hi hk
 subst hi
 rw[← hra]at hat
 obtain⟨ha0,ha9⟩:=hat
 have HA2:=Lib.hid hra
 clear hR hea hvn htk hlen ha hva hln hl hpm hn hp hra hmx
 obtain⟨ra,⟨vp,vn,vc⟩,rt,rk,⟨lp,ln,lc⟩,re⟩:=r
 dsimp only at hpv ha1 ha0 ha9
 subst hpv
 have HM:=Lib.hid (fun (ra' re' : Int) (s' : Rs) (w' : World) (h1:s'.at'=ra') (h2:s'.ending=re') (h3:s'.vars=s.vars∧s'.things=s.things∧s'.lines=s.lines∧s'.taken=s.taken)
   (hL:Loc w0 w' ((bm,100,machC p ⟨ra',⟨some ⟨gv,0,none⟩,vn,vc⟩,rt,rk,⟨lp,ln,lc⟩,re'⟩ ins)::(gv,77,cs)::(Rt++(Rf++Rl))) [])=>(by
    obtain⟨k1,k2,k3,k4,k5,k6,k7⟩:=HR.out
    obtain⟨e1,e2,e3,e4⟩:=h3
    refine⟨⟨ra',⟨some ⟨gv,0,none⟩,vn,vc⟩,rt,rk,⟨lp,ln,lc⟩,re'⟩,ts,[(gv,77,cs)],Rt,Rl,Rf,⟨by rw[e1];exact k1,k2,by rw[e3];exact k3,by rw[e2];exact k4,h1.symm,by rw[e4];exact k6,h2.symm⟩,?_⟩
    exact hL.perm (((List.Perm.append_left Rt List.perm_append_comm).append_left [(gv,77,cs)]).cons _):Mach w0 bm p ins s' w'))
 rcases hk with rfl|rfl|rfl
 ·go_enter Tryz.func95,Tryz.ntmps95
  go_upto_region 5 with(first|(with_reducible first|refine lld hL ?_|((first|refine lbx hL ?_|refine lal hL ?_|refine lbs hL ?_);clear hL;intro bl w1 hL)|(refine lst' hL ?_;clear hL;intro w1 hL)))
  refine draw_begin [16,17,18,19,20,21,22,23,24,25] ?_
  refine dv0 ?_
  refine dv1 0 ?_
  refine dv1 1 ?_
  refine dv1 2 ?_
  refine dv1 3 ?_
  refine dv0 ?_
  refine dv1 5 ?_
  refine dv2 4 6 ?_
  apply draw_val
  ·intro g w hb v;replace hL:=hL.grow hb;have d7:=yv v 7;clear v;simp only[fillD,fLa,fLb,sTa,sTb];simp only[d7]
   refine loc_load hL rfl rfl cIn HA.out ?_
   exact cY
  simp only[apN,apC]
  apply draw_val
  ·intro g w hb v;replace hL:=hL.grow hb;have d8:=yv v 8;clear v;simp only[fillD,fLa,fLb,sTa,sTb];simp only[d8]
   go_wp2_with (go_at_call 91;refine(counts_any _ _).mono ?_;rintro e w3 ⟨rfl,hb3⟩;dsimp only)
   exact⟨rfl,_,rfl,hb3,rfl⟩
  simp only[apN,apC]
  refine dnd hL ?_
  clear hL;intro w2 hL;simp only[fillX,sTa,sTb]
  clear HA
  cases hc:countsV va with
  | true=>
   have HC:=Lib.hid (show onwardS 15 goto a s={ s with at':=goto } by rw[onwardS,if_neg (by decide),if_pos rfl,← HX.out.2.2.2.1,if_pos hc])
   clear hc
   go_wp2_with (first|(with_reducible first|refine lld hL ?_|((first|refine lbx hL ?_|refine lal hL ?_|refine lbs hL ?_);clear hL;intro bl w1 hL)|(refine lst' hL ?_;clear hL;intro w1 hL)))
   (try simp only[Exit.inBlock,Exit.then]);(first|refine end0 rfl rfl ?_|refine ret0 rfl rfl ?_)
   exact⟨rfl,by rw[HC.out];exact HM.out goto re _ _ rfl HR.out.e.symm ⟨rfl,rfl,rfl,rfl⟩ (hL.drop (List.sublist_cons_self _ _) (fun _ h=>h))⟩
  | false=>
   have HC:=Lib.hid (show onwardS 15 goto a s={ s with at':=s.at' + 1 } by rw[onwardS,if_neg (by decide),if_pos rfl,← HX.out.2.2.2.1,hc];rfl)
   clear hc
   go_wp2_with (first|(with_reducible first|refine lld hL ?_|((first|refine lbx hL ?_|refine lal hL ?_|refine lbs hL ?_);clear hL;intro bl w1 hL)|(refine lst' hL ?_;clear hL;intro w1 hL)))
   (try simp only[Exit.inBlock,Exit.then]);(first|refine end0 rfl rfl ?_|refine ret0 rfl rfl ?_)
   exact⟨rfl,by rw[HC.out];exact HM.out (ra+1) re _ _ (by have:=HA2.out;dsimp only at this ⊢;rw[this]) HR.out.e.symm ⟨rfl,rfl,rfl,rfl⟩ (hL.drop (List.sublist_cons_self _ _) (fun _ h=>h))⟩
 ·go_enter Tryz.func95,Tryz.ntmps95
  go_upto_region 8 with(first|(with_reducible first|refine lld hL ?_|((first|refine lbx hL ?_|refine lal hL ?_|refine lbs hL ?_);clear hL;intro bl w1 hL)|(refine lst' hL ?_;clear hL;intro w1 hL)))
  refine draw_begin [34,35,36,37,38,39,40,41,42,43,44] ?_
  refine dv0 ?_
  refine dv1 0 ?_
  refine dv1 1 ?_
  refine dv1 2 ?_
  refine dv1 3 ?_
  refine dv0 ?_
  refine dv1 5 ?_
  refine dv2 4 6 ?_
  apply draw_val
  ·intro g w hb v;replace hL:=hL.grow hb;have d7:=yv v 7;clear v;simp only[fillD,fLa,fLb,sTa,sTb];simp only[d7]
   refine loc_load hL rfl rfl cIn HA.out ?_
   exact cY
  simp only[apN,apC]
  apply draw_val
  ·intro g w hb v;replace hL:=hL.grow hb;have d8:=yv v 8;clear v;simp only[fillD,fLa,fLb,sTa,sTb];simp only[d8]
   go_wp2_with (go_at_call 91;refine(counts_any _ _).mono ?_;rintro e w3 ⟨rfl,hb3⟩;dsimp only)
   exact⟨rfl,_,rfl,hb3,rfl⟩
  simp only[apN,apC]
  refine dv1 9 ?_
  refine dnd hL ?_
  clear hL;intro w2 hL;simp only[fillX,sTa,sTb]
  clear HA
  cases hc:countsV va with
  | true=>
   have HC:=Lib.hid (show onwardS 17 goto a s={ s with at':=s.at' + 1 } by rw[onwardS,if_neg (by decide),if_neg (by decide),if_pos rfl,← HX.out.2.2.2.1,if_pos hc])
   clear hc
   go_wp2_with (first|(with_reducible first|refine lld hL ?_|((first|refine lbx hL ?_|refine lal hL ?_|refine lbs hL ?_);clear hL;intro bl w1 hL)|(refine lst' hL ?_;clear hL;intro w1 hL)))
   (try simp only[Exit.inBlock,Exit.then]);(first|refine end0 rfl rfl ?_|refine ret0 rfl rfl ?_)
   exact⟨rfl,by rw[HC.out];exact HM.out (ra+1) re _ _ (by have:=HA2.out;dsimp only at this ⊢;rw[this]) HR.out.e.symm ⟨rfl,rfl,rfl,rfl⟩ (hL.drop (List.sublist_cons_self _ _) (fun _ h=>h))⟩
  | false=>
   have HC:=Lib.hid (show onwardS 17 goto a s={ s with ending:=3 } by rw[onwardS,if_neg (by decide),if_neg (by decide),if_pos rfl,← HX.out.2.2.2.1,hc];rfl)
   clear hc
   go_wp2_with (first|(with_reducible first|refine lld hL ?_|((first|refine lbx hL ?_|refine lal hL ?_|refine lbs hL ?_);clear hL;intro bl w1 hL)|(refine lst' hL ?_;clear hL;intro w1 hL))|(go_at_call 48;refine(over_any w0 bm p ins s 3 _ (HM.out ra re s _ HA2.out.symm HR.out.e.symm ⟨rfl,rfl,rfl,rfl⟩ (hL.drop (List.sublist_cons_self _ _) (fun _ h=>h)))).mono ?_;rintro e w3 ⟨rfl,hM⟩;dsimp only))
   (try simp only[Exit.inBlock,Exit.then]);(first|refine end0 rfl rfl ?_|refine ret0 rfl rfl ?_)
   exact⟨rfl,by rw[HC.out];exact hM⟩
 ·go_enter Tryz.func95,Tryz.ntmps95
  go_upto_region 11 with(first|(with_reducible first|refine lld hL ?_|((first|refine lbx hL ?_|refine lal hL ?_|refine lbs hL ?_);clear hL;intro bl w1 hL)|(refine lst' hL ?_;clear hL;intro w1 hL)))
  refine draw_begin [49,50,51,52,53,54,55,56,57,58,59,60,61,62,63,64,65] ?_
  refine dv0 ?_
  refine dv0 ?_
  refine dv1 1 ?_
  refine dv1 2 ?_
  refine dv1 3 ?_
  refine dv1 4 ?_
  refine dv0 ?_
  refine dv1 6 ?_
  refine dv1 7 ?_
  refine dv1 8 ?_
  refine dv1 9 ?_
  refine dv0 ?_
  refine dv1 11 ?_
  refine dv2 10 12 ?_
  apply draw_val
  ·intro g w hb v;replace hL:=hL.grow hb;have d13:=yv v 13;clear v;simp only[fillD,fLa,fLb,sTa,sTb];simp only[d13]
   refine loc_load hL rfl rfl cIn HA.out ?_
   exact cY
  simp only[apN,apC]
  apply draw_val
  ·intro g w hb v;replace hL:=hL.grow hb;have d14:=yv v 14;clear v;simp only[fillD,fLa,fLb,sTa,sTb];simp only[d14]
   go_wp2_with (go_at_call 135;refine(line_any _ _ HX.out.2.2.1.1 HX.out.2.2.1.2 (HW.out.grow hL.below)).mono ?_;rintro e w3 ⟨rfl,hb3⟩;dsimp only)
   exact⟨rfl,_,rfl,hb3,rfl⟩
  simp only[apN,apC]
  apply draw_row
  ·intro g w hb v;replace hL:=hL.grow hb;have d15:=yv v 15;clear v;simp only[fillD,fLa,fLb,sTa,sTb];simp only[d15]
   go_wp2
   exact⟨rfl,_,rfl,(Below.refl _ _).alloc (Nat.le_refl _) _,_,hb.size,rfl,heap_new _ _⟩
  simp only[apN,apC]
  refine draw_end1 0 hL (by kernel_rfl) (by kernel_rfl) (fun _ _ _ _ _ h=>h) ?_ ?_
  ·(refine late_ok rfl rfl ?_;intro g w hb v;(try simp[depsOf,List.filter_cons,Region.binds,AllR,RAt]at v);simp only[fillD,List.foldl_cons,List.foldl_nil,List.set_cons_succ,List.set_cons_zero];(try simp only[v]);exact⟨_,.inl ⟨rfl,fun w=>(by go_simp<;>(try (split<;>(rename_i hs;simp[hs,cnd]))))⟩,rfl⟩)
  intro g w2 hb hR;simp only[List.length_cons,List.length_nil,Nat.reduceAdd]at hR
  have e0:=yv hR 0
  have e1:=yv hR 1
  have e2:=yv hR 2
  have e3:=yv hR 3
  have e4:=yv hR 4
  have e5:=yv hR 5
  have e6:=yv hR 6
  have e7:=yv hR 7
  have e8:=yv hR 8
  have e9:=yv hR 9
  have e10:=yv hR 10
  have e11:=yv hR 11
  have e12:=yv hR 12
  have e13:=yv hR 13
  have e14:=yv hR 14
  have e15:=yv hR 15
  obtain⟨b16,p16,e16,c16⟩:=rat_row (allR_get hR (j:=16) (by decide)) rfl rfl
  clear hR;simp only[fillD,fLa,fLb,sTa,sTb]
  simp only[e0,e1,e2,e3,e4,e5,e6,e7,e8,e9,e10,e11,e12,e13,e14,e15,e16]
  clear e0 e1 e2 e3 e4 e5 e6 e7 e8 e9 e10 e11 e12 e13 e14 e15 e16
  replace hL:=hL.moreAll hb (Ds:=[HeapAt b16 _ _]) (by
   intro S hS
   simp only[List.mem_cons,List.not_mem_nil,or_false]at hS
   rcases hS with rfl
   ·exact HeapAt.fresh p16 c16)
  simp only[List.cons_append,List.nil_append]at hL
  clear p16 c16
  clear hb
  clear HA
  have HC:=Lib.hid (show onwardS 18 goto a s={ s with lines:=s.lines++[lineV va],at':=s.at' + 1 } by rw[onwardS,if_neg (by decide),if_neg (by decide),if_neg (by decide),if_pos rfl,← HX.out.2.2.2.1])
  have HSl:=Lib.hid HR.out.lines
  go_wp2_with (first|(refine loc_appendS (K:=(bl,_,_)::(bm,_,_)::(gv,_,_)::(Rt++Rf)) (R:=Rl) (news:=[.string (lineV va)]) HSl.out hL (by simp only[List.cons_append,List.append_assoc];rfl) rfl rfl sStrs bStr (by decide) rfl (fun _=>⟨⟨b16,0,none⟩,rfl,fun j u hj=>by rw[add_addr,Nat.zero_add];exact heap_cell (hL.get (S:=HeapAt b16 _ _) List.mem_cons_self) j hj⟩) rfl (by simp[Value.oneCell']) (by have h1:=HX.out.1;have h2:=HX.out.2.1;have h3:=HX.out.2.2.2.2;dsimp only at h1;omega) (by have h1:=HX.out.1;have h2:=HX.out.2.1;dsimp only at h1;omega) ?_;clear hL;intro p4 cap4 Rl4 w4 hS4 hL;simp only[List.cons_append,List.append_assoc]at hL)|(with_reducible first|refine lld hL ?_|((first|refine lbx hL ?_|refine lal hL ?_|refine lbs hL ?_);clear hL;intro bl w1 hL)|(refine lst' hL ?_;clear hL;intro w1 hL)))
  (try simp only[Exit.inBlock,Exit.then]);(first|refine end0 rfl rfl ?_|refine ret0 rfl rfl ?_)
  obtain⟨k1,k2,k3,k4,k5,k6,k7⟩:=HR.out
  rw[HC.out]
  refine⟨rfl,⟨ra+1,⟨some ⟨gv,0,none⟩,vn,vc⟩,rt,rk,⟨p4,ln+1,cap4⟩,re⟩,ts,[(gv,77,cs)],Rt,Rl4,Rf,⟨k1,k2,by simpa [flatL] using hS4,k4,?_,k6,k7⟩,?_⟩
  ·have:=HA2.out;dsimp only at this ⊢;rw[this]
  ·have h:=hL.drop (D':=[]) (List.sublist_cons_self _ _) (fun S hS=>by cases hS)
   exact h.perm (((List.Perm.append_left Rt List.perm_append_comm).append_left [(gv,77,cs)]).cons _)
end Go.Proofs.YtplcndmdkabmeaaGreatDoor
