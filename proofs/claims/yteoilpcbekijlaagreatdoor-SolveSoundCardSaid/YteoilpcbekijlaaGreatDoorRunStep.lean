/-  -/
import Derived.Test.YteoilpcbekijlaaGreatDoorRbs
set_option linter.unusedSimpArgs false
set_option linter.unusedVariables false
set_option maxRecDepth 100000
set_option maxHeartbeats 4000000
namespace Go.Proofs.YteoilpcbekijlaaGreatDoor
open Go.RowKit
theorem Mach.grow {w0 w w' : World}{bm:Nat}{p:Pg}{ins:Sl}{s:Rs}(h:Mach w0 bm p ins s w) (hb:Below w.heap.size w w'):Mach w0 bm p ins s w':=by
 obtain⟨r,ts,Rv,Rt,Rl,Rf,hR,hL⟩:=h
 exact⟨r,ts,Rv,Rt,Rl,Rf,hR,hL.grow hb⟩
def GivR (B:Nat) (s:Rs):Value→World→Prop:=fun v w=>∃ r ts Rv Rt Rl Rf,v=Rn.v r∧RowsR r s ts Rv Rt Rl Rf∧Own B w (Rv++(Rt++(Rl++Rf)))
theorem GivR.stable {B:Nat}{s:Rs}:Stable (GivR B s):=by
 rintro v w w' hb ⟨r,ts,Rv,Rt,Rl,Rf,h1,h2,h3⟩;exact⟨r,ts,Rv,Rt,Rl,Rf,h1,h2,h3.grow hb⟩
def MacR (B:Nat) (p:Pg) (ins:Sl) (s:Rs):Value→World→Prop:=fun v w=>∃ r ts Rv Rt Rl Rf,v=.agg (machC p r ins).toArray∧RowsR r s ts Rv Rt Rl Rf∧Own B w (Rv++(Rt++(Rl++Rf)))
theorem MacR.stable {B:Nat}{p:Pg}{ins:Sl}{s:Rs}:Stable (MacR B p ins s):=by
 rintro v w w' hb ⟨r,ts,Rv,Rt,Rl,Rf,h1,h2,h3⟩;exact⟨r,ts,Rv,Rt,Rl,Rf,h1,h2,h3.grow hb⟩
def BoxR (B:Nat) (p:Pg) (ins:Sl) (s:Rs):Value→World→Prop:=fun v w=>∃ b r ts Rv Rt Rl Rf,v=.pointer (some ⟨b,0,none⟩)∧RowsR r s ts Rv Rt Rl Rf∧Own B w ((b,104,machC p r ins)::(Rv++(Rt++(Rl++Rf))))
theorem BoxR.stable {B:Nat}{p:Pg}{ins:Sl}{s:Rs}:Stable (BoxR B p ins s):=by
 rintro v w w' hb ⟨b,r,ts,Rv,Rt,Rl,Rf,h1,h2,h3⟩;exact⟨b,r,ts,Rv,Rt,Rl,Rf,h1,h2,h3.grow hb⟩
theorem Own.box {B:Nat}{w:World}{R:List LBlk}(h:Own B w R) (hB:B≤w.heap.size) (T:TypeId) (cs:List Value):Own B (w.alloc (.cells cs.toArray T)) ((w.heap.size,T,cs)::R):=by
 have hb:Below w.heap.size w (w.alloc (.cells cs.toArray T)):=(Below.refl _ _).alloc (Nat.le_refl _) _
 refine⟨?_,fun e he=>?_⟩
 ·simp only[List.map_cons,List.nodup_cons]
  refine⟨fun hm=>?_,h.nodup⟩
  obtain⟨e,he,hee⟩:=List.mem_map.1 hm
  have:=heap_lt (h.at' e he).2
  omega
 ·rcases List.mem_cons.1 he with rfl|he
  ·exact⟨hB,heap_new _ _⟩
  ·exact(h.grow hb).at' e he
theorem runStep_ok (p:Pg) (is:Nat→Ins) (ins:Sl) (xs:Nat→Int) (r:Rn) (s:Rs) (vs:Nat→Vl) (ths:Nat→Th) (fv:Nat→Nat→Vl) (w:World) (hn:p.n≤9223372036854775807) (hc:CodeAt w p is) (hr:RunL w r vs ths fv) (hq:checkRun p is r vs ths fv=0)
  (hri:RunIs w r s) (hR:RightS p s) (hP:checkProg p is=0) (hin:InputsAt w ins xs) (hl:s.lines.length*16≤140737488351232) (hpw:Pows w):
  Calls Tryz.prog 23 #[p.v,r.v,ins.v] w fun e w'=>∃ r' ts Rv Rt Rl Rf,e=.returned (.tuple #[Rn.v r',.int .i64 0])∧RowsR r' (stepS p is ins xs s) ts Rv Rt Rl Rf∧Own w.heap.size w' (Rv++(Rt++(Rl++Rf)))∧Below w.heap.size w w':=by
 have hkk:=fun w' (hb:Below w.heap.size w w')=>runCheck_any p is r vs ths fv w' hn (hc.grow hb) (hr.grow hb)
 rw[hq]at hkk
 have HK:=Lib.hid hkk
 have hfit:=fits_of hR (prog_right hP).1 hl
 have HO:=Lib.hid (fun w' (hb:Below w.heap.size w w')=>own_any r s w' (hri.grow hb) hfit)
 have HST:=Lib.hid (fun w1 w2 bm (hb:Below w.heap.size w w1) (hM:Mach w1 bm p ins s w2)=>step_all w1 bm p is ins xs s w2 hM hR hP (hc.grow hb) ⟨hin.1.grow hb,hin.2⟩ hl (hpw.grow hb))
 clear hkk hfit hR hP hin hl hpw hri hq hc hr hn
 have hL:=Loc.start w
 by_cases he:s.ending=0
 ·have HE:=Lib.hid he
  have HSS:=Lib.hid (show stepS p is ins xs s=stepM p is ins xs s by rw[stepS,if_pos he])
  clear he
  go_enter Tryz.func23,Tryz.ntmps23
  go_upto_region 4 with(first|(with_reducible first|refine lld hL ?_|((first|refine lbx hL ?_|refine lal hL ?_|refine lbs hL ?_);clear hL;intro bl w1 hL)|(refine lst' hL ?_;clear hL;intro w1 hL))|(go_at_call 47;refine(HK.out _ hL.below).mono ?_;rintro e w1 ⟨rfl,hb⟩;replace hL:=hL.grow hb;clear hb;dsimp only))
  obtain⟨wq,hwq⟩:∃ x,x=w1:=⟨_,rfl⟩
  subst hwq
  refine draw_begin [17,18,19,20,21,22,9] ?_
  refine dv0 ?_
  refine dv0 ?_
  refine draw_next (GivR wq.heap.size s) GivR.stable ?_ ?_
  ·intro g w hb y;replace hL:=hL.grow hb;have d1:=yv y 1;clear y;simp only[fillD,fLa,fLb,sTa,sTb];simp only[d1]
   go_wp2_with (go_at_call 59;refine(HO.out _ hL.below).mono ?_;rintro e w3 ⟨r1,ts,Rv,Rt,Rl,Rf,rfl,hR1,ho1,hb1⟩;dsimp only)
   exact⟨rfl,_,rfl,hb1,r1,ts,Rv,Rt,Rl,Rf,rfl,hR1,ho1.mono hb.size⟩
  simp only[apN,apC]
  refine dv0 ?_
  refine draw_next (MacR wq.heap.size p ins s) MacR.stable ?_ ?_
  ·intro g w hb y;replace hL:=hL.grow hb;have d0:=yv y 0;have d2:(GivR wq.heap.size s) (g 19) w:=yr y 2;obtain⟨r1,ts,Rv,Rt,Rl,Rf,d2,hR1,ho1⟩:=d2;have d3:=yv y 3;clear y;simp only[fillD,fLa,fLb,sTa,sTb];simp only[d0,d2,d3]
   go_wp2_with (fail)
   exact⟨rfl,_,rfl,Below.refl _ _,r1,ts,Rv,Rt,Rl,Rf,rfl,hR1,ho1⟩
  simp only[apN,apC]
  refine draw_next (BoxR wq.heap.size p ins s) BoxR.stable ?_ ?_
  ·intro g w hb y;replace hL:=hL.grow hb;have d4:(MacR wq.heap.size p ins s) (g 21) w:=yr y 4;obtain⟨r1,ts,Rv,Rt,Rl,Rf,d4,hR1,ho1⟩:=d4;clear y;simp only[fillD,fLa,fLb,sTa,sTb];simp only[d4]
   go_wp2_with (fail)
   exact⟨rfl,_,rfl,(Below.refl _ _).alloc (Nat.le_refl _) _,_,r1,ts,Rv,Rt,Rl,Rf,rfl,hR1,ho1.box hb.size _ _⟩
  simp only[apN,apC]
  refine draw_next (BoxR wq.heap.size p ins s) BoxR.stable ?_ ?_
  ·intro g w hb y;replace hL:=hL.grow hb;have d5:(BoxR wq.heap.size p ins s) (g 22) w:=yr y 5;obtain⟨b1,r1,ts,Rv,Rt,Rl,Rf,d5,hR1,ho1⟩:=d5;clear y;simp only[fillD,fLa,fLb,sTa,sTb];simp only[d5]
   go_wp2_with (fail)
   exact⟨rfl,_,rfl,Below.refl _ _,b1,r1,ts,Rv,Rt,Rl,Rf,rfl,hR1,ho1⟩
  simp only[apN,apC]
  refine draw_end hL (by kernel_rfl) (by kernel_rfl) ?_
  intro g w2 hb hR;simp only[List.length_cons,List.length_nil,Nat.reduceAdd]at hR
  have e0:=yv hR 0
  have e1:=yv hR 1
  have e2:(GivR wq.heap.size s) (g 19) w2:=yr hR 2
  obtain⟨rz2,-,-,-,-,-,e2,-,-⟩:=e2
  have e3:=yv hR 3
  have e4:(MacR wq.heap.size p ins s) (g 21) w2:=yr hR 4
  obtain⟨rz4,-,-,-,-,-,e4,-,-⟩:=e4
  have e5:(BoxR wq.heap.size p ins s) (g 22) w2:=yr hR 5
  obtain⟨bz5,-,-,-,-,-,-,e5,-,-⟩:=e5
  have e6:(BoxR wq.heap.size p ins s) (g 9) w2:=yr hR 6
  obtain⟨bm,r1,ts,Rv,Rt,Rl,Rf,e6,hR1,ho1⟩:=e6;have hL0:=hL;have hb0:=hb
  clear hR;simp only[fillD,fLa,fLb,sTa,sTb]
  simp only[e0,e1,e2,e3,e4,e5,e6]
  clear e0 e1 e2 e3 e4 e5 e6
  replace hL:=hL.grow hb
  clear hb
  have hM0:Mach wq bm p ins s w2:=⟨r1,ts,Rv,Rt,Rl,Rf,hR1,Loc.ofOwn hb0 ho1⟩
  have HMM:=Lib.hid hM0
  replace hL:=hL0.gainTail hb0 ho1
  simp only[List.cons_append,List.nil_append]at hL
  have hre:r1.ending=0:=hR1.e.trans HE.out
  clear hM0 ho1 hb0 hR1
  obtain⟨ra,rv,rt,rk,rl,re⟩:=r1
  dsimp only at hre
  subst hre
  dsimp only[machC]at hL
  go_wp2_with (first|(with_reducible first|refine lld hL ?_|((first|refine lbx hL ?_|refine lal hL ?_|refine lbs hL ?_);clear hL;intro bl w1 hL)|(refine lst' hL ?_;clear hL;intro w1 hL))|(go_at_call 52;refine(HST.out wq _ bm hL0.below HMM.out).mono ?_;rintro e w3 ⟨rfl,hM⟩;obtain⟨⟨ra3,rv3,rt3,rk3,rl3,re3⟩,ts3,Rv3,Rt3,Rl3,Rf3,hR3,hL3⟩:=hM;replace hL:=hL0.gainTail hL3.below hL3.own;simp only[List.cons_append,List.nil_append]at hL;dsimp only[machC]at hL;dsimp only))
  (try simp only[Exit.inBlock,Exit.then]);refine rt2 ?_
  rw[HSS.out]
  exact⟨⟨ra3,rv3,rt3,rk3,rl3,re3⟩,_,_,_,_,_,rfl,hR3,hL.ownOf (by repeat (first|exact List.Sublist.refl _|apply List.Sublist.cons)),hL.below⟩
 ·have hne:(s.ending != 0)=true:=bne_iff_ne.2 he
  have HE:=Lib.hid hne
  have HSS:=Lib.hid (show stepS p is ins xs s=s by rw[stepS,if_neg he])
  clear he hne
  go_enter Tryz.func23,Tryz.ntmps23
  go_upto_region 4 with(first|(with_reducible first|refine lld hL ?_|((first|refine lbx hL ?_|refine lal hL ?_|refine lbs hL ?_);clear hL;intro bl w1 hL)|(refine lst' hL ?_;clear hL;intro w1 hL))|(go_at_call 47;refine(HK.out _ hL.below).mono ?_;rintro e w1 ⟨rfl,hb⟩;replace hL:=hL.grow hb;clear hb;dsimp only))
  obtain⟨wq,hwq⟩:∃ x,x=w1:=⟨_,rfl⟩
  subst hwq
  refine draw_begin [17,18,19,20,21,22,9] ?_
  refine dv0 ?_
  refine dv0 ?_
  refine draw_next (GivR wq.heap.size s) GivR.stable ?_ ?_
  ·intro g w hb y;replace hL:=hL.grow hb;have d1:=yv y 1;clear y;simp only[fillD,fLa,fLb,sTa,sTb];simp only[d1]
   go_wp2_with (go_at_call 59;refine(HO.out _ hL.below).mono ?_;rintro e w3 ⟨r1,ts,Rv,Rt,Rl,Rf,rfl,hR1,ho1,hb1⟩;dsimp only)
   exact⟨rfl,_,rfl,hb1,r1,ts,Rv,Rt,Rl,Rf,rfl,hR1,ho1.mono hb.size⟩
  simp only[apN,apC]
  refine dv0 ?_
  refine draw_next (MacR wq.heap.size p ins s) MacR.stable ?_ ?_
  ·intro g w hb y;replace hL:=hL.grow hb;have d0:=yv y 0;have d2:(GivR wq.heap.size s) (g 19) w:=yr y 2;obtain⟨r1,ts,Rv,Rt,Rl,Rf,d2,hR1,ho1⟩:=d2;have d3:=yv y 3;clear y;simp only[fillD,fLa,fLb,sTa,sTb];simp only[d0,d2,d3]
   go_wp2_with (fail)
   exact⟨rfl,_,rfl,Below.refl _ _,r1,ts,Rv,Rt,Rl,Rf,rfl,hR1,ho1⟩
  simp only[apN,apC]
  refine draw_next (BoxR wq.heap.size p ins s) BoxR.stable ?_ ?_
  ·intro g w hb y;replace hL:=hL.grow hb;have d4:(MacR wq.heap.size p ins s) (g 21) w:=yr y 4;obtain⟨r1,ts,Rv,Rt,Rl,Rf,d4,hR1,ho1⟩:=d4;clear y;simp only[fillD,fLa,fLb,sTa,sTb];simp only[d4]
   go_wp2_with (fail)
   exact⟨rfl,_,rfl,(Below.refl _ _).alloc (Nat.le_refl _) _,_,r1,ts,Rv,Rt,Rl,Rf,rfl,hR1,ho1.box hb.size _ _⟩
  simp only[apN,apC]
  refine draw_next (BoxR wq.heap.size p ins s) BoxR.stable ?_ ?_
  ·intro g w hb y;replace hL:=hL.grow hb;have d5:(BoxR wq.heap.size p ins s) (g 22) w:=yr y 5;obtain⟨b1,r1,ts,Rv,Rt,Rl,Rf,d5,hR1,ho1⟩:=d5;clear y;simp only[fillD,fLa,fLb,sTa,sTb];simp only[d5]
   go_wp2_with (fail)
   exact⟨rfl,_,rfl,Below.refl _ _,b1,r1,ts,Rv,Rt,Rl,Rf,rfl,hR1,ho1⟩
  simp only[apN,apC]
  refine draw_end hL (by kernel_rfl) (by kernel_rfl) ?_
  intro g w2 hb hR;simp only[List.length_cons,List.length_nil,Nat.reduceAdd]at hR
  have e0:=yv hR 0
  have e1:=yv hR 1
  have e2:(GivR wq.heap.size s) (g 19) w2:=yr hR 2
  obtain⟨rz2,-,-,-,-,-,e2,-,-⟩:=e2
  have e3:=yv hR 3
  have e4:(MacR wq.heap.size p ins s) (g 21) w2:=yr hR 4
  obtain⟨rz4,-,-,-,-,-,e4,-,-⟩:=e4
  have e5:(BoxR wq.heap.size p ins s) (g 22) w2:=yr hR 5
  obtain⟨bz5,-,-,-,-,-,-,e5,-,-⟩:=e5
  have e6:(BoxR wq.heap.size p ins s) (g 9) w2:=yr hR 6
  obtain⟨bm,r1,ts,Rv,Rt,Rl,Rf,e6,hR1,ho1⟩:=e6;have hL0:=hL;have hb0:=hb
  clear hR;simp only[fillD,fLa,fLb,sTa,sTb]
  simp only[e0,e1,e2,e3,e4,e5,e6]
  clear e0 e1 e2 e3 e4 e5 e6
  replace hL:=hL.grow hb
  clear hb
  replace hL:=hL0.gainTail hb0 ho1
  simp only[List.cons_append,List.nil_append]at hL
  have hre:(r1.ending != 0)=true:=by rw[hR1.e];exact HE.out
  have hre2:(r1.ending==0)=false:=beq_eq_false_iff_ne.2 (bne_iff_ne.1 hre)
  have HR1:=Lib.hid hR1
  clear ho1 hb0 hR1 hre HE
  obtain⟨ra,rv,rt,rk,rl,re⟩:=r1
  dsimp only at hre2
  dsimp only[machC]at hL
  go_wp2_with (first|(with_reducible first|refine lld hL ?_|((first|refine lbx hL ?_|refine lal hL ?_|refine lbs hL ?_);clear hL;intro bl w1 hL)|(refine lst' hL ?_;clear hL;intro w1 hL)))
  (try simp only[Exit.inBlock,Exit.then]);refine rt2 ?_
  rw[HSS.out]
  exact⟨⟨ra,rv,rt,rk,rl,re⟩,_,_,_,_,_,rfl,HR1.out,hL.ownOf (by repeat (first|exact List.Sublist.refl _|apply List.Sublist.cons)),hL.below⟩
end Go.Proofs.YteoilpcbekijlaaGreatDoor
