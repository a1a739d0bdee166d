/-  -/
import Derived.Test.YtplcndmdkabmeaaGreatDoorKep
set_option linter.unusedSimpArgs false
set_option linter.unusedVariables false
set_option maxRecDepth 100000
set_option maxHeartbeats 4000000
namespace Go.Proofs.YtplcndmdkabmeaaGreatDoor
open Go.RowKit
theorem Mach.grow {w0 w w' : World}{bm:Nat}{p:Pg}{ins:Sl}{s:Rs}(h:Mach w0 bm p ins s w) (hb:Below w.heap.size w w'):Mach w0 bm p ins s w':=by
 obtain⟨r,ts,Rv,Rt,Rl,Rf,hR,hL⟩:=h
 exact⟨r,ts,Rv,Rt,Rl,Rf,hR,hL.grow hb⟩
def GivR (B:Nat) (s:Rs):Value→World→Prop:=fun v w=>∃ r ts Rv Rt Rl Rf,v=Rn.v r∧RowsR r s ts Rv Rt Rl Rf∧Own B w (Rv++(Rt++(Rl++Rf)))
theorem GivR.stable {B:Nat}{s:Rs}:Stable (GivR B s):=by
 rintro v w w' hb ⟨r,ts,Rv,Rt,Rl,Rf,h1,h2,h3⟩;exact⟨r,ts,Rv,Rt,Rl,Rf,h1,h2,h3.grow hb⟩
def MacR (B:Nat) (p:Pg) (ins:Sl) (s:Rs):Value→World→Prop:=fun v w=>∃ r ts Rv Rt Rl Rf,v=.agg (machC p r ins).toArray∧RowsR r s ts Rv Rt Rl Rf∧Own B w (Rv++(Rt++(Rl++Rf)))
theorem MacR.stable {B:Nat}{p:Pg}{ins:Sl}{s:Rs}:Stable (MacR B p ins s):=by
 rintro v w w' hb ⟨r,ts,Rv,Rt,Rl,Rf,h1,h2,h3⟩;exact⟨r,ts,Rv,Rt,Rl,Rf,h1,h2,h3.grow hb⟩
def BoxR (B:Nat) (p:Pg) (ins:Sl) (s:Rs):Value→World→Prop:=fun v w=>∃ b r ts Rv Rt Rl Rf,v=.pointer (some ⟨b,0,none⟩)∧RowsR r s ts Rv Rt Rl Rf∧Own B w ((b,100,machC p r ins)::(Rv++(Rt++(Rl++Rf))))
theorem BoxR.stable {B:Nat}{p:Pg}{ins:Sl}{s:Rs}:Stable (BoxR B p ins s):=by
 rintro v w w' hb ⟨b,r,ts,Rv,Rt,Rl,Rf,h1,h2,h3⟩;exact⟨b,r,ts,Rv,Rt,Rl,Rf,h1,h2,h3.grow hb⟩
theorem Own.box {B:Nat}{w:World}{R:List LBlk}(h:Own B w R) (hB:B≤w.heap.size) (T:TypeId) (cs:List Value):Own B (w.alloc (.cells cs.toArray T)) ((w.heap.size,T,cs)::R):=by
 have hb:Below w.heap.size w (w.alloc (.cells cs.toArray T)):=(Below.refl _ _).alloc (Nat.le_refl _) _
 refine⟨?_,fun e he=>?_⟩
 ·simp only[List.map_cons,List.nodup_cons]
  refine⟨fun hm=>?_,h.nodup⟩
  obtain⟨e,he,hee⟩:=List.mem_map.1 hm
  have:=heap_lt (h.at' e he).2
  omega
 ·rcases List.mem_cons.1 he with rfl|he
  ·exact⟨hB,heap_new _ _⟩
  ·exact(h.grow hb).at' e he
theorem runStep_ok (p:Pg) (is:Nat→Ins) (ins:Sl) (xs:Nat→Int) (r:Rn) (s:Rs) (vs:Nat→Vl) (ths:Nat→Th) (fv:Nat→Nat→Vl) (w:World) (hn:p.n≤9223372036854775807) (hc:CodeAt w p is) (hr:RunL w r vs ths fv) (hq:checkRun p is r vs ths fv=0)
  (hri:RunIs w r s) (hR:RightS p s) (hP:checkProg p is=0) (hin:InputsAt w ins xs) (hl:s.lines.length*16≤140737488351232) (hpw:Pows w):
  Calls Tryz.prog 27 #[p.v,r.v,ins.v] w fun e w'=>∃ r' ts Rv Rt Rl Rf,e=.returned (.tuple #[Rn.v r',.int .i64 0])∧RowsR r' (stepS p is ins xs s) ts Rv Rt Rl Rf∧Own w.heap.size w' (Rv++(Rt++(Rl++Rf)))∧Below w.heap.size w w':=by
 have hkk:=fun w' (hb:Below w.heap.size w w')=>runCheck_any p is r vs ths fv w' hn (hc.grow hb) (hr.grow hb)
 rw[hq]at hkk
 have HK:=Lib.hid hkk
 have hfit:=fits_of hR (prog_right hP).1 hl
 have HO:=Lib.hid (fun w' (hb:Below w.heap.size w w')=>own_any r s w' (hri.grow hb) hfit)
 have HST:=Lib.hid (fun w1 w2 bm (hb:Below w.heap.size w w1) (hM:Mach w1 bm p ins s w2)=>step_all w1 bm p is ins xs s w2 hM hR hP (hc.grow hb) ⟨hin.1.grow hb,hin.2⟩ hl (hpw.grow hb))
 clear hkk hfit hR hP hin hl hpw hri hq hc hr hn
 have hL:=Loc.start w
 by_cases he:s.ending=0
 ·have HE:=Lib.hid he
  have HSS:=Lib.hid (show stepS p is ins xs s=stepM p is ins xs s by rw[stepS,if_pos he])
  clear he
  go_enter Tryz.func27,Tryz.ntmps27
  go_upto_region 4 with(first|(with_reducible first|refine lld hL ?_|((first|refine lbx hL ?_|refine lal hL ?_|refine lbs hL ?_);clear hL;intro bl w1 hL)|(refine lst' hL ?_;clear hL;intro w1 hL))|(go_at_call 42;refine(HK.out _ hL.below).mono ?_;rintro e w1 ⟨rfl,hb⟩;replace hL:=hL.grow hb;clear hb;dsimp only))
  obtain⟨wq,hwq⟩:∃ x,x=w1:=⟨_,rfl⟩
  subst hwq
  refine draw_begin [17,18,19,20,21,22,9] ?_
  refine dv0 ?_
  refine dv0 ?_
  refine draw_next (GivR wq.heap.size s) GivR.stable ?_ ?_
  ·intro g w hb y;replace hL:=hL.grow hb;have d1:=yv y 1;clear y;simp only[fillD,fLa,fLb,sTa,sTb];simp only[d1]
   go_wp2_with (go_at_call 63;refine(HO.out _ hL.below).mono ?_;rintro e w3 ⟨r1,ts,Rv,Rt,Rl,Rf,rfl,hR1,ho1,hb1⟩;dsimp only)
   exact⟨rfl,_,rfl,hb1,r1,ts,Rv,Rt,Rl,Rf,rfl,hR1,ho1.mono hb.size⟩
  simp only[apN,apC]
  refine dv0 ?_
  refine draw_next (MacR wq.heap.size p ins s) MacR.stable ?_ ?_
  ·intro g w hb y;replace hL:=hL.grow hb;have d0:=yv y 0;have d2:(GivR wq.heap.size s) (g 19) w:=yr y 2;obtain⟨r1,ts,Rv,Rt,Rl,Rf,d2,hR1,ho1⟩:=d2;have d3:=yv y 3;clear y;simp only[fillD,fLa,fLb,sTa,sTb];simp only[d0,d2,d3]
   go_wp2_with (fail)
   exact⟨rfl,_,rfl,Below.refl _ _,r1,ts,Rv,Rt,Rl,Rf,rfl,hR1,ho1⟩
  simp only[apN,apC]
  refine draw_next (BoxR wq.heap.size p ins s) BoxR.stable ?_ ?_
  ·intro g w hb y;replace hL:=hL.grow hb;have d4:(MacR wq.heap.size p ins s) (g 21) w:=yr y 4;obtain⟨r1,ts,Rv,Rt,Rl,Rf,d4,hR1,ho1⟩:=d4;clear y;simp only[fillD,fLa,fLb,sTa,sTb];simp only[d4]
   go_wp2_with (fail)
   exact⟨rfl,_,rfl,(Below.refl _ _).alloc (Nat.le_refl _) _,_,r1,ts,Rv,Rt,Rl,Rf,rfl,hR1,ho1.box hb.size _ _⟩
  simp only[apN,apC]
  refine draw_next (BoxR wq.heap.size p ins s) BoxR.stable ?_ ?_
  ·intro g w hb y;replace hL:=hL.grow hb;have d5:(BoxR wq.heap.size p ins s) (g 22) w:=yr y 5;obtain⟨b1,r1,ts,Rv,Rt,Rl,Rf,d5,hR1,ho1⟩:=d5;clear y;simp only[fillD,fLa,fLb,sTa,sTb];simp only[d5]
   go_wp2_with (fail)
   exact⟨rfl,_,rfl,Below.refl _ _,b1,r1,ts,Rv,Rt,Rl,Rf,rfl,hR1,ho1⟩
  simp only[apN,apC]
  refine draw_end hL (by kernel_rfl) (by kernel_rfl) ?_
  intro g w2 hb hR;simp only[List.length_cons,List.length_nil,Nat.reduceAdd]at hR
  have e0:=yv hR 0
  have e1:=yv hR 1
  have e2:(GivR wq.heap.size s) (g 19) w2:=yr hR 2
  obtain⟨rz2,-,-,-,-,-,e2,-,-⟩:=e2
  have e3:=yv hR 3
  have e4:(MacR wq.heap.size p ins s) (g 21) w2:=yr hR 4
  obtain⟨rz4,-,-,-,-,-,e4,-,-⟩:=e4
  have e5:(BoxR wq.heap.size p ins s) (g 22) w2:=yr hR 5
  obtain⟨bz5,-,-,-,-,-,-,e5,-,-⟩:=e5
  have e6:(BoxR wq.heap.size p ins s) (g 9) w2:=yr hR 6
  obtain⟨bm,r1,ts,Rv,Rt,Rl,Rf,e6,hR1,ho1⟩:=e6;have hL0:=hL;have hb0:=hb
  clear hR;simp only[fillD,fLa,fLb,sTa,sTb]
  simp only[e0,e1,e2,e3,e4,e5,e6]
  clear e0 e1 e2 e3 e4 e5 e6
  replace hL:=hL.grow hb
  clear hb
  have hM0:Mach wq bm p ins s w2:=⟨r1,ts,Rv,Rt,Rl,Rf,hR1,Loc.ofOwn hb0 ho1⟩
  have HMM:=Lib.hid hM0
  replace hL:=hL0.gainTail hb0 ho1
  simp only[List.cons_append,List.nil_append]at hL
  have hre:r1.ending=0:=hR1.e.trans HE.out
  clear hM0 ho1 hb0 hR1
  obtain⟨ra,rv,rt,rk,rl,re⟩:=r1
  dsimp only at hre
  subst hre
  dsimp only[machC]at hL
  go_wp2_with (first|(with_reducible first|refine lld hL ?_|((first|refine lbx hL ?_|refine lal hL ?_|refine lbs hL ?_);clear hL;intro bl w1 hL)|(refine lst' hL ?_;clear hL;intro w1 hL))|(go_at_call 47;refine(HST.out wq _ bm hL0.below HMM.out).mono ?_;rintro e w3 ⟨rfl,hM⟩;obtain⟨⟨ra3,rv3,rt3,rk3,rl3,re3⟩,ts3,Rv3,Rt3,Rl3,Rf3,hR3,hL3⟩:=hM;replace hL:=hL0.gainTail hL3.below hL3.own;simp only[List.cons_append,List.nil_append]at hL;dsimp only[machC]at hL;dsimp only))
  (try simp only[Exit.inBlock,Exit.then]);refine rt2 ?_
  rw[HSS.out]
  exact⟨⟨ra3,rv3,rt3,rk3,rl3,re3⟩,_,_,_,_,_,rfl,hR3,hL.ownOf (by repeat (first|exact List.Sublist.refl _|apply List.Sublist.cons)),hL.below⟩
 ·have hne:(s.ending != 0)=true:=bne_iff_ne.2 he
  have HE:=Lib.hid hne
  have HSS:=Lib.hid (show stepS p is ins xs s=s by rw[stepS,if_neg he])
  clear he hne
  go_enter Tryz.func27,Tryz.ntmps27
  go_upto_region 4 with(first|(with_reducible first|refine lld hL ?_|((first|refine lbx hL ?_|refine lal hL ?_|refine lbs hL ?_);clear hL;intro bl w1 hL)|(refine lst' hL ?_;clear hL;intro w1 hL))|(go_at_call 42;refine(HK.out _ hL.below).mono ?_;rintro e w1 ⟨rfl,hb⟩;replace hL:=hL.grow hb;clear hb;dsimp only))
  obtain⟨wq,hwq⟩:∃ x,x=w1:=⟨_,rfl⟩
  subst hwq
  refine draw_begin [17,18,19,20,21,22,9] ?_
  refine dv0 ?_
  refine dv0 ?_
  refine draw_next (GivR wq.heap.size s) GivR.stable ?_ ?_
  ·intro g w hb y;replace hL:=hL.grow hb;have d1:=yv y 1;clear y;simp only[fillD,fLa,fLb,sTa,sTb];simp only[d1]
   go_wp2_with (go_at_call 63;refine(HO.out _ hL.below).mono ?_;rintro e w3 ⟨r1,ts,Rv,Rt,Rl,Rf,rfl,hR1,ho1,hb1⟩;dsimp only)
   exact⟨rfl,_,rfl,hb1,r1,ts,Rv,Rt,Rl,Rf,rfl,hR1,ho1.mono hb.size⟩
  simp only[apN,apC]
  refine dv0 ?_
  refine draw_next (MacR wq.heap.size p ins s) MacR.stable ?_ ?_
  ·intro g w hb y;replace hL:=hL.grow hb;have d0:=yv y 0;have d2:(GivR wq.heap.size s) (g 19) w:=yr y 2;obtain⟨r1,ts,Rv,Rt,Rl,Rf,d2,hR1,ho1⟩:=d2;have d3:=yv y 3;clear y;simp only[fillD,fLa,fLb,sTa,sTb];simp only[d0,d2,d3]
   go_wp2_with (fail)
   exact⟨rfl,_,rfl,Below.refl _ _,r1,ts,Rv,Rt,Rl,Rf,rfl,hR1,ho1⟩
  simp only[apN,apC]
  refine draw_next (BoxR wq.heap.size p ins s) BoxR.stable ?_ ?_
  ·intro g w hb y;replace hL:=hL.grow hb;have d4:(MacR wq.heap.size p ins s) (g 21) w:=yr y 4;obtain⟨r1,ts,Rv,Rt,Rl,Rf,d4,hR1,ho1⟩:=d4;clear y;simp only[fillD,fLa,fLb,sTa,sTb];simp only[d4]
   go_wp2_with (fail)
   exact⟨rfl,_,rfl,(Below.refl _ _).alloc (Nat.le_refl _) _,_,r1,ts,Rv,Rt,Rl,Rf,rfl,hR1,ho1.box hb.size _ _⟩
  simp only[apN,apC]
  refine draw_next (BoxR wq.heap.size p ins s) BoxR.stable ?_ ?_
  ·intro g w hb y;replace hL:=hL.grow hb;have d5:(BoxR wq.heap.size p ins s) (g 22) w:=yr y 5;obtain⟨b1,r1,ts,Rv,Rt,Rl,Rf,d5,hR1,ho1⟩:=d5;clear y;simp only[fillD,fLa,fLb,sTa,sTb];simp only[d5]
   go_wp2_with (fail)
   exact⟨rfl,_,rfl,Below.refl _ _,b1,r1,ts,Rv,Rt,Rl,Rf,rfl,hR1,ho1⟩
  simp only[apN,apC]
  refine draw_end hL (by kernel_rfl) (by kernel_rfl) ?_
  intro g w2 hb hR;simp only[List.length_cons,List.length_nil,Nat.reduceAdd]at hR
  have e0:=yv hR 0
  have e1:=yv hR 1
  have e2:(GivR wq.heap.size s) (g 19) w2:=yr hR 2
  obtain⟨rz2,-,-,-,-,-,e2,-,-⟩:=e2
  have e3:=yv hR 3
  have e4:(MacR wq.heap.size p ins s) (g 21) w2:=yr hR 4
  obtain⟨rz4,-,-,-,-,-,e4,-,-⟩:=e4
  have e5:(BoxR wq.heap.size p ins s) (g 22) w2:=yr hR 5
  obtain⟨bz5,-,-,-,-,-,-,e5,-,-⟩:=e5
  have e6:(BoxR wq.heap.size p ins s) (g 9) w2:=yr hR 6
  obtain⟨bm,r1,ts,Rv,Rt,Rl,Rf,e6,hR1,ho1⟩:=e6;have hL0:=hL;have hb0:=hb
  clear hR;simp only[fillD,fLa,fLb,sTa,sTb]
  simp only[e0,e1,e2,e3,e4,e5,e6]
  clear e0 e1 e2 e3 e4 e5 e6
  replace hL:=hL.grow hb
  clear hb
  replace hL:=hL0.gainTail hb0 ho1
  simp only[List.cons_append,List.nil_append]at hL
  have hre:(r1.ending != 0)=true:=by rw[hR1.e];exact HE.out
  have hre2:(r1.ending==0)=false:=beq_eq_false_iff_ne.2 (bne_iff_ne.1 hre)
  have HR1:=Lib.hid hR1
  clear ho1 hb0 hR1 hre HE
  obtain⟨ra,rv,rt,rk,rl,re⟩:=r1
  dsimp only at hre2
  dsimp only[machC]at hL
  go_wp2_with (first|(with_reducible first|refine lld hL ?_|((first|refine lbx hL ?_|refine lal hL ?_|refine lbs hL ?_);clear hL;intro bl w1 hL)|(refine lst' hL ?_;clear hL;intro w1 hL)))
  (try simp only[Exit.inBlock,Exit.then]);refine rt2 ?_
  rw[HSS.out]
  exact⟨⟨ra,rv,rt,rk,rl,re⟩,_,_,_,_,_,rfl,HR1.out,hL.ownOf (by repeat (first|exact List.Sublist.refl _|apply List.Sublist.cons)),hL.below⟩
end Go.Proofs.YtplcndmdkabmeaaGreatDoor
set_option linter.unusedSimpArgs false
set_option linter.unusedVariables false
set_option maxRecDepth 100000
set_option maxHeartbeats 4000000
namespace Go.Proofs.YtplcndmdkabmeaaGreatDoor
open Go.RowKit
theorem runRun_bad (p:Pg) (is:Nat→Ins) (ins:Sl) (fuel:Int) (w:World) (hn:p.n≤9223372036854775807) (hc:CodeAt w p is) (hq:checkProg p is≠0):
  Calls Tryz.prog 15 #[p.v,ins.v,.int .i64 fuel] w fun e w'=>e=.returned (.tuple #[zeroR.v,.int .i64 0,.int .i64 (checkProg p is)])∧Below w.heap.size w w':=by
 have HK:=Lib.hid (fun w' (hb:Below w.heap.size w w')=>codeCheck_any p is w' (hc.grow hb) hn)
 generalize checkProg p is=c at hq HK ⊢
 have hne:(c != 0)=true:=bne_iff_ne.2 hq
 clear hq hc hn
 have hL:=Loc.start w
 go_enter Tryz.func15,Tryz.ntmps15
 go_wp2_with (first|(with_reducible first|refine lld hL ?_|((first|refine lbx hL ?_|refine lal hL ?_|refine lbs hL ?_);clear hL;intro bl w1 hL)|(refine lst' hL ?_;clear hL;intro w1 hL))|(go_at_call 43;refine(HK.out _ hL.below).mono ?_;rintro e w1 ⟨rfl,hb⟩;replace hL:=hL.grow hb;clear hb;dsimp only))
 (try simp only[Exit.inBlock,Exit.then]);refine rt3 ?_
 exact⟨rfl,hL.below⟩
theorem runRun_ok (p:Pg) (is:Nat→Ins) (ins:Sl) (xs:Nat→Int) (fuel n:Nat) (w:World) (hn:p.n≤9223372036854775807) (hc:CodeAt w p is) (hP:checkProg p is=0) (hin:InputsAt w ins xs) (hpw:Pows w) (hpn:p.vars=n) (hn8:n≤8) (hfu:fuel≤5000):
  Calls Tryz.prog 15 #[p.v,ins.v,.int .i64 fuel] w fun e w'=>∃ r' ts Rv Rt Rl Rf,e=.returned (.tuple #[Rn.v r',.int .i64 (runN p is ins xs fuel (beginS n) 0).2,.int .i64 0])∧RowsR r' (outS (runN p is ins xs fuel (beginS n) 0).1) ts Rv Rt Rl Rf∧Own w.heap.size w' (Rv++(Rt++(Rl++Rf)))∧Below w.heap.size w w':=by
 have hk:=fun w' (hb:Below w.heap.size w w')=>codeCheck_any p is w' (hc.grow hb) hn
 rw[hP]at hk
 have HK:=Lib.hid hk
 have HB:=Lib.hid (fun w'=>begin_any p n w' hpn hn8)
 have HGo:=Lib.hid (fun (s:Rs) (j:Nat) (h:Gone p s j) (hj:j≤5000)=>h.next (is:=is) (ins:=ins) (xs:=xs) hP hj)
 have HG0:=Lib.hid (Gone.begin hpn (Int.natCast_nonneg p.n))
 have HST:=Lib.hid (fun w1 w2 bm (s:Rs) (j:Nat) (hG:Gone p s j) (hj:j≤5000) (hb:Below w.heap.size w w1) (hM:Mach w1 bm p ins s w2)=>step_all w1 bm p is ins xs s w2 hM hG.r hP (hc.grow hb) ⟨hin.1.grow hb,hin.2⟩ (by have:=hG.l;omega) (hpw.grow hb))
 have HFU:=Lib.hid hfu
 have h00:¬ (fuel:Int)<0:=by omega
 have h01:(fuel:Int)≤5000:=by omega
 have c0:decide ((fuel:Int)<0)=false:=decide_eq_false h00
 have c1:decide ((5000:Int)<(fuel:Int))=false:=decide_eq_false (by omega)
 clear hk hc hP hin hpw hpn hn8 hfu hn h00 h01
 have hL:=Loc.start w
 go_enter Tryz.func15,Tryz.ntmps15
 go_upto_region 6 with(first|(with_reducible first|refine lld hL ?_|((first|refine lbx hL ?_|refine lal hL ?_|refine lbs hL ?_);clear hL;intro bl w1 hL)|(refine lst' hL ?_;clear hL;intro w1 hL))|(go_at_call 43;refine(HK.out _ hL.below).mono ?_;rintro e w1 ⟨rfl,hb⟩;replace hL:=hL.grow hb;clear hb;dsimp only))
 obtain⟨wq,hwq⟩:∃ x,x=w1:=⟨_,rfl⟩
 subst hwq
 refine draw_begin [25,26,27,28,29,30,10] ?_
 refine dv0 ?_
 refine dv0 ?_
 refine draw_next (GivR wq.heap.size (beginS n)) GivR.stable ?_ ?_
 ·intro g w hb v;replace hL:=hL.grow hb;have d1:=yv v 1;clear v;simp only[fillD,fLa,fLb,sTa,sTb];simp only[d1]
  go_wp2_with (go_at_call 46;refine(HB.out _).mono ?_;rintro e w3 ⟨r1,ts,Rv,Rt,Rl,Rf,rfl,hR1,ho1,hb1⟩;dsimp only)
  exact⟨rfl,_,rfl,hb1,r1,ts,Rv,Rt,Rl,Rf,rfl,hR1,ho1.mono hb.size⟩
 simp only[apN,apC]
 refine dv0 ?_
 refine draw_next (MacR wq.heap.size p ins (beginS n)) MacR.stable ?_ ?_
 ·intro g w hb v;replace hL:=hL.grow hb;have d0:=yv v 0;have d2:(GivR wq.heap.size (beginS n)) (g 27) w:=yr v 2;obtain⟨r1,ts,Rv,Rt,Rl,Rf,d2,hR1,ho1⟩:=d2;have d3:=yv v 3;clear v;simp only[fillD,fLa,fLb,sTa,sTb];simp only[d0,d2,d3]
  go_wp2_with (fail)
  exact⟨rfl,_,rfl,Below.refl _ _,r1,ts,Rv,Rt,Rl,Rf,rfl,hR1,ho1⟩
 simp only[apN,apC]
 refine draw_next (BoxR wq.heap.size p ins (beginS n)) BoxR.stable ?_ ?_
 ·intro g w hb v;replace hL:=hL.grow hb;have d4:(MacR wq.heap.size p ins (beginS n)) (g 29) w:=yr v 4;obtain⟨r1,ts,Rv,Rt,Rl,Rf,d4,hR1,ho1⟩:=d4;clear v;simp only[fillD,fLa,fLb,sTa,sTb];simp only[d4]
  go_wp2_with (fail)
  exact⟨rfl,_,rfl,(Below.refl _ _).alloc (Nat.le_refl _) _,_,r1,ts,Rv,Rt,Rl,Rf,rfl,hR1,ho1.box hb.size _ _⟩
 simp only[apN,apC]
 refine draw_next (BoxR wq.heap.size p ins (beginS n)) BoxR.stable ?_ ?_
 ·intro g w hb v;replace hL:=hL.grow hb;have d5:(BoxR wq.heap.size p ins (beginS n)) (g 30) w:=yr v 5;obtain⟨b1,r1,ts,Rv,Rt,Rl,Rf,d5,hR1,ho1⟩:=d5;clear v;simp only[fillD,fLa,fLb,sTa,sTb];simp only[d5]
  go_wp2_with (fail)
  exact⟨rfl,_,rfl,Below.refl _ _,b1,r1,ts,Rv,Rt,Rl,Rf,rfl,hR1,ho1⟩
 simp only[apN,apC]
 refine draw_end hL (by kernel_rfl) (by kernel_rfl) ?_
 intro g w2 hb hR;simp only[List.length_cons,List.length_nil,Nat.reduceAdd]at hR
 have e0:=yv hR 0
 have e1:=yv hR 1
 have e2:(GivR wq.heap.size (beginS n)) (g 27) w2:=yr hR 2
 obtain⟨rz2,-,-,-,-,-,e2,-,-⟩:=e2
 have e3:=yv hR 3
 have e4:(MacR wq.heap.size p ins (beginS n)) (g 29) w2:=yr hR 4
 obtain⟨rz4,-,-,-,-,-,e4,-,-⟩:=e4
 have e5:(BoxR wq.heap.size p ins (beginS n)) (g 30) w2:=yr hR 5
 obtain⟨bz5,-,-,-,-,-,-,e5,-,-⟩:=e5
 have e6:(BoxR wq.heap.size p ins (beginS n)) (g 10) w2:=yr hR 6
 obtain⟨bm,r1,ts,Rv,Rt,Rl,Rf,e6,hR1,ho1⟩:=e6;have hL0:=hL;have hb0:=hb
 clear hR;simp only[fillD,fLa,fLb,sTa,sTb]
 simp only[e0,e1,e2,e3,e4,e5,e6]
 clear e0 e1 e2 e3 e4 e5 e6
 replace hL:=hL.grow hb
 clear hb
 have hM0:Mach wq bm p ins (beginS n) w2:=⟨r1,ts,Rv,Rt,Rl,Rf,hR1,Loc.ofOwn hb0 ho1⟩
 have HMM:=Lib.hid hM0
 have HL0:=Lib.hid hL0
 clear hM0 ho1 hb0 hR1 hL0 HB HK c0 c1
 go_wp2_with (first|(with_reducible first|refine lld hL ?_|((first|refine lbx hL ?_|refine lal hL ?_|refine lbs hL ?_);clear hL;intro bl w1 hL)|(refine lst' hL ?_;clear hL;intro w1 hL)))
 clear hL
 go_loopw [11] (fun c wr=>∃ (j:Nat) (s:Rs),j≤fuel∧c=.int .i64 j∧Gone p s j∧runN p is ins xs (fuel - j) s j=runN p is ins xs fuel (beginS n) 0∧Mach wq bm p ins s wr) (fun c _=>fuel - (intOf c).toNat)
 case atStart=>exact⟨0,_,Nat.zero_le _,rfl,HG0.out,by rw[Nat.sub_zero],HMM.out⟩
 case round=>
  obtain⟨j,s,hj,rfl,hG,hN,hM⟩:=hrel
  have HM:=Lib.hid hM
  have HG:=Lib.hid hG
  have HN:=Lib.hid hN
  clear hG hN
  obtain⟨⟨ra3,rv3,ru3,rk3,rl3,re3⟩,ts3,Rv3,Rt3,Rl3,Rf3,hR3,hL3⟩:=hM
  replace hL:=HL0.out.gainTail hL3.below hL3.own
  simp only[List.cons_append,List.nil_append]at hL
  dsimp only[machC]at hL
  have hre:re3=s.ending:=hR3.e
  have HR3:=Lib.hid hR3
  clear hL3 hR3
  by_cases he:s.ending=0
  ·have HE:=Lib.hid he
   have he3:=hre.trans he
   clear hre he
   subst he3
   by_cases hlt:j<fuel
   ·have hlt' : (j:Int)<fuel:=by omega
    clear hlt
    go_wp2_with (first|(with_reducible first|refine lld hL ?_|((first|refine lbx hL ?_|refine lal hL ?_|refine lbs hL ?_);clear hL;intro bl w1 hL)|(refine lst' hL ?_;clear hL;intro w1 hL))|(go_at_call 47;refine(HST.out wq _ bm s j HG.out (by have:=HFU.out;omega) HL0.out.below HM.out).mono ?_;rintro e w3 ⟨rfl,hM⟩;have HM2:=Lib.hid hM;obtain⟨⟨ra3,rv3,ru3,rk3,rl3,re3⟩,ts3,Rv3,Rt3,Rl3,Rf3,hR3,hL3⟩:=hM;replace hL:=HL0.out.gainTail hL3.below hL3.own;simp only[List.cons_append,List.nil_append]at hL;dsimp only[machC]at hL;dsimp only;clear hL3 hR3))
    have hw:wrap64 ((j:Int)+1)=j+1:=by have:=HFU.out;unfold wrap64;omega
    go_roundw
    case rel=>exact⟨j+1,_,by omega,by rw[hw,Int.natCast_succ],HGo.out s j HG.out (by have:=HFU.out;omega),by rw[← HN.out];exact(runN_next j (by omega) HE.out).symm,HM2.out⟩
    case measure=>
     rw[hw]
     have e1:(intOf (Value.int .i64 ((j:Int)+1))).toNat=j+1:=by simp only[intOf];omega
     have e2:(intOf (Value.int .i64 (j:Int))).toNat=j:=by simp only[intOf];omega
     generalize (intOf (Value.int .i64 ((j:Int)+1))).toNat=x at e1 ⊢
     generalize (intOf (Value.int .i64 (j:Int))).toNat=y at e2 ⊢
     clear hw
     omega
   ·obtain rfl:j=fuel:=by omega
    have hN2:runN p is ins xs j (beginS n) 0=(s,j):=by rw[← HN.out,Nat.sub_self,runN]
    have HN2:=Lib.hid hN2
    clear hN2 hlt
    go_wp2_with (first|(with_reducible first|refine lld hL ?_|((first|refine lbx hL ?_|refine lal hL ?_|refine lbs hL ?_);clear hL;intro bl w1 hL)|(refine lst' hL ?_;clear hL;intro w1 hL))|(go_at_call 48;refine(over_any wq bm p ins s 4 _ HM.out).mono ?_;rintro e w3 ⟨rfl,hM⟩;obtain⟨⟨ra3,rv3,ru3,rk3,rl3,re3⟩,ts3,Rv3,Rt3,Rl3,Rf3,hR3,hL3⟩:=hM;replace hL:=HL0.out.gainTail hL3.below hL3.own;simp only[List.cons_append,List.nil_append]at hL;dsimp only[machC]at hL;dsimp only;clear hL3))
    (try simp only[Exit.inBlock,Exit.then]);refine rt3 ?_
    rw[HN2.out,show outS s={ s with ending:=4 } from if_pos HE.out]
    exact⟨⟨ra3,rv3,ru3,rk3,rl3,re3⟩,_,_,_,_,_,rfl,hR3,hL.ownOf (by repeat (first|exact List.Sublist.refl _|apply List.Sublist.cons)),hL.below⟩
  ·have HE:=Lib.hid he
   have hN2:runN p is ins xs fuel (beginS n) 0=(s,j):=by rw[← HN.out];exact runN_over _ _ he
   have HN2:=Lib.hid hN2
   have hre2:(re3==0)=false:=beq_eq_false_iff_ne.2 (by rw[hre];exact he)
   clear hre he hN2
   go_wp2_with (first|(with_reducible first|refine lld hL ?_|((first|refine lbx hL ?_|refine lal hL ?_|refine lbs hL ?_);clear hL;intro bl w1 hL)|(refine lst' hL ?_;clear hL;intro w1 hL)))
   (try simp only[Exit.inBlock,Exit.then]);refine rt3 ?_
   rw[HN2.out,show outS s=s from if_neg HE.out]
   exact⟨⟨ra3,rv3,ru3,rk3,rl3,re3⟩,_,_,_,_,_,rfl,HR3.out,hL.ownOf (by repeat (first|exact List.Sublist.refl _|apply List.Sublist.cons)),hL.below⟩
end Go.Proofs.YtplcndmdkabmeaaGreatDoor
