/-  -/
import Derived.Test.YteoilpcbekijlaaGreatDoorKep
import Derived.Test.YteoilpcbekijlaaGreatDoorRunStep
import Derived.Test.YteoilpcbekijlaaGreatDoorSml
set_option linter.unusedSimpArgs false
set_option linter.unusedVariables false
set_option maxRecDepth 100000
set_option maxHeartbeats 4000000
namespace Go.Proofs.YteoilpcbekijlaaGreatDoor
open Go.RowKit
theorem runRun_ok (p:Pg) (is:Nat→Ins) (ins:Sl) (xs:Nat→Int) (fuel n:Nat) (w:World) (hn:p.n≤9223372036854775807) (hc:CodeAt w p is) (hP:checkProg p is=0) (hin:InputsAt w ins xs) (hpw:Pows w) (hpn:p.vars=n) (hn8:n≤8) (hfu:fuel≤5000):
  Calls Tryz.prog 18 #[p.v,ins.v,.int .i64 fuel] w fun e w'=>∃ r' ts Rv Rt Rl Rf,e=.returned (.tuple #[Rn.v r',.int .i64 (runN p is ins xs fuel (beginS n) 0).2,.int .i64 0])∧RowsR r' (outS (runN p is ins xs fuel (beginS n) 0).1) ts Rv Rt Rl Rf∧Own w.heap.size w' (Rv++(Rt++(Rl++Rf)))∧Below w.heap.size w w':=by
 have hk:=fun w' (hb:Below w.heap.size w w')=>codeCheck_any p is w' (hc.grow hb) hn
 rw[hP]at hk
 have HK:=Lib.hid hk
 have HB:=Lib.hid (fun w'=>begin_any p n w' hpn hn8)
 have HGo:=Lib.hid (fun (s:Rs) (j:Nat) (h:Gone p s j) (hj:j≤5000)=>h.next (is:=is) (ins:=ins) (xs:=xs) hP hj)
 have HG0:=Lib.hid (Gone.begin hpn (Int.natCast_nonneg p.n))
 have HST:=Lib.hid (fun w1 w2 bm (s:Rs) (j:Nat) (hG:Gone p s j) (hj:j≤5000) (hb:Below w.heap.size w w1) (hM:Mach w1 bm p ins s w2)=>step_all w1 bm p is ins xs s w2 hM hG.r hP (hc.grow hb) ⟨hin.1.grow hb,hin.2⟩ (by have:=hG.l;omega) (hpw.grow hb))
 have HFU:=Lib.hid hfu
 have h00:¬ (fuel:Int)<0:=by omega
 have h01:(fuel:Int)≤5000:=by omega
 have c0:decide ((fuel:Int)<0)=false:=decide_eq_false h00
 have c1:decide ((5000:Int)<(fuel:Int))=false:=decide_eq_false (by omega)
 clear hk hc hP hin hpw hpn hn8 hfu hn h00 h01
 have hL:=Loc.start w
 go_enter Tryz.func18,Tryz.ntmps18
 go_upto_region 6 with(first|(with_reducible first|refine lld hL ?_|((first|refine lbx hL ?_|refine lal hL ?_|refine lbs hL ?_);clear hL;intro bl w1 hL)|(refine lst' hL ?_;clear hL;intro w1 hL))|(go_at_call 48;refine(HK.out _ hL.below).mono ?_;rintro e w1 ⟨rfl,hb⟩;replace hL:=hL.grow hb;clear hb;dsimp only))
 obtain⟨wq,hwq⟩:∃ x,x=w1:=⟨_,rfl⟩
 subst hwq
 refine draw_begin [25,26,27,28,29,30,10] ?_
 refine dv0 ?_
 refine dv0 ?_
 refine draw_next (GivR wq.heap.size (beginS n)) GivR.stable ?_ ?_
 ·intro g w hb v;replace hL:=hL.grow hb;have d1:=yv v 1;clear v;simp only[fillD,fLa,fLb,sTa,sTb];simp only[d1]
  go_wp2_with (go_at_call 51;refine(HB.out _).mono ?_;rintro e w3 ⟨r1,ts,Rv,Rt,Rl,Rf,rfl,hR1,ho1,hb1⟩;dsimp only)
  exact⟨rfl,_,rfl,hb1,r1,ts,Rv,Rt,Rl,Rf,rfl,hR1,ho1.mono hb.size⟩
 simp only[apN,apC]
 refine dv0 ?_
 refine draw_next (MacR wq.heap.size p ins (beginS n)) MacR.stable ?_ ?_
 ·intro g w hb v;replace hL:=hL.grow hb;have d0:=yv v 0;have d2:(GivR wq.heap.size (beginS n)) (g 27) w:=yr v 2;obtain⟨r1,ts,Rv,Rt,Rl,Rf,d2,hR1,ho1⟩:=d2;have d3:=yv v 3;clear v;simp only[fillD,fLa,fLb,sTa,sTb];simp only[d0,d2,d3]
  go_wp2_with (fail)
  exact⟨rfl,_,rfl,Below.refl _ _,r1,ts,Rv,Rt,Rl,Rf,rfl,hR1,ho1⟩
 simp only[apN,apC]
 refine draw_next (BoxR wq.heap.size p ins (beginS n)) BoxR.stable ?_ ?_
 ·intro g w hb v;replace hL:=hL.grow hb;have d4:(MacR wq.heap.size p ins (beginS n)) (g 29) w:=yr v 4;obtain⟨r1,ts,Rv,Rt,Rl,Rf,d4,hR1,ho1⟩:=d4;clear v;simp only[fillD,fLa,fLb,sTa,sTb];simp only[d4]
  go_wp2_with (fail)
  exact⟨rfl,_,rfl,(Below.refl _ _).alloc (Nat.le_refl _) _,_,r1,ts,Rv,Rt,Rl,Rf,rfl,hR1,ho1.box hb.size _ _⟩
 simp only[apN,apC]
 refine draw_next (BoxR wq.heap.size p ins (beginS n)) BoxR.stable ?_ ?_
 ·intro g w hb v;replace hL:=hL.grow hb;have d5:(BoxR wq.heap.size p ins (beginS n)) (g 30) w:=yr v 5;obtain⟨b1,r1,ts,Rv,Rt,Rl,Rf,d5,hR1,ho1⟩:=d5;clear v;simp only[fillD,fLa,fLb,sTa,sTb];simp only[d5]
  go_wp2_with (fail)
  exact⟨rfl,_,rfl,Below.refl _ _,b1,r1,ts,Rv,Rt,Rl,Rf,rfl,hR1,ho1⟩
 simp only[apN,apC]
 refine draw_end hL (by kernel_rfl) (by kernel_rfl) ?_
 intro g w2 hb hR;simp only[List.length_cons,List.length_nil,Nat.reduceAdd]at hR
 have e0:=yv hR 0
 have e1:=yv hR 1
 have e2:(GivR wq.heap.size (beginS n)) (g 27) w2:=yr hR 2
 obtain⟨rz2,-,-,-,-,-,e2,-,-⟩:=e2
 have e3:=yv hR 3
 have e4:(MacR wq.heap.size p ins (beginS n)) (g 29) w2:=yr hR 4
 obtain⟨rz4,-,-,-,-,-,e4,-,-⟩:=e4
 have e5:(BoxR wq.heap.size p ins (beginS n)) (g 30) w2:=yr hR 5
 obtain⟨bz5,-,-,-,-,-,-,e5,-,-⟩:=e5
 have e6:(BoxR wq.heap.size p ins (beginS n)) (g 10) w2:=yr hR 6
 obtain⟨bm,r1,ts,Rv,Rt,Rl,Rf,e6,hR1,ho1⟩:=e6;have hL0:=hL;have hb0:=hb
 clear hR;simp only[fillD,fLa,fLb,sTa,sTb]
 simp only[e0,e1,e2,e3,e4,e5,e6]
 clear e0 e1 e2 e3 e4 e5 e6
 replace hL:=hL.grow hb
 clear hb
 have hM0:Mach wq bm p ins (beginS n) w2:=⟨r1,ts,Rv,Rt,Rl,Rf,hR1,Loc.ofOwn hb0 ho1⟩
 have HMM:=Lib.hid hM0
 have HL0:=Lib.hid hL0
 clear hM0 ho1 hb0 hR1 hL0 HB HK c0 c1
 go_wp2_with (first|(with_reducible first|refine lld hL ?_|((first|refine lbx hL ?_|refine lal hL ?_|refine lbs hL ?_);clear hL;intro bl w1 hL)|(refine lst' hL ?_;clear hL;intro w1 hL)))
 clear hL
 go_loopw [11] (fun c wr=>∃ (j:Nat) (s:Rs),j≤fuel∧c=.int .i64 j∧Gone p s j∧runN p is ins xs (fuel - j) s j=runN p is ins xs fuel (beginS n) 0∧Mach wq bm p ins s wr) (fun c _=>fuel - (intOf c).toNat)
 case atStart=>exact⟨0,_,Nat.zero_le _,rfl,HG0.out,by rw[Nat.sub_zero],HMM.out⟩
 case round=>
  obtain⟨j,s,hj,rfl,hG,hN,hM⟩:=hrel
  have HM:=Lib.hid hM
  have HG:=Lib.hid hG
  have HN:=Lib.hid hN
  clear hG hN
  obtain⟨⟨ra3,rv3,ru3,rk3,rl3,re3⟩,ts3,Rv3,Rt3,Rl3,Rf3,hR3,hL3⟩:=hM
  replace hL:=HL0.out.gainTail hL3.below hL3.own
  simp only[List.cons_append,List.nil_append]at hL
  dsimp only[machC]at hL
  have hre:re3=s.ending:=hR3.e
  have HR3:=Lib.hid hR3
  clear hL3 hR3
  by_cases he:s.ending=0
  ·have HE:=Lib.hid he
   have he3:=hre.trans he
   clear hre he
   subst he3
   by_cases hlt:j<fuel
   ·have hlt' : (j:Int)<fuel:=by omega
    clear hlt
    go_wp2_with (first|(with_reducible first|refine lld hL ?_|((first|refine lbx hL ?_|refine lal hL ?_|refine lbs hL ?_);clear hL;intro bl w1 hL)|(refine lst' hL ?_;clear hL;intro w1 hL))|(go_at_call 52;refine(HST.out wq _ bm s j HG.out (by have:=HFU.out;omega) HL0.out.below HM.out).mono ?_;rintro e w3 ⟨rfl,hM⟩;have HM2:=Lib.hid hM;obtain⟨⟨ra3,rv3,ru3,rk3,rl3,re3⟩,ts3,Rv3,Rt3,Rl3,Rf3,hR3,hL3⟩:=hM;replace hL:=HL0.out.gainTail hL3.below hL3.own;simp only[List.cons_append,List.nil_append]at hL;dsimp only[machC]at hL;dsimp only;clear hL3 hR3))
    have hw:wrap64 ((j:Int)+1)=j+1:=by have:=HFU.out;unfold wrap64;omega
    go_roundw
    case rel=>exact⟨j+1,_,by omega,by rw[hw,Int.natCast_succ],HGo.out s j HG.out (by have:=HFU.out;omega),by rw[← HN.out];exact(runN_next j (by omega) HE.out).symm,HM2.out⟩
    case measure=>
     rw[hw]
     have e1:(intOf (Value.int .i64 ((j:Int)+1))).toNat=j+1:=by simp only[intOf];omega
     have e2:(intOf (Value.int .i64 (j:Int))).toNat=j:=by simp only[intOf];omega
     generalize (intOf (Value.int .i64 ((j:Int)+1))).toNat=x at e1 ⊢
     generalize (intOf (Value.int .i64 (j:Int))).toNat=y at e2 ⊢
     clear hw
     omega
   ·obtain rfl:j=fuel:=by omega
    have hN2:runN p is ins xs j (beginS n) 0=(s,j):=by rw[← HN.out,Nat.sub_self,runN]
    have HN2:=Lib.hid hN2
    clear hN2 hlt
    go_wp2_with (first|(with_reducible first|refine lld hL ?_|((first|refine lbx hL ?_|refine lal hL ?_|refine lbs hL ?_);clear hL;intro bl w1 hL)|(refine lst' hL ?_;clear hL;intro w1 hL))|(go_at_call 53;refine(over_any wq bm p ins s 4 _ HM.out).mono ?_;rintro e w3 ⟨rfl,hM⟩;obtain⟨⟨ra3,rv3,ru3,rk3,rl3,re3⟩,ts3,Rv3,Rt3,Rl3,Rf3,hR3,hL3⟩:=hM;replace hL:=HL0.out.gainTail hL3.below hL3.own;simp only[List.cons_append,List.nil_append]at hL;dsimp only[machC]at hL;dsimp only;clear hL3))
    (try simp only[Exit.inBlock,Exit.then]);refine rt3 ?_
    rw[HN2.out,show outS s={ s with ending:=4 } from if_pos HE.out]
    exact⟨⟨ra3,rv3,ru3,rk3,rl3,re3⟩,_,_,_,_,_,rfl,hR3,hL.ownOf (by repeat (first|exact List.Sublist.refl _|apply List.Sublist.cons)),hL.below⟩
  ·have HE:=Lib.hid he
   have hN2:runN p is ins xs fuel (beginS n) 0=(s,j):=by rw[← HN.out];exact runN_over _ _ he
   have HN2:=Lib.hid hN2
   have hre2:(re3==0)=false:=beq_eq_false_iff_ne.2 (by rw[hre];exact he)
   clear hre he hN2
   go_wp2_with (first|(with_reducible first|refine lld hL ?_|((first|refine lbx hL ?_|refine lal hL ?_|refine lbs hL ?_);clear hL;intro bl w1 hL)|(refine lst' hL ?_;clear hL;intro w1 hL)))
   (try simp only[Exit.inBlock,Exit.then]);refine rt3 ?_
   rw[HN2.out,show outS s=s from if_neg HE.out]
   exact⟨⟨ra3,rv3,ru3,rk3,rl3,re3⟩,_,_,_,_,_,rfl,HR3.out,hL.ownOf (by repeat (first|exact List.Sublist.refl _|apply List.Sublist.cons)),hL.below⟩
end Go.Proofs.YteoilpcbekijlaaGreatDoor
set_option linter.unusedSimpArgs false
set_option linter.unusedVariables false
set_option maxRecDepth 100000
namespace Go.Proofs.YteoilpcbekijlaaGreatDoor
open Go.RowKit
abbrev nilS:Sl:=⟨none,0,0⟩
theorem nil_inputs (w:World):InputsAt w nilS (fun _=>0):=⟨⟨0,0,fun h=>absurd h (Nat.lt_irrefl 0),fun k hk=>absurd hk (Nat.not_lt_zero k)⟩,by decide⟩
abbrev smallEnd:Rs:=⟨2,[⟨1,5⟩],[],0,[⟨#[53]⟩],1⟩
abbrev smallOn:Rs:=⟨1,[⟨1,5⟩],[],0,[],0⟩
theorem line5:lineV ⟨1,5⟩=⟨#[53]⟩:=by
 have h:Lib.itoa 5=[53]:=by simp[Lib.itoa,Lib.decDigits]
 show (⟨(Lib.itoa 5).toArray⟩:ByteArray)=_
 rw[h]
theorem small_run (b:Nat):runN (smallP b) smallIs nilS (fun _=>0) 10 (beginS 1) 0=(smallEnd,3):=by
 have h:runN (smallP b) smallIs nilS (fun _=>0) 10 (beginS 1) 0=(⟨2,[⟨1,5⟩],[],0,[lineV ⟨1,5⟩],1⟩,3):=rfl
 rw[h,line5]
theorem small_stepR (b:Nat):stepS (smallP b) smallIs nilS (fun _=>0) (beginS 1)=smallOn:=rfl
theorem small_check {b:Nat}{r:Rn}{vs:Nat→Vl}{ths:Nat→Th}{fv:Nat→Nat→Vl}(h0:0≤r.at') (h1:r.at'≤2) (ht:r.taken=0) (he:r.ending=0) (hv:r.vars.n=1) (hn:r.things.n=0) (hx:isValue (vs 0) 0=true):
  checkRun (smallP b) smallIs r vs ths fv=0:=by
 have e1:placeBad (smallP b) r=false:=by simp[placeBad,ht,he];omega
 have e2:siteBad (smallP b) smallIs r ths=false:=by simp[siteBad,hn,anyN]
 have e3:lenBad (smallP b) r ths=false:=by simp[lenBad,hn,anyN]
 have e4:varBad r vs=false:=by simp[varBad,hv,hn,anyN,hx]
 have e5:fieldBad r ths fv=false:=by simp[fieldBad,hn,anyN]
 rw[checkRun,if_pos (small_right b)]
 simp[rightRun,e1,e2,e3,e4,e5,hv,hn]
theorem small_begin_right (b:Nat):RightS (smallP b) (beginS 1):=(Gone.begin (p:=smallP b) (n:=1) rfl (Int.natCast_nonneg _)).r
theorem small_step_any (b:Nat) (r:Rn) (w:World) (hc:CodeAt w (smallP b) smallIs) (hr:RunIs w r (beginS 1)) (hp:Pows w):
  Calls Tryz.prog 23 #[(smallP b).v,r.v,nilS.v] w fun e w'=>∃ r' ts Rv Rt Rl Rf,e=.returned (.tuple #[Rn.v r',.int .i64 0])∧RowsR r' smallOn ts Rv Rt Rl Rf∧Own w.heap.size w' (Rv++(Rt++(Rl++Rf)))∧Below w.heap.size w w':=by
 obtain⟨ths,h1,h2⟩:=hr.ex
 have h3:=runStep_ok (smallP b) smallIs nilS (fun _=>0) r (beginS 1) _ ths _ w (show (2:Nat)≤9223372036854775807 by decide) hc h1.l
  (small_check (by rw[hr.a];decide) (by rw[hr.a];decide) hr.t hr.e hr.nv hr.nt rfl) hr (small_begin_right b) (small_right b) (nil_inputs w) (by decide) hp
 rw[small_stepR]at h3
 exact h3
theorem small_check_any (b:Nat) (r:Rn) (w:World) (hc:CodeAt w (smallP b) smallIs) (hr:RunIs w r smallOn):
  Calls Tryz.prog 47 #[(smallP b).v,r.v] w fun e w'=>e=.returned (.int .i64 0)∧Below w.heap.size w w':=by
 obtain⟨ths,h1,h2⟩:=hr.ex
 have h3:=runCheck_any (smallP b) smallIs r _ ths _ w (show (2:Nat)≤9223372036854775807 by decide) hc h1.l
 rw[small_check (by rw[hr.a];decide) (by rw[hr.a];decide) hr.t hr.e hr.nv hr.nt rfl]at h3
 exact h3
end Go.Proofs.YteoilpcbekijlaaGreatDoor
