/-  -/
import Derived.Test.YtplcndmdkabmeaaGreatDoorAlmH
import Derived.Test.YtplcndmdkabmeaaGreatDoorAlmB
import Derived.Test.YtplcndmdkabmeaaGreatDoorRunFuel
set_option linter.unusedSimpArgs false
set_option linter.unusedVariables false
set_option maxRecDepth 100000
set_option maxHeartbeats 3200000
namespace Go.Proofs.YtplcndmdkabmeaaGreatDoor
open Go.RowKit
theorem zAlarmsV:ZeroT Tryz.prog 32 [.slice none 0 0]:=⟨by kernel_rfl⟩
theorem asound_bad (p:Pg) (is:Nat→Ins) (ins:Sl) (fuel:Int) (w:World) (hn:p.n≤9223372036854775807) (hc:CodeAt w p is) (h0:checkProg p is≠0) (hg:Glob w):
  Calls Tryz.prog 4 #[p.v,ins.v,.int .i64 fuel] w fun q w'=>q=.returned (.bool true)∧Below w.heap.size w w':=by
 have HG:=Lib.hid hg
 have HAL:=Lib.hid (fun w' (hb' : Below w.heap.size w w')=>alarms_bad p is w' hn (hc.grow hb') h0)
 have HSU:=Lib.hid (fun w' (hb' : Below w.heap.size w w')=>sure_bad p is w' hn (hc.grow hb') h0)
 have HRU:=Lib.hid (fun w' (hb' : Below w.heap.size w w')=>runRun_bad p is ins fuel w' hn (hc.grow hb') h0)
 have hne:(checkProg p is != 0)=true:=by simpa using h0
 generalize checkProg p is=c at *
 clear hc hn hg h0
 obtain⟨pv,pf,pp,pn,pc⟩:=p
 obtain⟨ip,im,ic⟩:=ins
 try dsimp only at *
 have hL:=Loc.start w
 go_enter Tryz.func4,Tryz.ntmps4
 go_wp2_with (first|(go_at_call 9;refine(alarmBegun_any _ (HG.out.grow hL.below)).mono ?_;rintro e w1 ⟨rfl,hb⟩;replace hL:=hL.grow hb;clear hb;dsimp only)|(go_at_call 12;refine(runBegun_any _ (HG.out.grow hL.below).pows).mono ?_;rintro e w1 ⟨rfl,hb⟩;replace hL:=hL.grow hb;clear hb;dsimp only)|(go_at_call 13;refine(HAL.out _ hL.below).mono ?_;rintro e w1 ⟨rfl,hb⟩;replace hL:=hL.grow hb;clear hb;dsimp only)|(go_at_call 14;refine(HSU.out _ hL.below).mono ?_;rintro e w1 ⟨rfl,hb⟩;replace hL:=hL.grow hb;clear hb;dsimp only)|(go_at_call 15;refine(HRU.out _ hL.below).mono ?_;rintro e w1 ⟨rfl,hb⟩;replace hL:=hL.grow hb;clear hb;dsimp only)|((with_reducible refine loc_alloc (T:=32) hL want0 zAlarmsV ?_);clear hL;intro b7 w1 hL)|(with_reducible first|refine lld hL ?_|((first|refine lbx hL ?_|refine lal hL ?_|refine lbs hL ?_);clear hL;intro bl w1 hL)|(refine lst' hL ?_;clear hL;intro w1 hL)))
 (try simp only[Exit.inBlock,Exit.then]);refine rt1 ?_
 exact⟨rfl,hL.below⟩
theorem asound_fuel (p:Pg) (is:Nat→Ins) (nv nf:Nat) (hv:p.vars=nv) (hf:p.fields=nf) (ins:Sl) (fuel:Int) (w:World) (hn:p.n≤9223372036854775807) (hc:CodeAt w p is) (h0:checkProg p is=0) (hfu:fuel<0∨5000<fuel) (hg:Glob w):
  Calls Tryz.prog 4 #[p.v,ins.v,.int .i64 fuel] w fun q w'=>q=.returned (.bool true)∧Below w.heap.size w w':=by
 have HG:=Lib.hid hg
 have HAL:=Lib.hid (fun w' (hb' : Below w.heap.size w w')=>alarms_good p is nv nf hv hf w' hn (hc.grow hb') h0)
 have HSU:=Lib.hid (fun w' (hb' : Below w.heap.size w w')=>sure_good p is nv nf hv hf w' hn (hc.grow hb') h0)
 have HRU:=Lib.hid (fun w' (hb' : Below w.heap.size w w')=>runRun_fuel p is ins fuel w' hn (hc.grow hb') h0 hfu)
 clear hc hn hg h0 hfu hv hf
 obtain⟨pv,pf,pp,pn,pc⟩:=p
 obtain⟨ip,im,ic⟩:=ins
 try dsimp only at *
 have hL:=Loc.start w
 go_enter Tryz.func4,Tryz.ntmps4
 go_wp2_with (first|(go_at_call 9;refine(alarmBegun_any _ (HG.out.grow hL.below)).mono ?_;rintro e w1 ⟨rfl,hb⟩;replace hL:=hL.grow hb;clear hb;dsimp only)|(go_at_call 12;refine(runBegun_any _ (HG.out.grow hL.below).pows).mono ?_;rintro e w1 ⟨rfl,hb⟩;replace hL:=hL.grow hb;clear hb;dsimp only)|(go_at_call 13;refine(HAL.out _ hL.below).mono ?_;rintro e w1 ⟨k,⟨sp,sn,sc⟩,rfl,-,-,hb⟩;replace hL:=hL.grow hb;clear hb;dsimp only[Sl.v])|(go_at_call 14;refine(HSU.out _ hL.below).mono ?_;rintro e w1 ⟨k2,rfl,-,hb⟩;replace hL:=hL.grow hb;clear hb;dsimp only)|(go_at_call 15;refine(HRU.out _ hL.below).mono ?_;rintro e w1 ⟨rfl,hb⟩;replace hL:=hL.grow hb;clear hb;dsimp only)|((with_reducible refine loc_alloc (T:=32) hL want0 zAlarmsV ?_);clear hL;intro b7 w1 hL)|(with_reducible first|refine lld hL ?_|((first|refine lbx hL ?_|refine lal hL ?_|refine lbs hL ?_);clear hL;intro bl w1 hL)|(refine lst' hL ?_;clear hL;intro w1 hL)))
 (try simp only[Exit.inBlock,Exit.then]);refine rt1 ?_
 exact⟨rfl,hL.below⟩
theorem asound_ok (p:Pg) (is:Nat→Ins) (nv nf:Nat) (hv:p.vars=nv) (hf:p.fields=nf) (ins:Sl) (xs:Nat→Int) (fuel:Nat) (w:World) (hn:p.n≤9223372036854775807) (hc:CodeAt w p is) (hin:InputsAt w ins xs) (h0:checkProg p is=0) (hfu:fuel≤5000) (hg:Glob w):
  Calls Tryz.prog 4 #[p.v,ins.v,.int .i64 fuel] w fun q w'=>q=.returned (.bool true)∧Below w.heap.size w w':=by
 have hs:=(prog_right h0).1
 have h60:=hs.n1
 have HG:=Lib.hid hg
 have HAL:=Lib.hid (fun w' (hb' : Below w.heap.size w w')=>alarms_good p is nv nf hv hf w' hn (hc.grow hb') h0)
 have HSU:=Lib.hid (fun w' (hb' : Below w.heap.size w w')=>sure_good p is nv nf hv hf w' hn (hc.grow hb') h0)
 have hru:=fun w' (hb:Below w.heap.size w w')=>runRun_ok p is ins xs fuel nv w' hn (hc.grow hb) h0 ⟨hin.1.grow hb,hin.2⟩ (hg.grow hb).pows hv (by have:=hs.v2;omega) hfu
 have hok:=fun k (hE:EndsN is p.n (beginL nv nf p.n) k)=>alm_ok (ins:=ins) (xs:=xs) hv hf h0 hfu hE
 have HUL:=Lib.hid (fun l=>almUp_len is l p.n)
 generalize outS (runN p is ins xs fuel (beginS nv) 0).1=t at hok hru
 generalize (runN p is ins xs fuel (beginS nv) 0).2=steps at hru
 have hat:∀ (r:Rn) ts Rv Rt Rl Rf,RowsR r t ts Rv Rt Rl Rf→r.at'=t.at'∧r.ending=t.ending:=fun r ts Rv Rt Rl Rf h=>⟨h.a,h.e⟩
 generalize t.at'=ta at hok hat
 generalize t.ending=te at hok hat
 have HRU:=Lib.hid hru
 have HOK:=Lib.hid hok
 have HAT:=Lib.hid hat
 clear hc hn hg h0 hfu hv hf hin hru hok hat hs
 obtain⟨pv,pf,pp,pn,pc⟩:=p
 obtain⟨ip,im,ic⟩:=ins
 dsimp only at *
 have hL:=Loc.start w
 go_enter Tryz.func4,Tryz.ntmps4
 go_upto_region 3 with(first|(go_at_call 9;refine(alarmBegun_any _ (HG.out.grow hL.below)).mono ?_;rintro e w1 ⟨rfl,hb⟩;replace hL:=hL.grow hb;clear hb;dsimp only)|(go_at_call 12;refine(runBegun_any _ (HG.out.grow hL.below).pows).mono ?_;rintro e w1 ⟨rfl,hb⟩;replace hL:=hL.grow hb;clear hb;dsimp only)|(with_reducible first|refine lld hL ?_|((first|refine lbx hL ?_|refine lal hL ?_|refine lbs hL ?_);clear hL;intro bl w1 hL)|(refine lst' hL ?_;clear hL;intro w1 hL)))
 go_upto_region 4 with(first|(go_at_call 13;refine(HAL.out _ hL.below).mono ?_;rintro e w1 ⟨k,⟨sp,sn,sc⟩,rfl,hE,hA,hb⟩;replace hL:=hL.grow hb;have HB:=Lib.hid hL.below;have HE:=Lib.hid hE;have HA:=Lib.hid hA;have hal:=HUL.out (solN is pn (beginL nv nf pn) (k+1));have hop:=HOK.out k hE;have HRP:=Lib.hid (prog_readA (p:=⟨pv,pf,pp,pn,pc⟩) (hL.heap InL.head));clear hb hE hA hL HAL HUL HOK;obtain⟨wa,hwa⟩:∃ x,x=w1:=⟨_,rfl⟩;subst hwa;have hL:=Loc.start wa;dsimp only[Sl.v])|((with_reducible refine loc_alloc (T:=32) hL want0 zAlarmsV ?_);clear hL;intro b7 w1 hL)|(with_reducible first|refine lld hL ?_|((first|refine lbx hL ?_|refine lal hL ?_|refine lbs hL ?_);clear hL;intro bl w1 hL)|(refine lst' hL ?_;clear hL;intro w1 hL)))
 go_upto_region 5 with(first|(go_at_call 14;refine(HSU.out _ (HB.out.trans (hL.below.mono HB.out.size))).mono ?_;rintro e w3 ⟨k2,rfl,hE2,hb⟩;obtain rfl:=HE.out.one hE2;replace hL:=hL.grow hb;clear hb hE2;dsimp only)|(with_reducible refine ldB HRP.out hL ?_)|(with_reducible first|refine lld hL ?_|((first|refine lbx hL ?_|refine lal hL ?_|refine lbs hL ?_);clear hL;intro bl w1 hL)|(refine lst' hL ?_;clear hL;intro w1 hL)))
 obtain⟨al,hal2⟩:∃ al,al=almUp is (solN is pn (beginL nv nf pn) (k+1)) pn:=⟨_,rfl⟩
 rw[← hal2]at HA hal hop
 simp only[← hal2]
 have hl1:al.length≤1000:=by omega
 have HOP:=Lib.hid hop
 clear hal2 hal hop HSU HE
 go_upto_region 6 with(first|(go_at_call 15;refine(HRU.out _ (HB.out.trans (hL.below.mono HB.out.size))).mono ?_;rintro e w3 ⟨⟨ra,⟨rvp,rvn,rvc⟩,⟨rtp,rtn,rtc⟩,rk,⟨rlp,rln,rlc⟩,re⟩,ts,Rv,Rt,Rl,Rf,rfl,hR,ho,hb3⟩;obtain⟨q1,q2⟩:=HAT.out _ _ _ _ _ _ hR;dsimp only at q1 q2;subst q1 q2;replace hL:=hL.grow hb3;clear ho hb3 hR;(try dsimp only))|(with_reducible refine ldB HRP.out hL ?_)|((with_reducible refine lal hL ?_);clear hL;intro b11 w1 hL)|(with_reducible first|refine lld hL ?_|((first|refine lbx hL ?_|refine lal hL ?_|refine lbs hL ?_);clear hL;intro bl w1 hL)|(refine lst' hL ?_;clear hL;intro w1 hL)))
 clear HRU HAT HRP
 go_upto_region 11 with(first|(go_at_call 16;refine(hasAl_any 3 _ _ ⟨sp,sn,sc⟩ al ra _ _ (hL.heap cIn) (hL.heap cIn) (HA.out.grow hL.below) hl1).mono ?_;rintro e w4 ⟨rfl,hb⟩;replace hL:=hL.grow hb;clear hb;simp only[HOP.out.i])|(with_reducible first|refine lld hL ?_|((first|refine lbx hL ?_|refine lal hL ?_|refine lbs hL ?_);clear hL;intro bl w1 hL)|(refine lst' hL ?_;clear hL;intro w1 hL)))
 by_cases h2:re=2
 ·subst h2
  obtain⟨q1,q2⟩:=HOP.out.w rfl
  have Q1:=Lib.hid q1
  simp only[q2]
  clear q1 q2 HOP
  go_wp2_with (first|(go_at_call 16;refine(hasAl_any 1 _ _ ⟨sp,sn,sc⟩ al ra _ _ (hL.heap cIn) (hL.heap cIn) (HA.out.grow hL.below) hl1).mono ?_;rintro e w4 ⟨rfl,hb⟩;replace hL:=hL.grow hb;clear hb;simp only[Q1.out])|(with_reducible first|refine lld hL ?_|((first|refine lbx hL ?_|refine lal hL ?_|refine lbs hL ?_);clear hL;intro bl w1 hL)|(refine lst' hL ?_;clear hL;intro w1 hL)))
  (try simp only[Exit.inBlock,Exit.then]);refine rt1 ?_
  exact⟨rfl,HB.out.trans (hL.below.mono HB.out.size)⟩
 by_cases h3:re=3
 ·subst h3
  obtain⟨q1,q2⟩:=HOP.out.f rfl
  have Q1:=Lib.hid q1
  simp only[q2]
  clear q1 q2 HOP
  go_wp2_with (first|(go_at_call 16;refine(hasAl_any 2 _ _ ⟨sp,sn,sc⟩ al ra _ _ (hL.heap cIn) (hL.heap cIn) (HA.out.grow hL.below) hl1).mono ?_;rintro e w4 ⟨rfl,hb⟩;replace hL:=hL.grow hb;clear hb;simp only[Q1.out])|(with_reducible first|refine lld hL ?_|((first|refine lbx hL ?_|refine lal hL ?_|refine lbs hL ?_);clear hL;intro bl w1 hL)|(refine lst' hL ?_;clear hL;intro w1 hL)))
  (try simp only[Exit.inBlock,Exit.then]);refine rt1 ?_
  exact⟨rfl,HB.out.trans (hL.below.mono HB.out.size)⟩
 have q2:(re==2)=false:=by simpa using h2
 have q3:(re==3)=false:=by simpa using h3
 clear HOP
 go_wp2_with (first|(with_reducible first|refine lld hL ?_|((first|refine lbx hL ?_|refine lal hL ?_|refine lbs hL ?_);clear hL;intro bl w1 hL)|(refine lst' hL ?_;clear hL;intro w1 hL)))
 (try simp only[Exit.inBlock,Exit.then]);refine rt1 ?_
 exact⟨rfl,HB.out.trans (hL.below.mono HB.out.size)⟩
theorem asound_any (p:Pg) (is:Nat→Ins) (ins:Sl) (xs:Nat→Int) (fuel:Int) (w:World) (hn:p.n≤9223372036854775807) (hc:CodeAt w p is) (hin:InputsAt w ins xs) (hg:Glob w):
  Calls Tryz.prog 4 #[p.v,ins.v,.int .i64 fuel] w fun q w'=>q=.returned (.bool true)∧Below w.heap.size w w':=by
 by_cases h0:checkProg p is=0
 ·have hs:=(prog_right h0).1
  obtain⟨nv,hv⟩:∃ nv:Nat,p.vars=nv:=⟨p.vars.toNat,by have:=hs.v1;omega⟩
  obtain⟨nf,hf⟩:∃ nf:Nat,p.fields=nf:=⟨p.fields.toNat,by have:=hs.f1;omega⟩
  by_cases hfu:fuel<0∨5000<fuel
  ·exact asound_fuel p is nv nf hv hf ins fuel w hn hc h0 hfu hg
  ·obtain⟨f,rfl⟩:∃ f:Nat,fuel=f:=⟨fuel.toNat,by omega⟩
   exact asound_ok p is nv nf hv hf ins xs f w hn hc hin h0 (by omega) hg
 ·exact asound_bad p is ins fuel w hn hc h0 hg
end Go.Proofs.YtplcndmdkabmeaaGreatDoor
