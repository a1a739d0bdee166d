/-  -/
import Derived.Test.YteoilpcbekijlaaGreatDoorStepAll0
import Derived.Test.YteoilpcbekijlaaGreatDoorDat
import Derived.Test.YteoilpcbekijlaaGreatDoorVal
set_option linter.unusedSimpArgs false
set_option linter.unusedVariables false
set_option maxRecDepth 100000
set_option maxHeartbeats 4000000
namespace Go.Proofs.YteoilpcbekijlaaGreatDoor
open Go.RowKit
theorem step_all (w0:World) (bm:Nat) (p:Pg) (is:Nat→Ins) (ins:Sl) (xs:Nat→Int) (s:Rs) (w:World) (h:Mach w0 bm p ins s w) (hR:RightS p s) (hP:checkProg p is=0) (hc:CodeAt w0 p is) (hin:InputsAt w0 ins xs) (hl:s.lines.length*16≤140737488351232) (hpw:Pows w0):
  Calls Tryz.prog 52 #[.pointer (some ⟨bm,0,none⟩)] w fun e w'=>e=.returned (.tuple #[])∧Mach w0 bm p ins (stepM p is ins xs s) w':=by
 obtain⟨hsm,hone⟩:=prog_right hP
 by_cases hn:s.at'=p.n
 ·rw[show stepM p is ins xs s={ s with ending:=1 } by rw[stepM,if_pos hn]]
  exact step_end w0 bm p ins s w h hn
 have ha:=hR.a
 obtain⟨k,hk⟩:∃ k:Nat,s.at'=k:=⟨s.at'.toNat,by omega⟩
 have hkn:k<p.n:=by omega
 have hrd:=ready_of (hone k hkn)
 have hk6:=hsm.n1
 have hvl:0<s.vars.length:=by have:=hR.nv;have:=hsm.v1;omega
 rw[show stepM p is ins xs s=stepI p ins xs (is k) s by rw[stepM,if_neg hn,hk];rfl]
 rcases hi:is k with⟨kind,zt,ia,ib,num,goto⟩
 rw[hi]at hrd
 obtain⟨kd,r1,r2,r3,r4,r5,r6,r7,r8⟩:=hrd
 dsimp only at kd r1 r2 r3 r4 r5 r6 r7 r8
 have nv:=hR.nv
 have hvv:∀ x:Nat,x<s.vars.length→ValidV (s.val x) s.things.length:=fun x hx=>valid_of (hR.vals x hx)
 rcases kinds_of kd with rfl|rfl|rfl|rfl|rfl|rfl|rfl|rfl|rfl|rfl|rfl|rfl|rfl|rfl|rfl|rfl|rfl|rfl|rfl
 ·have h1:=r1 rfl
  obtain⟨t,rfl⟩:∃ t:Nat,zt=t:=⟨zt.toNat,by omega⟩
  rw[show stepI p ins xs ⟨1,(t:Int),ia,ib,num,goto⟩ s=s.set t ⟨1,num⟩ from rfl]
  exact step_1 (w0:=w0) (bm:=bm) (ins:=ins) (w:=w) (h:=h) (hk:=hk) (hkn:=hkn) (hk6:=hk6) (hc:=hc) (hv:=hvl) (hi:=hi) (ht:=by omega)
 ·have h1:=r1 rfl
  obtain⟨t,rfl⟩:∃ t:Nat,zt=t:=⟨zt.toNat,by omega⟩
  rw[show stepI p ins xs ⟨2,(t:Int),ia,ib,num,goto⟩ s=s.set t (truthV (num==1)) from rfl]
  exact step_2 (w0:=w0) (bm:=bm) (ins:=ins) (w:=w) (h:=h) (hk:=hk) (hkn:=hkn) (hk6:=hk6) (hc:=hc) (hv:=hvl) (hi:=hi) (ht:=by omega)
 ·have h1:=r1 rfl
  obtain⟨t,rfl⟩:∃ t:Nat,zt=t:=⟨zt.toNat,by omega⟩
  rw[show stepI p ins xs ⟨3,(t:Int),ia,ib,num,goto⟩ s=s.set t dV from rfl]
  exact step_3 (w0:=w0) (bm:=bm) (ins:=ins) (w:=w) (h:=h) (hk:=hk) (hkn:=hkn) (hk6:=hk6) (hc:=hc) (hv:=hvl) (hi:=hi) (ht:=by omega)
 ·have h1:=r1 rfl
  obtain⟨t,rfl⟩:∃ t:Nat,zt=t:=⟨zt.toNat,by omega⟩
  have h2:=r2 rfl
  obtain⟨a,rfl⟩:∃ a:Nat,ia=a:=⟨ia.toNat,by omega⟩
  have hva:=hvv a (by omega)
  rw[show stepI p ins xs ⟨4,(t:Int),(a:Int),ib,num,goto⟩ s=s.set t (s.val a) from rfl]
  exact step_4 (w0:=w0) (bm:=bm) (ins:=ins) (w:=w) (h:=h) (hk:=hk) (hkn:=hkn) (hk6:=hk6) (hc:=hc) (hv:=hvl) (hi:=hi) (ht:=by omega) (ha:=by omega)
 ·have h1:=r1 rfl
  obtain⟨t,rfl⟩:∃ t:Nat,zt=t:=⟨zt.toNat,by omega⟩
  have h2:=r2 rfl
  obtain⟨a,rfl⟩:∃ a:Nat,ia=a:=⟨ia.toNat,by omega⟩
  have hva:=hvv a (by omega)
  have h3:=r3 rfl
  obtain⟨b,rfl⟩:∃ b:Nat,ib=b:=⟨ib.toNat,by omega⟩
  have hvb:=hvv b (by omega)
  rw[show stepI p ins xs ⟨5,(t:Int),(a:Int),(b:Int),num,goto⟩ s=countS 5 t a b s from rfl]
  exact step_5 (w0:=w0) (bm:=bm) (ins:=ins) (w:=w) (h:=h) (hk:=hk) (hkn:=hkn) (hk6:=hk6) (hc:=hc) (hv:=hvl) (hi:=hi) (ht:=by omega) (ha:=by omega) (hb:=by omega) (hn:=⟨hva.i,hvb.i⟩)
 ·have h1:=r1 rfl
  obtain⟨t,rfl⟩:∃ t:Nat,zt=t:=⟨zt.toNat,by omega⟩
  have h2:=r2 rfl
  obtain⟨a,rfl⟩:∃ a:Nat,ia=a:=⟨ia.toNat,by omega⟩
  have hva:=hvv a (by omega)
  have h3:=r3 rfl
  obtain⟨b,rfl⟩:∃ b:Nat,ib=b:=⟨ib.toNat,by omega⟩
  have hvb:=hvv b (by omega)
  rw[show stepI p ins xs ⟨6,(t:Int),(a:Int),(b:Int),num,goto⟩ s=countS 6 t a b s from rfl]
  exact step_6 (w0:=w0) (bm:=bm) (ins:=ins) (w:=w) (h:=h) (hk:=hk) (hkn:=hkn) (hk6:=hk6) (hc:=hc) (hv:=hvl) (hi:=hi) (ht:=by omega) (ha:=by omega) (hb:=by omega) (hn:=⟨hva.i,hvb.i⟩)
 ·have h1:=r1 rfl
  obtain⟨t,rfl⟩:∃ t:Nat,zt=t:=⟨zt.toNat,by omega⟩
  have h2:=r2 rfl
  obtain⟨a,rfl⟩:∃ a:Nat,ia=a:=⟨ia.toNat,by omega⟩
  have hva:=hvv a (by omega)
  have h3:=r3 rfl
  obtain⟨b,rfl⟩:∃ b:Nat,ib=b:=⟨ib.toNat,by omega⟩
  have hvb:=hvv b (by omega)
  rw[show stepI p ins xs ⟨7,(t:Int),(a:Int),(b:Int),num,goto⟩ s=countS 7 t a b s from rfl]
  exact step_7 (w0:=w0) (bm:=bm) (ins:=ins) (w:=w) (h:=h) (hk:=hk) (hkn:=hkn) (hk6:=hk6) (hc:=hc) (hv:=hvl) (hi:=hi) (ht:=by omega) (ha:=by omega) (hb:=by omega) (hn:=⟨hva.i,hvb.i⟩)
 ·have h1:=r1 rfl
  obtain⟨t,rfl⟩:∃ t:Nat,zt=t:=⟨zt.toNat,by omega⟩
  have h2:=r2 rfl
  obtain⟨a,rfl⟩:∃ a:Nat,ia=a:=⟨ia.toNat,by omega⟩
  have hva:=hvv a (by omega)
  have h3:=r3 rfl
  obtain⟨b,rfl⟩:∃ b:Nat,ib=b:=⟨ib.toNat,by omega⟩
  have hvb:=hvv b (by omega)
  rw[show stepI p ins xs ⟨8,(t:Int),(a:Int),(b:Int),num,goto⟩ s=countS 8 t a b s from rfl]
  exact step_8 (w0:=w0) (bm:=bm) (ins:=ins) (w:=w) (h:=h) (hk:=hk) (hkn:=hkn) (hk6:=hk6) (hc:=hc) (hv:=hvl) (hi:=hi) (ht:=by omega) (ha:=by omega) (hb:=by omega) (hn:=⟨hva.i,hvb.i⟩)
 ·have h1:=r1 rfl
  obtain⟨t,rfl⟩:∃ t:Nat,zt=t:=⟨zt.toNat,by omega⟩
  have h2:=r2 rfl
  obtain⟨a,rfl⟩:∃ a:Nat,ia=a:=⟨ia.toNat,by omega⟩
  have hva:=hvv a (by omega)
  have h3:=r3 rfl
  obtain⟨b,rfl⟩:∃ b:Nat,ib=b:=⟨ib.toNat,by omega⟩
  have hvb:=hvv b (by omega)
  rw[show stepI p ins xs ⟨9,(t:Int),(a:Int),(b:Int),num,goto⟩ s=s.set t (truthV (sameB (s.val a) (s.val b))) from rfl]
  exact step_9 (w0:=w0) (bm:=bm) (ins:=ins) (w:=w) (h:=h) (hk:=hk) (hkn:=hkn) (hk6:=hk6) (hc:=hc) (hv:=hvl) (hi:=hi) (ht:=by omega) (ha:=by omega) (hb:=by omega)
 ·have h1:=r1 rfl
  obtain⟨t,rfl⟩:∃ t:Nat,zt=t:=⟨zt.toNat,by omega⟩
  have h2:=r2 rfl
  obtain⟨a,rfl⟩:∃ a:Nat,ia=a:=⟨ia.toNat,by omega⟩
  have hva:=hvv a (by omega)
  rw[show stepI p ins xs ⟨10,(t:Int),(a:Int),ib,num,goto⟩ s=s.set t (truthV (!countsV (s.val a))) from rfl]
  exact step_10 (w0:=w0) (bm:=bm) (ins:=ins) (w:=w) (h:=h) (hk:=hk) (hkn:=hkn) (hk6:=hk6) (hc:=hc) (hv:=hvl) (hi:=hi) (ht:=by omega) (ha:=by omega)
 ·have h1:=r1 rfl
  obtain⟨t,rfl⟩:∃ t:Nat,zt=t:=⟨zt.toNat,by omega⟩
  obtain⟨m,hm⟩:∃ m:Nat,p.fields=m:=⟨p.fields.toNat,by have:=hsm.f1;omega⟩
  have hS:stepI p ins xs ⟨11,(t:Int),ia,ib,num,goto⟩ s=createS t m s:=by simp[stepI,hm]
  rw[hS]
  exact step_11 (w0:=w0) (bm:=bm) (ins:=ins) (w:=w) (h:=h) (hk:=hk) (hkn:=hkn) (hk6:=hk6) (hc:=hc) (hv:=hvl) (hi:=hi) (ht:=by omega) (hn:=⟨⟨hm,by have:=hsm.f2;omega⟩,hR.nt⟩)
 ·have h1:=r1 rfl
  obtain⟨t,rfl⟩:∃ t:Nat,zt=t:=⟨zt.toNat,by omega⟩
  have h2:=r2 rfl
  obtain⟨a,rfl⟩:∃ a:Nat,ia=a:=⟨ia.toNat,by omega⟩
  have hva:=hvv a (by omega)
  have h5:=r4 (by simp)
  obtain⟨f,rfl⟩:∃ f:Nat,num=f:=⟨num.toNat,by omega⟩
  rw[show stepI p ins xs ⟨12,(t:Int),(a:Int),ib,(f:Int),goto⟩ s=(if (s.val a).kind=3 then s.set t (s.field (s.val a).n.toNat f) else { s with ending:=2 }) from rfl]
  by_cases hka:(s.val a).kind=3
  ·have hth:=hva.th hka
   obtain⟨kk,hkk⟩:∃ kk:Nat,(s.val a).n=kk:=⟨(s.val a).n.toNat,by omega⟩
   have hlk:kk<s.things.length:=by omega
   have hfl:=hR.nf kk hlk
   rw[if_pos hka,hkk,Int.toNat_natCast]
   exact step_12_yes (w0:=w0) (bm:=bm) (ins:=ins) (w:=w) (h:=h) (hk:=hk) (hkn:=hkn) (hk6:=hk6) (hc:=hc) (hv:=hvl) (hi:=hi) (ht:=by omega) (ha:=by omega) (h3:=by rw[← hka,← hkk]) (hkk:=hlk) (hf:=by omega)
  ·rw[if_neg hka]
   exact step_12_no (w0:=w0) (bm:=bm) (ins:=ins) (w:=w) (h:=h) (hk:=hk) (hkn:=hkn) (hk6:=hk6) (hc:=hc) (hv:=hvl) (hi:=hi) (ha:=by omega) (hn:=hka)
 ·have h2:=r2 rfl
  obtain⟨a,rfl⟩:∃ a:Nat,ia=a:=⟨ia.toNat,by omega⟩
  have hva:=hvv a (by omega)
  have h3:=r3 rfl
  obtain⟨b,rfl⟩:∃ b:Nat,ib=b:=⟨ib.toNat,by omega⟩
  have hvb:=hvv b (by omega)
  have h5:=r4 (by simp)
  obtain⟨f,rfl⟩:∃ f:Nat,num=f:=⟨num.toNat,by omega⟩
  rw[show stepI p ins xs ⟨13,zt,(a:Int),(b:Int),(f:Int),goto⟩ s=(if (s.val a).kind=3 then putS (s.val a).n.toNat f (s.val b) s else { s with ending:=2 }) from rfl]
  by_cases hka:(s.val a).kind=3
  ·have hth:=hva.th hka
   obtain⟨kk,hkk⟩:∃ kk:Nat,(s.val a).n=kk:=⟨(s.val a).n.toNat,by omega⟩
   have hlk:kk<s.things.length:=by omega
   have hfl:=hR.nf kk hlk
   rw[if_pos hka,hkk,Int.toNat_natCast]
   exact step_13_yes (w0:=w0) (bm:=bm) (ins:=ins) (w:=w) (h:=h) (hk:=hk) (hkn:=hkn) (hk6:=hk6) (hc:=hc) (hv:=hvl) (hi:=hi) (hb:=by omega) (ha:=by omega) (h3:=by rw[← hka,← hkk]) (hkk:=hlk) (hf:=by omega)
  ·rw[if_neg hka]
   exact step_13_no (w0:=w0) (bm:=bm) (ins:=ins) (w:=w) (h:=h) (hk:=hk) (hkn:=hkn) (hk6:=hk6) (hc:=hc) (hv:=hvl) (hi:=hi) (ha:=by omega) (hn:=hka)
 ·have h1:=r1 rfl
  obtain⟨t,rfl⟩:∃ t:Nat,zt=t:=⟨zt.toNat,by omega⟩
  have h8:=r8 rfl
  rw[show stepI p ins xs ⟨14,(t:Int),ia,ib,num,goto⟩ s=takeS ⟨14,(t:Int),ia,ib,num,goto⟩ t ins xs s from rfl]
  exact step_14 (w0:=w0) (bm:=bm) (ins:=ins) (w:=w) (h:=h) (hk:=hk) (hkn:=hkn) (hk6:=hk6) (hc:=hc) (hv:=hvl) (hi:=hi) (xs:=xs) (ht:=by omega) (hn:=⟨hin,h8,hR.tk⟩)
 ·have h2:=r2 rfl
  obtain⟨a,rfl⟩:∃ a:Nat,ia=a:=⟨ia.toNat,by omega⟩
  have hva:=hvv a (by omega)
  rw[show stepI p ins xs ⟨15,zt,(a:Int),ib,num,goto⟩ s=onwardS 15 goto a s from rfl]
  exact step_15 (w0:=w0) (bm:=bm) (ins:=ins) (w:=w) (h:=h) (hk:=hk) (hkn:=hkn) (hk6:=hk6) (hc:=hc) (hv:=hvl) (hi:=hi) (ha:=by omega) (hn:=⟨hva.small hR.nt,by omega,hpw⟩)
 ·rw[show stepI p ins xs ⟨16,zt,ia,ib,num,goto⟩ s=onwardS 16 goto ia.toNat s from rfl]
  exact step_16 (w0:=w0) (bm:=bm) (ins:=ins) (w:=w) (h:=h) (hk:=hk) (hkn:=hkn) (hk6:=hk6) (hc:=hc) (hv:=hvl) (hi:=hi)
 ·have h2:=r2 rfl
  obtain⟨a,rfl⟩:∃ a:Nat,ia=a:=⟨ia.toNat,by omega⟩
  have hva:=hvv a (by omega)
  rw[show stepI p ins xs ⟨17,zt,(a:Int),ib,num,goto⟩ s=onwardS 17 goto a s from rfl]
  exact step_17 (w0:=w0) (bm:=bm) (ins:=ins) (w:=w) (h:=h) (hk:=hk) (hkn:=hkn) (hk6:=hk6) (hc:=hc) (hv:=hvl) (hi:=hi) (ha:=by omega) (hn:=⟨hva.small hR.nt,by omega,hpw⟩)
 ·have h2:=r2 rfl
  obtain⟨a,rfl⟩:∃ a:Nat,ia=a:=⟨ia.toNat,by omega⟩
  have hva:=hvv a (by omega)
  rw[show stepI p ins xs ⟨18,zt,(a:Int),ib,num,goto⟩ s=onwardS 18 goto a s from rfl]
  exact step_18 (w0:=w0) (bm:=bm) (ins:=ins) (w:=w) (h:=h) (hk:=hk) (hkn:=hkn) (hk6:=hk6) (hc:=hc) (hv:=hvl) (hi:=hi) (ha:=by omega) (hn:=⟨hva.small hR.nt,by omega,hpw⟩)
 ·rw[show stepI p ins xs ⟨19,zt,ia,ib,num,goto⟩ s=onwardS 19 goto ia.toNat s from rfl]
  exact step_19 (w0:=w0) (bm:=bm) (ins:=ins) (w:=w) (h:=h) (hk:=hk) (hkn:=hkn) (hk6:=hk6) (hc:=hc) (hv:=hvl) (hi:=hi)
end Go.Proofs.YteoilpcbekijlaaGreatDoor
set_option linter.unusedSimpArgs false
set_option linter.unusedVariables false
set_option maxRecDepth 100000
set_option maxHeartbeats 2000000
namespace Go.Proofs.YteoilpcbekijlaaGreatDoor
open Go.RowKit
theorem runBegin_ok (p:Pg) (is:Nat→Ins) (n:Nat) (w:World) (hn:p.n≤9223372036854775807) (hc:CodeAt w p is) (hq:checkProg p is=0) (hpn:p.vars=n) (hn8:n≤8):
  Calls Tryz.prog 46 #[p.v] w fun e w'=>∃ r' ts Rv Rt Rl Rf,e=.returned (.tuple #[Rn.v r',.int .i64 0])∧RowsR r' (beginS n) ts Rv Rt Rl Rf∧Own w.heap.size w' (Rv++(Rt++(Rl++Rf)))∧Below w.heap.size w w':=by
 have hk:=fun w' (hb:Below w.heap.size w w')=>codeCheck_any p is w' (hc.grow hb) hn
 rw[hq]at hk
 have HK:=Lib.hid hk
 have HB:=Lib.hid (fun w'=>begin_any p n w' hpn hn8)
 clear hk hq hc hn hpn hn8
 have hL:=Loc.start w
 go_enter Tryz.func46,Tryz.ntmps46
 go_wp2_with (first|(with_reducible first|refine lld hL ?_|((first|refine lbx hL ?_|refine lal hL ?_|refine lbs hL ?_);clear hL;intro bl w1 hL)|(refine lst' hL ?_;clear hL;intro w1 hL))|(go_at_call 48;refine(HK.out _ hL.below).mono ?_;rintro e w1 ⟨rfl,hb⟩;replace hL:=hL.grow hb;clear hb;dsimp only)|(go_at_call 51;refine(HB.out _).mono ?_;rintro e w3 ⟨⟨ra,rv,rt,rk,rl,re⟩,ts,Rv,Rt,Rl,Rf,rfl,hR,ho,hb⟩;replace hL:=hL.gainTail hb ho;simp only[List.cons_append,List.nil_append]at hL;clear ho hb;dsimp only))
 (try simp only[Exit.inBlock,Exit.then]);refine rt2 ?_
 exact⟨⟨ra,rv,rt,rk,rl,re⟩,_,_,_,_,_,rfl,hR,hL.ownOf (by repeat (first|exact List.Sublist.refl _|apply List.Sublist.cons)),hL.below⟩
end Go.Proofs.YteoilpcbekijlaaGreatDoor
