/-  -/
import Derived.Test.YtplcndmdkabmeaaGreatDoorStepAll0
import Derived.Test.YtplcndmdkabmeaaGreatDoorDat
import Derived.Test.YtplcndmdkabmeaaGreatDoorVal
set_option linter.unusedSimpArgs false
set_option linter.unusedVariables false
set_option maxRecDepth 100000
set_option maxHeartbeats 4000000
namespace Go.Proofs.YtplcndmdkabmeaaGreatDoor
open Go.RowKit
theorem step_all (w0:World) (bm:Nat) (p:Pg) (is:Nat→Ins) (ins:Sl) (xs:Nat→Int) (s:Rs) (w:World) (h:Mach w0 bm p ins s w) (hR:RightS p s) (hP:checkProg p is=0) (hc:CodeAt w0 p is) (hin:InputsAt w0 ins xs) (hl:s.lines.length*16≤140737488351232) (hpw:Pows w0):
  Calls Tryz.prog 47 #[.pointer (some ⟨bm,0,none⟩)] w fun e w'=>e=.returned (.tuple #[])∧Mach w0 bm p ins (stepM p is ins xs s) w':=by
 obtain⟨hsm,hone⟩:=prog_right hP
 by_cases hn:s.at'=p.n
 ·rw[show stepM p is ins xs s={ s with ending:=1 } by rw[stepM,if_pos hn]]
  exact step_end w0 bm p ins s w h hn
 have ha:=hR.a
 obtain⟨k,hk⟩:∃ k:Nat,s.at'=k:=⟨s.at'.toNat,by omega⟩
 have hkn:k<p.n:=by omega
 have hrd:=ready_of (hone k hkn)
 have hk6:=hsm.n1
 have hvl:0<s.vars.length:=by have:=hR.nv;have:=hsm.v1;omega
 rw[show stepM p is ins xs s=stepI p ins xs (is k) s by rw[stepM,if_neg hn,hk];rfl]
 rcases hi:is k with⟨kind,to,ia,ib,num,goto⟩
 rw[hi]at hrd
 obtain⟨kd,r1,r2,r3,r4,r5,r6,r7,r8⟩:=hrd
 dsimp only at kd r1 r2 r3 r4 r5 r6 r7 r8
 have nv:=hR.nv
 have hvv:∀ x:Nat,x<s.vars.length→ValidV (s.val x) s.things.length:=fun x hx=>valid_of (hR.vals x hx)
 rcases kinds_of kd with rfl|rfl|rfl|rfl|rfl|rfl|rfl|rfl|rfl|rfl|rfl|rfl|rfl|rfl|rfl|rfl|rfl|rfl|rfl
 ·have h1:=r1 rfl
  obtain⟨t,rfl⟩:∃ t:Nat,to=t:=⟨to.toNat,by omega⟩
  rw[show stepI p ins xs ⟨1,(t:Int),ia,ib,num,goto⟩ s=s.set t ⟨1,num⟩ from rfl]
  exact step_1 (w0:=w0) (bm:=bm) (ins:=ins) (w:=w) (h:=h) (hk:=hk) (hkn:=hkn) (hk6:=hk6) (hc:=hc) (hv:=hvl) (hi:=hi) (ht:=by omega)
 ·have h1:=r1 rfl
  obtain⟨t,rfl⟩:∃ t:Nat,to=t:=⟨to.toNat,by omega⟩
  rw[show stepI p ins xs ⟨2,(t:Int),ia,ib,num,goto⟩ s=s.set t (truthV (num==1)) from rfl]
  exact step_2 (w0:=w0) (bm:=bm) (ins:=ins) (w:=w) (h:=h) (hk:=hk) (hkn:=hkn) (hk6:=hk6) (hc:=hc) (hv:=hvl) (hi:=hi) (ht:=by omega)
 ·have h1:=r1 rfl
  obtain⟨t,rfl⟩:∃ t:Nat,to=t:=⟨to.toNat,by omega⟩
  rw[show stepI p ins xs ⟨3,(t:Int),ia,ib,num,goto⟩ s=s.set t dV from rfl]
  exact step_3 (w0:=w0) (bm:=bm) (ins:=ins) (w:=w) (h:=h) (hk:=hk) (hkn:=hkn) (hk6:=hk6) (hc:=hc) (hv:=hvl) (hi:=hi) (ht:=by omega)
 ·have h1:=r1 rfl
  obtain⟨t,rfl⟩:∃ t:Nat,to=t:=⟨to.toNat,by omega⟩
  have h2:=r2 rfl
  obtain⟨a,rfl⟩:∃ a:Nat,ia=a:=⟨ia.toNat,by omega⟩
  have hva:=hvv a (by omega)
  rw[show stepI p ins xs ⟨4,(t:Int),(a:Int),ib,num,goto⟩ s=s.set t (s.val a) from rfl]
  exact step_4 (w0:=w0) (bm:=bm) (ins:=ins) (w:=w) (h:=h) (hk:=hk) (hkn:=hkn) (hk6:=hk6) (hc:=hc) (hv:=hvl) (hi:=hi) (ht:=by omega) (ha:=by omega)
 ·have h1:=r1 rfl
  obtain⟨t,rfl⟩:∃ t:Nat,to=t:=⟨to.toNat,by omega⟩
  have h2:=r2 rfl
  obtain⟨a,rfl⟩:∃ a:Nat,ia=a:=⟨ia.toNat,by omega⟩
  have hva:=hvv a (by omega)
  have h3:=r3 rfl
  obtain⟨b,rfl⟩:∃ b:Nat,ib=b:=⟨ib.toNat,by omega⟩
  have hvb:=hvv b (by omega)
  rw[show stepI p ins xs ⟨5,(t:Int),(a:Int),(b:Int),num,goto⟩ s=countS 5 t a b s from rfl]
  exact step_5 (w0:=w0) (bm:=bm) (ins:=ins) (w:=w) (h:=h) (hk:=hk) (hkn:=hkn) (hk6:=hk6) (hc:=hc) (hv:=hvl) (hi:=hi) (ht:=by omega) (ha:=by omega) (hb:=by omega) (hn:=⟨hva.i,hvb.i⟩)
 ·have h1:=r1 rfl
  obtain⟨t,rfl⟩:∃ t:Nat,to=t:=⟨to.toNat,by omega⟩
  have h2:=r2 rfl
  obtain⟨a,rfl⟩:∃ a:Nat,ia=a:=⟨ia.toNat,by omega⟩
  have hva:=hvv a (by omega)
  have h3:=r3 rfl
  obtain⟨b,rfl⟩:∃ b:Nat,ib=b:=⟨ib.toNat,by omega⟩
  have hvb:=hvv b (by omega)
  rw[show stepI p ins xs ⟨6,(t:Int),(a:Int),(b:Int),num,goto⟩ s=countS 6 t a b s from rfl]
  exact step_6 (w0:=w0) (bm:=bm) (ins:=ins) (w:=w) (h:=h) (hk:=hk) (hkn:=hkn) (hk6:=hk6) (hc:=hc) (hv:=hvl) (hi:=hi) (ht:=by omega) (ha:=by omega) (hb:=by omega) (hn:=⟨hva.i,hvb.i⟩)
 ·have h1:=r1 rfl
  obtain⟨t,rfl⟩:∃ t:Nat,to=t:=⟨to.toNat,by omega⟩
  have h2:=r2 rfl
  obtain⟨a,rfl⟩:∃ a:Nat,ia=a:=⟨ia.toNat,by omega⟩
  have hva:=hvv a (by omega)
  have h3:=r3 rfl
  obtain⟨b,rfl⟩:∃ b:Nat,ib=b:=⟨ib.toNat,by omega⟩
  have hvb:=hvv b (by omega)
  rw[show stepI p ins xs ⟨7,(t:Int),(a:Int),(b:Int),num,goto⟩ s=countS 7 t a b s from rfl]
  exact step_7 (w0:=w0) (bm:=bm) (ins:=ins) (w:=w) (h:=h) (hk:=hk) (hkn:=hkn) (hk6:=hk6) (hc:=hc) (hv:=hvl) (hi:=hi) (ht:=by omega) (ha:=by omega) (hb:=by omega) (hn:=⟨hva.i,hvb.i⟩)
 ·have h1:=r1 rfl
  obtain⟨t,rfl⟩:∃ t:Nat,to=t:=⟨to.toNat,by omega⟩
  have h2:=r2 rfl
  obtain⟨a,rfl⟩:∃ a:Nat,ia=a:=⟨ia.toNat,by omega⟩
  have hva:=hvv a (by omega)
  have h3:=r3 rfl
  obtain⟨b,rfl⟩:∃ b:Nat,ib=b:=⟨ib.toNat,by omega⟩
  have hvb:=hvv b (by omega)
  rw[show stepI p ins xs ⟨8,(t:Int),(a:Int),(b:Int),num,goto⟩ s=countS 8 t a b s from rfl]
  exact step_8 (w0:=w0) (bm:=bm) (ins:=ins) (w:=w) (h:=h) (hk:=hk) (hkn:=hkn) (hk6:=hk6) (hc:=hc) (hv:=hvl) (hi:=hi) (ht:=by omega) (ha:=by omega) (hb:=by omega) (hn:=⟨hva.i,hvb.i⟩)
 ·have h1:=r1 rfl
  obtain⟨t,rfl⟩:∃ t:Nat,to=t:=⟨to.toNat,by omega⟩
  have h2:=r2 rfl
  obtain⟨a,rfl⟩:∃ a:Nat,ia=a:=⟨ia.toNat,by omega⟩
  have hva:=hvv a (by omega)
  have h3:=r3 rfl
  obtain⟨b,rfl⟩:∃ b:Nat,ib=b:=⟨ib.toNat,by omega⟩
  have hvb:=hvv b (by omega)
  rw[show stepI p ins xs ⟨9,(t:Int),(a:Int),(b:Int),num,goto⟩ s=s.set t (truthV (sameB (s.val a) (s.val b))) from rfl]
  exact step_9 (w0:=w0) (bm:=bm) (ins:=ins) (w:=w) (h:=h) (hk:=hk) (hkn:=hkn) (hk6:=hk6) (hc:=hc) (hv:=hvl) (hi:=hi) (ht:=by omega) (ha:=by omega) (hb:=by omega)
 ·have h1:=r1 rfl
  obtain⟨t,rfl⟩:∃ t:Nat,to=t:=⟨to.toNat,by omega⟩
  have h2:=r2 rfl
  obtain⟨a,rfl⟩:∃ a:Nat,ia=a:=⟨ia.toNat,by omega⟩
  have hva:=hvv a (by omega)
  rw[show stepI p ins xs ⟨10,(t:Int),(a:Int),ib,num,goto⟩ s=s.set t (truthV (!countsV (s.val a))) from rfl]
  exact step_10 (w0:=w0) (bm:=bm) (ins:=ins) (w:=w) (h:=h) (hk:=hk) (hkn:=hkn) (hk6:=hk6) (hc:=hc) (hv:=hvl) (hi:=hi) (ht:=by omega) (ha:=by omega)
 ·have h1:=r1 rfl
  obtain⟨t,rfl⟩:∃ t:Nat,to=t:=⟨to.toNat,by omega⟩
  obtain⟨m,hm⟩:∃ m:Nat,p.fields=m:=⟨p.fields.toNat,by have:=hsm.f1;omega⟩
  have hS:stepI p ins xs ⟨11,(t:Int),ia,ib,num,goto⟩ s=createS t m s:=by simp[stepI,hm]
  rw[hS]
  exact step_11 (w0:=w0) (bm:=bm) (ins:=ins) (w:=w) (h:=h) (hk:=hk) (hkn:=hkn) (hk6:=hk6) (hc:=hc) (hv:=hvl) (hi:=hi) (ht:=by omega) (hn:=⟨⟨hm,by have:=hsm.f2;omega⟩,hR.nt⟩)
 ·have h1:=r1 rfl
  obtain⟨t,rfl⟩:∃ t:Nat,to=t:=⟨to.toNat,by omega⟩
  have h2:=r2 rfl
  obtain⟨a,rfl⟩:∃ a:Nat,ia=a:=⟨ia.toNat,by omega⟩
  have hva:=hvv a (by omega)
  have h5:=r4 (by simp)
  obtain⟨f,rfl⟩:∃ f:Nat,num=f:=⟨num.toNat,by omega⟩
  rw[show stepI p ins xs ⟨12,(t:Int),(a:Int),ib,(f:Int),goto⟩ s=(if (s.val a).kind=3 then s.set t (s.field (s.val a).n.toNat f) else { s with ending:=2 }) from rfl]
  by_cases hka:(s.val a).kind=3
  ·have hth:=hva.th hka
   obtain⟨kk,hkk⟩:∃ kk:Nat,(s.val a).n=kk:=⟨(s.val a).n.toNat,by omega⟩
   have hlk:kk<s.things.length:=by omega
   have hfl:=hR.nf kk hlk
   rw[if_pos hka,hkk,Int.toNat_natCast]
   exact step_12_yes (w0:=w0) (bm:=bm) (ins:=ins) (w:=w) (h:=h) (hk:=hk) (hkn:=hkn) (hk6:=hk6) (hc:=hc) (hv:=hvl) (hi:=hi) (ht:=by omega) (ha:=by omega) (h3:=by rw[← hka,← hkk]) (hkk:=hlk) (hf:=by omega)
  ·rw[if_neg hka]
   exact step_12_no (w0:=w0) (bm:=bm) (ins:=ins) (w:=w) (h:=h) (hk:=hk) (hkn:=hkn) (hk6:=hk6) (hc:=hc) (hv:=hvl) (hi:=hi) (ha:=by omega) (hn:=hka)
 ·have h2:=r2 rfl
  obtain⟨a,rfl⟩:∃ a:Nat,ia=a:=⟨ia.toNat,by omega⟩
  have hva:=hvv a (by omega)
  have h3:=r3 rfl
  obtain⟨b,rfl⟩:∃ b:Nat,ib=b:=⟨ib.toNat,by omega⟩
  have hvb:=hvv b (by omega)
  have h5:=r4 (by simp)
  obtain⟨f,rfl⟩:∃ f:Nat,num=f:=⟨num.toNat,by omega⟩
  rw[show stepI p ins xs ⟨13,to,(a:Int),(b:Int),(f:Int),goto⟩ s=(if (s.val a).kind=3 then putS (s.val a).n.toNat f (s.val b) s else { s with ending:=2 }) from rfl]
  by_cases hka:(s.val a).kind=3
  ·have hth:=hva.th hka
   obtain⟨kk,hkk⟩:∃ kk:Nat,(s.val a).n=kk:=⟨(s.val a).n.toNat,by omega⟩
   have hlk:kk<s.things.length:=by omega
   have hfl:=hR.nf kk hlk
   rw[if_pos hka,hkk,Int.toNat_natCast]
   exact step_13_yes (w0:=w0) (bm:=bm) (ins:=ins) (w:=w) (h:=h) (hk:=hk) (hkn:=hkn) (hk6:=hk6) (hc:=hc) (hv:=hvl) (hi:=hi) (hb:=by omega) (ha:=by omega) (h3:=by rw[← hka,← hkk]) (hkk:=hlk) (hf:=by omega)
  ·rw[if_neg hka]
   exact step_13_no (w0:=w0) (bm:=bm) (ins:=ins) (w:=w) (h:=h) (hk:=hk) (hkn:=hkn) (hk6:=hk6) (hc:=hc) (hv:=hvl) (hi:=hi) (ha:=by omega) (hn:=hka)
 ·have h1:=r1 rfl
  obtain⟨t,rfl⟩:∃ t:Nat,to=t:=⟨to.toNat,by omega⟩
  have h8:=r8 rfl
  rw[show stepI p ins xs ⟨14,(t:Int),ia,ib,num,goto⟩ s=takeS ⟨14,(t:Int),ia,ib,num,goto⟩ t ins xs s from rfl]
  exact step_14 (w0:=w0) (bm:=bm) (ins:=ins) (w:=w) (h:=h) (hk:=hk) (hkn:=hkn) (hk6:=hk6) (hc:=hc) (hv:=hvl) (hi:=hi) (xs:=xs) (ht:=by omega) (hn:=⟨hin,h8,hR.tk⟩)
 ·have h2:=r2 rfl
  obtain⟨a,rfl⟩:∃ a:Nat,ia=a:=⟨ia.toNat,by omega⟩
  have hva:=hvv a (by omega)
  rw[show stepI p ins xs ⟨15,to,(a:Int),ib,num,goto⟩ s=onwardS 15 goto a s from rfl]
  exact step_15 (w0:=w0) (bm:=bm) (ins:=ins) (w:=w) (h:=h) (hk:=hk) (hkn:=hkn) (hk6:=hk6) (hc:=hc) (hv:=hvl) (hi:=hi) (ha:=by omega) (hn:=⟨hva.small hR.nt,by omega,hpw⟩)
 ·rw[show stepI p ins xs ⟨16,to,ia,ib,num,goto⟩ s=onwardS 16 goto ia.toNat s from rfl]
  exact step_16 (w0:=w0) (bm:=bm) (ins:=ins) (w:=w) (h:=h) (hk:=hk) (hkn:=hkn) (hk6:=hk6) (hc:=hc) (hv:=hvl) (hi:=hi)
 ·have h2:=r2 rfl
  obtain⟨a,rfl⟩:∃ a:Nat,ia=a:=⟨ia.toNat,by omega⟩
  have hva:=hvv a (by omega)
  rw[show stepI p ins xs ⟨17,to,(a:Int),ib,num,goto⟩ s=onwardS 17 goto a s from rfl]
  exact step_17 (w0:=w0) (bm:=bm) (ins:=ins) (w:=w) (h:=h) (hk:=hk) (hkn:=hkn) (hk6:=hk6) (hc:=hc) (hv:=hvl) (hi:=hi) (ha:=by omega) (hn:=⟨hva.small hR.nt,by omega,hpw⟩)
 ·have h2:=r2 rfl
  obtain⟨a,rfl⟩:∃ a:Nat,ia=a:=⟨ia.toNat,by omega⟩
  have hva:=hvv a (by omega)
  rw[show stepI p ins xs ⟨18,to,(a:Int),ib,num,goto⟩ s=onwardS 18 goto a s from rfl]
  exact step_18 (w0:=w0) (bm:=bm) (ins:=ins) (w:=w) (h:=h) (hk:=hk) (hkn:=hkn) (hk6:=hk6) (hc:=hc) (hv:=hvl) (hi:=hi) (ha:=by omega) (hn:=⟨hva.small hR.nt,by omega,hpw⟩)
 ·rw[show stepI p ins xs ⟨19,to,ia,ib,num,goto⟩ s=onwardS 19 goto ia.toNat s from rfl]
  exact step_19 (w0:=w0) (bm:=bm) (ins:=ins) (w:=w) (h:=h) (hk:=hk) (hkn:=hkn) (hk6:=hk6) (hc:=hc) (hv:=hvl) (hi:=hi)
end Go.Proofs.YtplcndmdkabmeaaGreatDoor
set_option linter.unusedSimpArgs false
set_option linter.unusedVariables false
set_option maxRecDepth 100000
set_option maxHeartbeats 2000000
namespace Go.Proofs.YtplcndmdkabmeaaGreatDoor
open Go.RowKit
theorem runBegin_ok (p:Pg) (is:Nat→Ins) (n:Nat) (w:World) (hn:p.n≤9223372036854775807) (hc:CodeAt w p is) (hq:checkProg p is=0) (hpn:p.vars=n) (hn8:n≤8):
  Calls Tryz.prog 41 #[p.v] w fun e w'=>∃ r' ts Rv Rt Rl Rf,e=.returned (.tuple #[Rn.v r',.int .i64 0])∧RowsR r' (beginS n) ts Rv Rt Rl Rf∧Own w.heap.size w' (Rv++(Rt++(Rl++Rf)))∧Below w.heap.size w w':=by
 have hk:=fun w' (hb:Below w.heap.size w w')=>codeCheck_any p is w' (hc.grow hb) hn
 rw[hq]at hk
 have HK:=Lib.hid hk
 have HB:=Lib.hid (fun w'=>begin_any p n w' hpn hn8)
 clear hk hq hc hn hpn hn8
 have hL:=Loc.start w
 go_enter Tryz.func41,Tryz.ntmps41
 go_wp2_with (first|(with_reducible first|refine lld hL ?_|((first|refine lbx hL ?_|refine lal hL ?_|refine lbs hL ?_);clear hL;intro bl w1 hL)|(refine lst' hL ?_;clear hL;intro w1 hL))|(go_at_call 43;refine(HK.out _ hL.below).mono ?_;rintro e w1 ⟨rfl,hb⟩;replace hL:=hL.grow hb;clear hb;dsimp only)|(go_at_call 46;refine(HB.out _).mono ?_;rintro e w3 ⟨⟨ra,rv,rt,rk,rl,re⟩,ts,Rv,Rt,Rl,Rf,rfl,hR,ho,hb⟩;replace hL:=hL.gainTail hb ho;simp only[List.cons_append,List.nil_append]at hL;clear ho hb;dsimp only))
 (try simp only[Exit.inBlock,Exit.then]);refine rt2 ?_
 exact⟨⟨ra,rv,rt,rk,rl,re⟩,_,_,_,_,_,rfl,hR,hL.ownOf (by repeat (first|exact List.Sublist.refl _|apply List.Sublist.cons)),hL.below⟩
end Go.Proofs.YtplcndmdkabmeaaGreatDoor
set_option linter.unusedSimpArgs false
set_option linter.unusedVariables false
set_option maxRecDepth 100000
namespace Go.Proofs.YtplcndmdkabmeaaGreatDoor
open Go.RowKit
theorem valid_mk {v:Vl}{n:Nat}(h:ValidV v n):isValue v n=true:=by
 obtain⟨k,m⟩:=v
 have h1:=h.k;have h2:=h.z;have h3:=h.i;have h4:=h.t;have h5:=h.th
 dsimp only at h1 h2 h3 h4 h5
 unfold Num32 at h3
 have:k=0∨k=1∨k=2∨k=3:=by omega
 rcases this with rfl|rfl|rfl|rfl
 ·have:=h2 rfl;subst this;rfl
 ·have:=h3 rfl;simp[isValue,betw];omega
 ·have:=h4 rfl;simp[isValue,betw];omega
 ·have:=h5 rfl;simp[isValue,betw];omega
theorem isValue_mono {v:Vl}{n m:Nat}(h:isValue v n=true) (hm:n≤m):isValue v m=true:=by
 have:=valid_of h
 exact valid_mk ⟨this.k,this.z,this.i,this.t,fun e=>by have:=this.th e;omega⟩
theorem getD_setv {α:Type}(l:List α) (t k:Nat) (v d:α) (ht:t<l.length):(l.set t v).getD k d=if k=t then v else l.getD k d:=by
 by_cases h:k=t
 ·subst h;simp[List.getD_eq_getElem?_getD,ht]
 ·simp[List.getD_eq_getElem?_getD,List.getElem?_set,Ne.symm h,h]
theorem RightS.setv {p:Pg}{s:Rs}(h:RightS p s) {t:Nat}{v:Vl}(ht:t<s.vars.length) (hv:isValue v s.things.length=true) (hat:s.at' < p.n):RightS p (s.set t v):=by
 refine⟨by have:=h.a;show 0≤s.at' + 1∧s.at' + 1≤p.n;omega,by show ((s.vars.set t v).length:Int)=_;rw[List.length_set];exact h.nv,h.nt,h.nf,fun k hk=>?_,h.fvals,h.tk⟩
 show isValue ((s.vars.set t v).getD k dV) s.things.length=true
 rw[getD_setv _ _ _ _ _ ht]
 split
 ·exact hv
 ·exact h.vals k (by simpa [Rs.set] using hk)
theorem RightS.ended {p:Pg} {s:Rs} (h:RightS p s) (e:Int):RightS p { s with ending:=e }:=⟨h.a,h.nv,h.nt,h.nf,h.vals,h.fvals,h.tk⟩
theorem RightS.went {p:Pg} {s:Rs} (h:RightS p s) {a:Int} (ha:0≤a∧a≤p.n):RightS p { s with at':=a }:=⟨ha,h.nv,h.nt,h.nf,h.vals,h.fvals,h.tk⟩
theorem RightS.took {p:Pg} {s:Rs} (h:RightS p s) {a:Int} (ha:0≤a∧a≤9223372036854775807):RightS p { s with taken:=a }:=⟨h.a,h.nv,h.nt,h.nf,h.vals,h.fvals,ha⟩
theorem RightS.said {p:Pg} {s:Rs} (h:RightS p s) {l:List ByteArray} {a:Int} (ha:0≤a∧a≤p.n):RightS p { s with lines:=l,at':=a }:=⟨ha,h.nv,h.nt,h.nf,h.vals,h.fvals,h.tk⟩
theorem truth_right (b:Bool) (n:Nat):isValue (truthV b) n=true:=by cases b<;>rfl
theorem num_right {m:Int}{n:Nat}(h:Num32 m):isValue ⟨1,m⟩ n=true:=by unfold Num32 at h;simp[isValue,betw];omega
theorem wrap32_num (m:Int):Num32 (wrap32 m):=by unfold Num32 wrap32;omega
theorem RightS.put {p:Pg}{s:Rs}(h:RightS p s) {kk f:Nat}{v:Vl}(hk:kk<s.things.length) (hf:f<(s.thing kk).2.length) (hv:isValue v s.things.length=true) (hat:s.at' < p.n):RightS p (putS kk f v s):=by
 have e:∀ k,(putS kk f v s).thing k=if k=kk then ((s.thing kk).1,(s.thing kk).2.set f v) else s.thing k:=fun k=>getD_setv _ _ _ _ _ hk
 have hl:(putS kk f v s).things.length=s.things.length:=by simp[putS]
 refine⟨by have:=h.a;show 0≤s.at' + 1∧s.at' + 1≤p.n;omega,h.nv,by rw[hl];exact h.nt,fun k hk'=>?_,fun k hk'=>by rw[hl];exact h.vals k hk',fun k hk' j hj=>?_,h.tk⟩
 ·rw[e]
  split
  ·show (((s.thing kk).2.set f v).length:Int)=_;rw[List.length_set];exact h.nf kk hk
  ·exact h.nf k (by rw[hl]at hk';exact hk')
 ·rw[hl]
  show isValue (((putS kk f v s).thing k).2.getD j dV) _=true
  rw[e]at hj ⊢
  split at hj
  ·rename_i hkk
   rw[if_pos hkk]
   show isValue (((s.thing kk).2.set f v).getD j dV) _=true
   rw[getD_setv _ _ _ _ _ hf]
   split
   ·exact hv
   ·exact h.fvals kk hk j (by simpa using hj)
  ·rename_i hkk
   rw[if_neg hkk]
   exact h.fvals k (by rw[hl]at hk';exact hk') j hj
theorem RightS.made {p:Pg} {s:Rs} (h:RightS p s) {m:Nat} (hm:p.fields=m) {site:Int} (hlt:s.things.length<100):RightS p { s with things:=s.things++[(site,List.replicate m dV)] }:=by
 have e:∀ k,({ s with things:=s.things++[(site,List.replicate m dV)] }:Rs).thing k=if k<s.things.length then s.thing k else if k=s.things.length then (site,List.replicate m dV) else dT:=fun k=>by
  show (s.things++[(site,List.replicate m dV)]).getD k dT=_
  split
  ·rename_i hk;simp[Rs.thing,List.getD_eq_getElem?_getD,List.getElem?_append_left hk]
  ·split
   ·rename_i hk hk2;subst hk2;simp[List.getD_eq_getElem?_getD]
   ·rename_i hk hk2;simp only[List.getD_eq_getElem?_getD];rw[List.getElem?_eq_none (by simp;omega)];rfl
 have hl:({ s with things:=s.things++[(site,List.replicate m dV)] }:Rs).things.length=s.things.length+1:=by simp
 refine⟨h.a,h.nv,by rw[hl];omega,fun k hk=>?_,fun k hk=>by rw[hl];exact isValue_mono (h.vals k hk) (by omega),fun k hk j hj=>?_,h.tk⟩
 ·rw[e]
  split
  ·rename_i hk2;exact h.nf k hk2
  ·rw[if_pos (by rw[hl]at hk;omega)];simp[hm]
 ·rw[hl]
  show isValue ((({ s with things:=s.things++[(site,List.replicate m dV)] }:Rs).thing k).2.getD j dV) _=true
  rw[e]at hj ⊢
  split
  ·rename_i hk2
   rw[if_pos hk2]at hj
   exact isValue_mono (h.fvals k hk2 j hj) (by omega)
  ·rename_i hk2
   rw[if_neg hk2,if_pos (by rw[hl]at hk;omega)]at hj
   rw[if_pos (by rw[hl]at hk;omega)]
   have hjm:j<m:=by simpa using hj
   simp[List.getD_eq_getElem?_getD,hjm,dV,isValue]
theorem RightS.count {p:Pg}{s:Rs}(h:RightS p s) (kind:Int) {t a b:Nat}(ht:t<s.vars.length) (hat:s.at' < p.n):RightS p (countS kind t a b s):=by
 unfold countS
 split
 ·split
  ·exact h.setv ht (truth_right _ _) hat
  ·exact h.setv ht (num_right (wrap32_num _)) hat
 ·exact h.ended 2
theorem RightS.create {p:Pg}{s:Rs}(h:RightS p s) {m t:Nat}(hm:p.fields=m) (ht:t<s.vars.length) (hat:s.at' < p.n):RightS p (createS t m s):=by
 unfold createS
 split
 ·exact h.ended 5
 ·rename_i hl
  have:=h.nt
  refine(h.made hm (by omega)).setv ht ?_ hat
  simp[isValue,betw]
theorem RightS.take {p:Pg}{s:Rs}(h:RightS p s) {i:Ins}{t:Nat}{ins:Sl}{xs:Nat→Int}(ht:t<s.vars.length) (hat:s.at' < p.n) (htk:s.taken<9223372036854775807) (hv:Num32 (inputV i ins xs s)):RightS p (takeS i t ins xs s):=by
 unfold takeS
 have h0:=h.tk
 have e:wrap64 (s.taken+1)=s.taken+1:=by unfold wrap64;omega
 rw[e]
 exact(h.took (by omega)).setv ht (num_right hv) hat
theorem RightS.onward {p:Pg}{s:Rs}(h:RightS p s) (kind:Int) {g:Int}{a:Nat}(hg:(kind=15∨kind=16)→0≤g∧g≤p.n) (hat:s.at' < p.n):RightS p (onwardS kind g a s):=by
 have h0:=h.a
 have h1:0≤s.at' + 1∧s.at' + 1≤p.n:=by omega
 unfold onwardS
 split
 ·exact h.went (hg (Or.inr (by assumption)))
 split
 ·split
  ·exact h.went (hg (Or.inl (by assumption)))
  ·exact h.went h1
 split
 ·split
  ·exact h.went h1
  ·exact h.ended 3
 split
 ·exact h.said h1
 ·exact h.ended 1
theorem RightS.step {p:Pg}{is:Nat→Ins}{ins:Sl}{xs:Nat→Int}{s:Rs}(hR:RightS p s) (hP:checkProg p is=0) (htk:s.taken<9223372036854775807):RightS p (stepM p is ins xs s):=by
 obtain⟨hsm,hone⟩:=prog_right hP
 unfold stepM
 split
 ·exact hR.ended 1
 rename_i hn
 have ha:=hR.a
 have hat:s.at' < p.n:=by omega
 obtain⟨k,hk⟩:∃ k:Nat,s.at'=k:=⟨s.at'.toNat,by omega⟩
 have hkn:k<p.n:=by omega
 have hrd:=ready_of (hone k hkn)
 rw[hk,Int.toNat_natCast]
 generalize is k=i at hrd ⊢
 obtain⟨kind,to,ia,ib,num,goto⟩:=i
 obtain⟨kd,r1,r2,r3,r4,r5,r6,r7,r8⟩:=hrd
 dsimp only at kd r1 r2 r3 r4 r5 r6 r7 r8
 have nv:=hR.nv
 have hto:nTo kind=true→to.toNat<s.vars.length:=fun h=>by have:=r1 h;omega
 have hval:nA kind=true→isValue (s.val ia.toNat) s.things.length=true:=fun h=>hR.vals _ (by have:=r2 h;omega)
 have hvalb:nB kind=true→isValue (s.val ib.toNat) s.things.length=true:=fun h=>hR.vals _ (by have:=r3 h;omega)
 rcases kinds_of kd with rfl|rfl|rfl|rfl|rfl|rfl|rfl|rfl|rfl|rfl|rfl|rfl|rfl|rfl|rfl|rfl|rfl|rfl|rfl
 ·rw[show stepI p ins xs ⟨1,to,ia,ib,num,goto⟩ s=s.set to.toNat ⟨1,num⟩ from rfl]
  exact hR.setv (hto rfl) (num_right (r6 rfl)) hat
 ·rw[show stepI p ins xs ⟨2,to,ia,ib,num,goto⟩ s=s.set to.toNat (truthV (num==1)) from rfl]
  exact hR.setv (hto rfl) (truth_right _ _) hat
 ·rw[show stepI p ins xs ⟨3,to,ia,ib,num,goto⟩ s=s.set to.toNat dV from rfl]
  exact hR.setv (hto rfl) rfl hat
 ·rw[show stepI p ins xs ⟨4,to,ia,ib,num,goto⟩ s=s.set to.toNat (s.val ia.toNat) from rfl]
  exact hR.setv (hto rfl) (hval rfl) hat
 ·exact hR.count 5 (hto rfl) hat
 ·exact hR.count 6 (hto rfl) hat
 ·exact hR.count 7 (hto rfl) hat
 ·exact hR.count 8 (hto rfl) hat
 ·rw[show stepI p ins xs ⟨9,to,ia,ib,num,goto⟩ s=s.set to.toNat (truthV (sameB (s.val ia.toNat) (s.val ib.toNat))) from rfl]
  exact hR.setv (hto rfl) (truth_right _ _) hat
 ·rw[show stepI p ins xs ⟨10,to,ia,ib,num,goto⟩ s=s.set to.toNat (truthV (!countsV (s.val ia.toNat))) from rfl]
  exact hR.setv (hto rfl) (truth_right _ _) hat
 ·rw[show stepI p ins xs ⟨11,to,ia,ib,num,goto⟩ s=createS to.toNat p.fields.toNat s from rfl]
  exact hR.create (by have:=hsm.f1;omega) (hto rfl) hat
 ·rw[show stepI p ins xs ⟨12,to,ia,ib,num,goto⟩ s=(if (s.val ia.toNat).kind=3 then s.set to.toNat (s.field (s.val ia.toNat).n.toNat num.toNat) else { s with ending:=2 }) from rfl]
  split
  ·rename_i h3
   have hv:=(valid_of (hval rfl)).th h3
   have hl:(s.val ia.toNat).n.toNat<s.things.length:=by omega
   have hf:=r4 (Or.inl rfl)
   have hnf:=hR.nf _ hl
   exact hR.setv (hto rfl) (hR.fvals _ hl _ (by omega)) hat
  ·exact hR.ended 2
 ·rw[show stepI p ins xs ⟨13,to,ia,ib,num,goto⟩ s=(if (s.val ia.toNat).kind=3 then putS (s.val ia.toNat).n.toNat num.toNat (s.val ib.toNat) s else { s with ending:=2 }) from rfl]
  split
  ·rename_i h3
   have hv:=(valid_of (hval rfl)).th h3
   have hl:(s.val ia.toNat).n.toNat<s.things.length:=by omega
   have hf:=r4 (Or.inr rfl)
   have hnf:=hR.nf _ hl
   exact hR.put hl (by omega) (hvalb rfl) hat
  ·exact hR.ended 2
 ·rw[show stepI p ins xs ⟨14,to,ia,ib,num,goto⟩ s=takeS ⟨14,to,ia,ib,num,goto⟩ to.toNat ins xs s from rfl]
  refine hR.take (hto rfl) hat htk ?_
  have h8:=r8 rfl
  unfold inputV Num32
  dsimp only
  split<;>omega
 ·exact hR.onward 15 (a:=ia.toNat) (g:=goto) (fun _=>r5 rfl) hat
 ·exact hR.onward 16 (a:=ia.toNat) (g:=goto) (fun _=>r5 rfl) hat
 ·exact hR.onward 17 (a:=ia.toNat) (g:=goto) (fun h=>by omega) hat
 ·exact hR.onward 18 (a:=ia.toNat) (g:=goto) (fun h=>by omega) hat
 ·exact hR.onward 19 (a:=ia.toNat) (g:=goto) (fun h=>by omega) hat
structure More1 (s t:Rs):Prop where
 l:t.lines.length≤s.lines.length+1
 k:0≤s.taken→s.taken<9223372036854775807→s.taken≤t.taken∧t.taken≤s.taken+1
theorem More1.same {s t:Rs}(h1:t.lines=s.lines) (h2:t.taken=s.taken):More1 s t:=⟨by rw[h1];omega,fun _ _=>by rw[h2];omega⟩
theorem More1.cond {s a b:Rs}{c:Prop} [Decidable c] (h1:More1 s a) (h2:More1 s b):More1 s (if c then a else b):=by
 split<;>assumption
theorem stepM_more (p:Pg) (is:Nat→Ins) (ins:Sl) (xs:Nat→Int) (s:Rs):More1 s (stepM p is ins xs s):=by
 unfold stepM
 refine .cond (.same rfl rfl) ?_
 unfold stepI countS createS takeS onwardS putS
 repeat' first
  | exact .same rfl rfl
  | refine More1.cond ?_ ?_
 ·refine⟨Nat.le_succ _,fun h0 h1=>?_⟩
  show s.taken≤wrap64 (s.taken+1)∧wrap64 (s.taken+1)≤s.taken+1
  unfold wrap64;omega
 ·refine⟨?_,fun h0 h1=>⟨Int.le_refl _,Int.le_of_lt (Int.lt_succ _)⟩⟩
  show (s.lines++[_]).length≤_
  simp
def runN (p:Pg) (is:Nat→Ins) (ins:Sl) (xs:Nat→Int):Nat→Rs→Nat→Rs × Nat
 | 0,s,n=>(s,n)
 | f+1,s,n=>if s.ending=0 then runN p is ins xs f (stepM p is ins xs s) (n+1) else (s,n)
def outS (s:Rs):Rs:=if s.ending=0 then { s with ending:=4 } else s
theorem runN_over {p:Pg}{is:Nat→Ins}{ins:Sl}{xs:Nat→Int}(f:Nat) {s:Rs}(n:Nat) (h:s.ending≠0):runN p is ins xs f s n=(s,n):=by
 cases f with
 | zero=>rfl
 | succ f=>rw[runN,if_neg h]
theorem runN_next {p:Pg}{is:Nat→Ins}{ins:Sl}{xs:Nat→Int}{f m:Nat}{s:Rs}(n:Nat) (hf:m=f+1) (h:s.ending=0):runN p is ins xs m s n=runN p is ins xs f (stepM p is ins xs s) (n+1):=by
 subst hf;rw[runN,if_pos h]
structure Gone (p:Pg) (s:Rs) (n:Nat):Prop where
 r:RightS p s
 k:0≤s.taken∧s.taken≤n
 l:s.lines.length≤n
theorem Gone.next {p:Pg}{is:Nat→Ins}{ins:Sl}{xs:Nat→Int}{s:Rs}{n:Nat}(h:Gone p s n) (hP:checkProg p is=0) (hn:n≤5000):Gone p (stepM p is ins xs s) (n+1):=by
 have h1:=stepM_more p is ins xs s
 have h2:=h.k
 have h3:=h.l
 have h4:=h1.k h2.1 (by omega)
 have h5:=h1.l
 exact⟨h.r.step hP (by omega),by omega,by omega⟩
theorem Gone.begin {p:Pg}{n:Nat}(hn:p.vars=n) (hp:0≤(p.n:Int)):Gone p (beginS n) 0:=by
 refine⟨⟨⟨Int.le_refl _,hp⟩,by simp[beginS,hn],by simp[beginS],fun k hk=>by simp[beginS]at hk,fun k hk=>?_,fun k hk=>by simp[beginS]at hk,by simp[beginS]⟩,by simp[beginS],by simp[beginS]⟩
 have hk' : k<n:=by simpa [beginS] using hk
 simp[beginS,List.getD_eq_getElem?_getD,hk',dV,isValue]
end Go.Proofs.YtplcndmdkabmeaaGreatDoor
