/- The walks over slices.IndexFunc and slices.ContainsFunc of alarms, by a function that captures nothing. Conditions: the elements lie in memory that was there. | The walks over Alarms and Sure. Conditions: the instructions lie in memory. -/
import Derived.Test.YtplcndmdkabmeaaGreatDoorSolI
import Derived.Test.YtplcndmdkabmeaaGreatDoorVal
import Derived.Test.YtplcndmdkabmeaaGreatDoorAlmA
set_option linter.unusedSimpArgs false
set_option linter.unusedVariables false
set_option maxRecDepth 100000
set_option maxHeartbeats 1600000
namespace Go.Proofs.YtplcndmdkabmeaaGreatDoor
open Go.RowKit
structure zfP (P:Program) (K:FuncId) (w:World) (n:Nat) (f:Nat→Value) (q:Nat→Bool):Prop where
 enter:∀ args w,(callFunc K args).run P w=.ok (.enter K args) w
 run:∀ k,k<n→∀ w',Below w.heap.size w w'→Calls P K #[f k] w' fun e w''=>e=.returned (.bool (q k))∧Below w'.heap.size w' w''
theorem zab (p:Option Addr) (n cap:Nat) (f:Nat→Value) (q:Nat→Bool) (K:FuncId) (w:World) (hn:n≤9223372036854775807) (hl:Y8 Tryz.prog 35 2 w p n f) (hf:zfP Tryz.prog K w n f q):
  Calls Tryz.prog 87 #[.slice p n cap,.func (.func K) #[] #[]] w fun e w'=>∃ r:Int,e=.returned (.int .i64 r)∧decide (0≤r)=j7 q n∧Below w.heap.size w w':=by
 obtain⟨b,o,hp,hc⟩:=hl.ex
 have HP:=Lib.hid hp
 have HC:=Lib.hid hc
 have HF:=Lib.hid hf.run
 have he:=hf.enter
 clear hp hc hl hf
 have hL:=Loc.start w
 go_enter Tryz.func87,Tryz.ntmps87
 go_wp2
 go_loopw [8] (fun x wr=>∃ k:Nat,k≤n∧x=.int .i64 k∧(∀ j,j<k→q j=false)∧Loc w wr [] []) (fun x _=>n - (intOf x).toNat)
 case atStart=>exact⟨0,Nat.zero_le _,rfl,fun j hj=>absurd hj (by omega),hL⟩
 case round=>
  obtain⟨k,hk,rfl,hq,hL⟩:=hrel
  have HQ:=Lib.hid hq
  clear hq
  by_cases hlt:k<n
  ·have HPC:=Lib.hid (HP.out (by omega))
   have HR:=Lib.hid (HC.out k hlt)
   have HK:=Lib.hid (HF.out k hlt)
   cases hqk:q k with
   | true=>
    have hk2:=HK.out
    rw[hqk]at hk2
    have HK2:=Lib.hid hk2
    have HA:=Lib.hid (qY hlt hqk)
    clear hk2 hqk
    go_upto_region 4 with(fail)
    refine zJ [11,12,13,14,15,16] ?_
    refine dv0 ?_
    refine dv0 ?_
    refine dv0 ?_
    apply zb
    ·intro g w hb v;replace hL:=hL.grow hb;have d1:=yv v 1;have d2:=yv v 2;clear v;simp only[za,fLa,fLb,sTa,sTb];simp only[d1,d2]
     (simp only[HPC.out];go_wp2)
     exact cY
    simp only[apN,apC]
    apply zb
    ·intro g w hb v;replace hL:=hL.grow hb;have d3:=yv v 3;clear v;simp only[za,fLa,fLb,sTa,sTb];simp only[d3]
     refine zo HR.out hL rfl rfl ?_
     exact cY
    simp only[apN,apC]
    apply zb
    ·intro g w hb v;replace hL:=hL.grow hb;have d0:=yv v 0;have d4:=yv v 4;clear v;simp only[za,fLa,fLb,sTa,sTb];simp only[d0,d4]
     go_wp2_with ((with_reducible refine(HK2.out _ hL.below).mono ?_);rintro e w3 ⟨rfl,hb3⟩;dsimp only)
     exact⟨rfl,_,rfl,hb3,rfl⟩
    simp only[apN,apC]
    refine dns hL ?_
    clear hL;intro w2 hL;simp only[zV,sTa,sTb]
    go_wp2
    go_ret
    exact⟨_,rfl,by rw[HA.out];simp,hL.below⟩
   | false=>
    have hk2:=HK.out
    rw[hqk]at hk2
    have HK2:=Lib.hid hk2
    have HA:=Lib.hid hqk
    clear hk2 hqk
    go_upto_region 4 with(fail)
    refine zJ [11,12,13,14,15,16] ?_
    refine dv0 ?_
    refine dv0 ?_
    refine dv0 ?_
    apply zb
    ·intro g w hb v;replace hL:=hL.grow hb;have d1:=yv v 1;have d2:=yv v 2;clear v;simp only[za,fLa,fLb,sTa,sTb];simp only[d1,d2]
     (simp only[HPC.out];go_wp2)
     exact cY
    simp only[apN,apC]
    apply zb
    ·intro g w hb v;replace hL:=hL.grow hb;have d3:=yv v 3;clear v;simp only[za,fLa,fLb,sTa,sTb];simp only[d3]
     refine zo HR.out hL rfl rfl ?_
     exact cY
    simp only[apN,apC]
    apply zb
    ·intro g w hb v;replace hL:=hL.grow hb;have d0:=yv v 0;have d4:=yv v 4;clear v;simp only[za,fLa,fLb,sTa,sTb];simp only[d0,d4]
     go_wp2_with ((with_reducible refine(HK2.out _ hL.below).mono ?_);rintro e w3 ⟨rfl,hb3⟩;dsimp only)
     exact⟨rfl,_,rfl,hb3,rfl⟩
    simp only[apN,apC]
    refine dns hL ?_
    clear hL;intro w2 hL;simp only[zV,sTa,sTb]
    go_wp2
    go_roundw
    case rel=>
     refine⟨k+1,by omega,by go_num,fun j hj=>?_,hL⟩
     rcases Nat.lt_or_ge j k with h|h
     ·exact HQ.out j h
     ·obtain rfl:j=k:=by omega
      exact HA.out
    case measure=>simp[intOf];omega
  ·obtain rfl:k=n:=by omega
   go_wp2
   go_ret
   exact⟨_,rfl,by rw[jx HQ.out];rfl,hL.below⟩
theorem Vs (p:Option Addr) (n cap:Nat) (f:Nat→Value) (q:Nat→Bool) (K:FuncId) (w:World) (hn:n≤9223372036854775807) (hl:Y8 Tryz.prog 35 2 w p n f) (hf:zfP Tryz.prog K w n f q):
  Calls Tryz.prog 44 #[.slice p n cap,.func (.func K) #[] #[]] w fun e w'=>e=.returned (.bool (j7 q n))∧Below w.heap.size w w':=by
 have HI:=Lib.hid (zab p n cap f q K w hn hl hf)
 clear hl hf
 go_enter Tryz.func44,Tryz.ntmps44
 go_wp2_with (go_at_call 87;refine HI.out.mono ?_;rintro e w1 ⟨r,rfl,hr,hb⟩;dsimp only)
 go_ret
 exact⟨by rw[← hr];rfl,hb⟩
set_option maxHeartbeats 800000
def Vt (al:List (Int × Int)):Bool:=!j7 (fun k=>(al.getD k (0,0)).2 != 3) al.length
theorem zfy:∀ args w,(callFunc 45 args).run Tryz.prog w=.ok (.enter 45 args) w:=fun args w=>by kernel_rfl
theorem zc7 (x:Int × Int) (w:World):
  Calls Tryz.prog 45 #[.agg #[.int .i64 x.1,.int .i64 x.2]] w fun e w'=>e=.returned (.bool (x.2 != 3))∧Below w.heap.size w w':=by
 obtain⟨a,c⟩:=x
 have hL:=Loc.start w
 go_enter Tryz.func45,Tryz.ntmps45
 go_wp2_with (first|(with_reducible first|refine lld hL ?_|(refine lbx hL ?_;clear hL;intro bl w1 hL)))
 refine rt1 ?_
 exact⟨rfl,hL.below⟩
theorem zc8 (s:Sl) (al:List (Int × Int)) (w:World) (hm:s.n≤9223372036854775807) (h:JB w s al):
  Calls Tryz.prog 44 #[.slice s.p s.n s.cap,.func (.func 45) #[] #[]] w fun e w'=>e=.returned (.bool (!Vt al))∧Below w.heap.size w w':=by
 have h1:=Vs s.p s.n s.cap (fun k=>.agg (Yf (al.getD k (0,0))).toArray) (fun k=>(al.getD k (0,0)).2 != 3) 45 w hm (h.ex.agg Y6 (fun k=>rfl)) ⟨zfy,fun k hk w' hb=>zc7 (al.getD k (0,0)) w'⟩
 rw[h.n]at h1
 have e:(!Vt al)=j7 (fun k=>(al.getD k (0,0)).2 != 3) al.length:=by simp[Vt]
 rw[e,h.n]
 exact h1
theorem Uk (p:Pg) (is:Nat→Ins) (nv nf:Nat) (hv:p.vars=nv) (hf:p.fields=nf) (w:World) (hn:p.n≤9223372036854775807) (hc:qc w p is) (h0:zl p is=0):
  Calls Tryz.prog 13 #[p.v] w fun e w'=>∃ (k:Nat) (s:Sl),e=.returned (.tuple #[s.v,.int .i64 0])∧yG is p.n (zB nv nf p.n) k∧JB w' s (jP is (qZ is p.n (zB nv nf p.n) (k+1)) p.n)∧Below w.heap.size w w':=by
 have HCK:=Lib.hid (fun w' (hb' : Below w.heap.size w w')=>YH p is w' (hc.grow hb') hn)
 rw[h0]at HCK
 have HAL:=Lib.hid (fun w' (hb' : Below w.heap.size w w')=>zco p is nv nf hv hf h0 w' (hc.grow hb'))
 clear hc hn h0 hv hf
 obtain⟨pv,pf,pp,pn,pc⟩:=p
 dsimp only at *
 have hL:=Loc.start w
 go_enter Tryz.func13,Tryz.ntmps13
 go_wp2_with (first|(go_at_call 43;refine(HCK.out _ hL.below).mono ?_;rintro e w1 ⟨rfl,hb⟩;replace hL:=hL.grow hb;clear hb;dsimp only)|(go_at_call 35;refine(HAL.out _ hL.below).mono ?_;rintro e w3 ⟨k,⟨sp,sn,sc⟩,rfl,hE,hA,hb⟩;replace hL:=hL.grow hb;have HE:=Lib.hid hE;have HA:=Lib.hid hA;clear hb hE hA;dsimp only)|(with_reducible first|refine lld hL ?_|(refine lbx hL ?_;clear hL;intro bl w1 hL)))
 refine rt2 ?_
 exact⟨k,⟨sp,sn,sc⟩,rfl,HE.out,HA.out,hL.below⟩
theorem zc9 (p:Pg) (is:Nat→Ins) (nv nf:Nat) (hv:p.vars=nv) (hf:p.fields=nf) (w:World) (hn:p.n≤9223372036854775807) (hc:qc w p is) (h0:zl p is=0):
  Calls Tryz.prog 14 #[p.v] w fun e w'=>∃ k,e=.returned (.tuple #[.bool (Vt (jP is (qZ is p.n (zB nv nf p.n) (k+1)) p.n)),.int .i64 0])∧yG is p.n (zB nv nf p.n) k∧Below w.heap.size w w':=by
 have HAL:=Lib.hid (fun w' (hb' : Below w.heap.size w w')=>Uk p is nv nf hv hf w' hn (hc.grow hb') h0)
 have h60:=(zx h0).1.n1
 have HUL:=Lib.hid (fun l=>Jf is l p.n)
 clear hc hn h0 hv hf
 obtain⟨pv,pf,pp,pn,pc⟩:=p
 dsimp only at *
 have hL:=Loc.start w
 go_enter Tryz.func14,Tryz.ntmps14
 go_upto_region 2 with(first|(go_at_call 13;refine(HAL.out _ hL.below).mono ?_;rintro e w1 ⟨k,⟨sp,sn,sc⟩,rfl,hE,hA,hb⟩;replace hL:=hL.grow hb;have HB:=Lib.hid hL.below;have HE:=Lib.hid hE;have hm:sn≤240:=(by have h1:=hA.n;have h2:=HUL.out (qZ is pn (zB nv nf pn) (k+1));dsimp only at h1;omega);have HCF:=Lib.hid (fun w' (hb2:Below w1.heap.size w1 w')=>zc8 ⟨sp,sn,sc⟩ _ w' (by show sn≤_;omega) (hA.grow hb2));clear hb hE hA hm hL;have hL:=Loc.start w1;dsimp only)|(with_reducible first|refine lld hL ?_|(refine lbx hL ?_;clear hL;intro bl w1 hL)))
 obtain⟨su,hsu⟩:∃ su,su=Vt (jP is (qZ is pn (zB nv nf pn) (k+1)) pn):=⟨_,rfl⟩
 rw[← hsu]at HCF
 have HSU:=Lib.hid hsu
 clear hsu
 go_wp2_with (first|(go_at_call 44;refine(HCF.out _ hL.below).mono ?_;rintro e w1 ⟨rfl,hb⟩;replace hL:=hL.grow hb;clear hb;dsimp only))
 refine rt2 ?_
 exact⟨k,by rw[← HSU.out];simp,HE.out,HB.out.trans (hL.below.mono HB.out.size)⟩
end Go.Proofs.YtplcndmdkabmeaaGreatDoor
