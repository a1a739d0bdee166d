/- Sites: where things are made. Conditions: the instructions lie in memory that was there. | The types' sizes, behind the programs. Conditions: none. | The walks over small functions of runs: values, sites. Conditions: none. | The walks over slices.IndexFunc and slices.ContainsFunc, whatever the function does, if it leaves what was there as it was. Conditions: the elements lie in memory that was there. | The walks over the functions that run.Right hands on. Conditions: what they read lies in memory that was there. | The walk over the package code's Check. Conditions: the instructions lie in memory that was there. -/
import Derived.Test.YtplcndmdkabmeaaGreatDoorCod
import Derived.Test.YtplcndmdkabmeaaGreatDoorCop
import Derived.Test.YtplcndmdkabmeaaGreatDoorPrg
set_option linter.unusedSimpArgs false
set_option linter.unusedVariables false
set_option maxRecDepth 100000
set_option maxHeartbeats 4000000
namespace Go.Proofs.YtplcndmdkabmeaaGreatDoor
open Go.RowKit
def jc (p:Pg) (is:Nat→Ins) (at' : Int):Bool:=decide (0≤at')&&(decide (at' < p.n)&&(is at'.toNat).kind==11)
structure Th where
 site:Int
 fs:Sl
abbrev Th.v (t:Th):Value:=.agg #[.int .i64 t.site,.slice t.fs.p t.fs.n t.fs.cap]
structure Rn where
 at' : Int
 vars:Sl
 things:Sl
 taken:Int
 lines:Sl
 ending:Int
abbrev Rn.v (r:Rn):Value:=.agg #[.int .i64 r.at',.slice r.vars.p r.vars.n r.vars.cap,.slice r.things.p r.things.n r.things.cap,.int .i64 r.taken,.slice r.lines.p r.lines.n r.lines.cap,.int .i64 r.ending]
theorem zd3:yg Tryz.prog 138:=⟨by kernel_rfl,by kernel_rfl⟩
theorem zg5:Qb Tryz.prog 138 [.nilFunc]:=⟨by kernel_rfl⟩
theorem YH (p:Pg) (is:Nat→Ins) (w:World) (hc:qc w p is) (hn:p.n≤9223372036854775807):
  Calls Tryz.prog 43 #[p.v] w fun e w'=>e=.returned (.int .i64 (zl p is))∧Below w.heap.size w w':=by
 obtain⟨b,o,hpc,hc⟩:=hc.reads
 have HP:=Lib.hid hpc
 have HC:=Lib.hid hc
 clear hpc hc
 have HF:=Lib.hid (show zl p is=if Qh p then 3 else if 60<p.n then 2 else yf (fun k=>zY p (is k)) 0 p.n from rfl)
 have hL:=Loc.start w
 go_enter Tryz.func43,Tryz.ntmps43
 go_step
 go_step
 go_step
 ((with_reducible refine lbx hL ?_);clear hL;intro b1 w1 hL)
 go_upto_region 1 with(fail)
 refine zJ [7,8,9,10,11,12,13,14,15,16,6] ?_
 refine dv0 ?_
 refine dv1 0 ?_
 apply zb
 ·intro g w hb v;replace hL:=hL.grow hb;have d1:=yv v 1;clear v;simp only[za,fLa,fLb,sTa,sTb];simp only[d1]
  go_wp2_with (go_at_call 85;refine(ZB _ _ _ _).mono ?_;rintro e w' ⟨rfl,rfl⟩;dsimp only)
  exact⟨rfl,_,rfl,Below.refl _ _,rfl⟩
 simp only[apN,apC]
 refine dv1 2 ?_
 refine dv1 3 ?_
 refine dg0 4 ?_
 refine dg1 4 5 ?_
 refine' zG (j:=4) rfl rfl rfl (by decide) (by simp) ?_ ?_;rotate_left
 ·intro hcs;simp only[Bool.and_eq_true,jp,jq]at hcs;intro g w hb v;replace hL:=hL.grow hb;have d6:=yv v 6;simp only[hcs,beq_self_eq_true,Bool.and_self,Bool.true_and,Bool.and_true,zr]at d6;clear v;simp only[za,fLa,fLb,sTa,sTb];simp only[d6]
  go_wp2_with (go_at_call 85;refine(ZB _ _ _ _).mono ?_;rintro e w' ⟨rfl,rfl⟩;dsimp only)
  exact⟨rfl,_,rfl,Below.refl _ _,rfl⟩
 simp only[apN,apC]
 refine dg1 4 7 ?_
 refine dpo 4 8 ?_
 refine dv1 9 ?_
 refine dns hL ?_
 clear hL;intro w2 hL;simp only[zV,sTa,sTb]
 cases h1:Qh p with
 | true=>
  have h0:=h1
  unfold Qh at h0
  simp only[h0]
  clear h0
  have H1:=Lib.hid h1
  clear h1
  go_wp2
  refine rt1 ?_
  exact⟨by rw[HF.out,if_pos H1.out];rfl,hL.below⟩
 | false=>
 have h0:=h1
 unfold Qh at h0
 simp only[h0]
 clear h0
 have H1:=Lib.hid h1
 clear h1
 by_cases hm:60<p.n
 ·go_wp2_with (first|(with_reducible refine lld hL ?_))
  refine rt1 ?_
  exact⟨by rw[HF.out,if_neg (by rw[H1.out];decide),if_pos hm];rfl,hL.below⟩
 have HS:=Lib.hid (UV H1.out hm)
 have HG:=Lib.hid (show zl p is=yf (fun k=>zY p (is k)) 0 p.n from by rw[HF.out,if_neg (by rw[H1.out];decide),if_neg hm])
 have hle:p.n≤60:=by omega
 clear hm
 go_wp2_with (first|(with_reducible refine lld hL ?_))
 go_loopw [25] (fun c wr=>∃ k:Nat,k≤p.n∧c=.int .i64 k∧zl p is=yf (fun k=>zY p (is k)) k (p.n - k)∧Loc w wr [(b1,27,[.int .i64 p.vars,.int .i64 p.fields,.slice p.pc p.n p.cap])] []) (fun c _=>p.n - (intOf c).toNat)
 case atStart=>exact⟨0,Nat.zero_le _,rfl,HG.out,hL⟩
 case round=>
  obtain⟨k,hk,rfl,hg,hL⟩:=hrel
  have HK:=Lib.hid hg
  clear hg
  by_cases hlt:k<p.n
  ·obtain⟨m,hm⟩:∃ m,p.n - k=m+1:=⟨p.n - k - 1,by omega⟩
   have hstep:=HK.out
   rw[hm,yf]at hstep
   have hm2:p.n - (k+1)=m:=by omega
   rw[← hm2]at hstep
   have HST:=Lib.hid hstep
   have hp:=HP.out (by omega)
   have HPC:=Lib.hid hp
   have hr:=HC.out k hlt
   have hone:=zfw p (is k) HS.out
   have HR:=Lib.hid hr
   clear hstep hm hm2 hp hr
   by_cases he:zY p (is k)=0
   ·rw[he]at hone
    have HO:=Lib.hid hone
    have HE:=Lib.hid he
    clear hone he
    go_upto_region 7 with(fail)
    refine zJ [27,28,4] ?_
    apply zb
    ·intro g w hb v;replace hL:=hL.grow hb;clear v;simp only[za,fLa,fLb,sTa,sTb]
     (simp only[HPC.out];go_wp2)
     exact cY
    simp only[apN,apC]
    apply zb
    ·intro g w hb v;replace hL:=hL.grow hb;have d0:=yv v 0;clear v;simp only[za,fLa,fLb,sTa,sTb];simp only[d0]
     refine zo HR.out hL rfl rfl ?_
     exact cY
    simp only[apN,apC]
    apply Qi
    ·intro g w hb v;replace hL:=hL.grow hb;clear v;simp only[za,fLa,fLb,sTa,sTb]
     go_wp2
     exact⟨rfl,_,rfl,(Below.refl _ _).alloc (Nat.le_refl _) _,_,hb.size,rfl,zI _ _⟩
    simp only[apN,apC]
    refine UC hL (by kernel_rfl) ?_
    intro g w2 hb hR;simp only[List.length_cons,List.length_nil,Nat.reduceAdd]at hR
    have e0:=yv hR 0
    have e1:=yv hR 1
    obtain⟨b2,p2,e2,c2⟩:=Q1 (zA hR (j:=2) (by decide)) rfl rfl
    clear hR;simp only[za,fLa,fLb,sTa,sTb]
    simp only[e0,e1,e2]
    clear e0 e1 e2
    replace hL:=hL.gain hb p2 c2
    clear p2 c2
    clear hb
    go_wp2_with (first|(with_reducible first|refine lld hL ?_|(refine zd hL ?_;clear hL;intro w1 hL))|(go_at_call 86;refine(HO.out _).mono ?_;rintro e w1 ⟨rfl,hb⟩;replace hL:=hL.grow hb;clear hb;dsimp only))
    go_roundw
    case rel=>exact⟨k+1,by omega,by go_num,by have h:=HST.out;rw[if_neg (by simp[HE.out])]at h;exact h,hL.drop (.cons _ (List.Sublist.refl _)) (fun _ h=>h)⟩
    case measure=>simp[intOf];omega
   ·have hst:zl p is=zY p (is k):=by have h:=HST.out;rw[if_pos he]at h;exact h
    have hne:(zY p (is k) != 0)=true:=by simp[he]
    generalize zY p (is k)=ce at hone hst hne
    have HO:=Lib.hid hone
    have HE:=Lib.hid hst
    clear hone hst he
    go_upto_region 7 with(fail)
    refine zJ [27,28,4] ?_
    apply zb
    ·intro g w hb v;replace hL:=hL.grow hb;clear v;simp only[za,fLa,fLb,sTa,sTb]
     (simp only[HPC.out];go_wp2)
     exact cY
    simp only[apN,apC]
    apply zb
    ·intro g w hb v;replace hL:=hL.grow hb;have d0:=yv v 0;clear v;simp only[za,fLa,fLb,sTa,sTb];simp only[d0]
     refine zo HR.out hL rfl rfl ?_
     exact cY
    simp only[apN,apC]
    apply Qi
    ·intro g w hb v;replace hL:=hL.grow hb;clear v;simp only[za,fLa,fLb,sTa,sTb]
     go_wp2
     exact⟨rfl,_,rfl,(Below.refl _ _).alloc (Nat.le_refl _) _,_,hb.size,rfl,zI _ _⟩
    simp only[apN,apC]
    refine UC hL (by kernel_rfl) ?_
    intro g w2 hb hR;simp only[List.length_cons,List.length_nil,Nat.reduceAdd]at hR
    have e0:=yv hR 0
    have e1:=yv hR 1
    obtain⟨b2,p2,e2,c2⟩:=Q1 (zA hR (j:=2) (by decide)) rfl rfl
    clear hR;simp only[za,fLa,fLb,sTa,sTb]
    simp only[e0,e1,e2]
    clear e0 e1 e2
    replace hL:=hL.gain hb p2 c2
    clear p2 c2
    clear hb
    go_wp2_with (first|(with_reducible first|refine lld hL ?_|(refine zd hL ?_;clear hL;intro w1 hL))|(go_at_call 86;refine(HO.out _).mono ?_;rintro e w1 ⟨rfl,hb⟩;replace hL:=hL.grow hb;clear hb;dsimp only))
    refine rt1 ?_
    exact⟨by rw[HE.out];rfl,hL.below⟩
  ·go_wp2
   refine rt1 ?_
   exact⟨by rw[HK.out,show p.n - k=0 by omega];rfl,hL.below⟩
end Go.Proofs.YtplcndmdkabmeaaGreatDoor
