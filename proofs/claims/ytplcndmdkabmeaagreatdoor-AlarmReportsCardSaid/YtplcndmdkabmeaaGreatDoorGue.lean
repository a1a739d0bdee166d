/- The walks over slices.ContainsFunc at ints and over the functions handed to it; Held, HeldOf, Inside, GuessIn. Conditions: what they read lies in memory that was there. | The walks over Held and HeldOf. Conditions: what they read lies in memory that was there. | The walks over Inside and GuessIn. Conditions: what they read lies in memory that was there. | The walk over guess.same. Conditions: few sites, which lie in memory that was there. | The walk over guess.Made: what comes of two guesses. Conditions: right spans; the sites lie in memory that was there. | The walk over the reference's DoGuess. Conditions: right spans; the sites lie in memory that was there. | The walk over the reference's DoGuess at 'same' and 'less'. Conditions: the sites lie in memory that was there. | The walks over guess.Right, the reference's CheckGuess, ready, CheckGuesses. Conditions: what they read lies in memory that was there. | The walk over the reference's JoinGuess. Conditions: the sites lie in memory that was there. | Plain facts on guesses: what a right guess is; when two are the same. Conditions: those of each law. | The walks over ready, Check and the reference's CheckGuesses. Conditions: what they read lies in memory that was there. | The walks over SameGuess and guessIs; Made and DoGuess as one law each. Conditions: right guesses; what they read lies in memory that was there. | Pictures as data: lists of guesses, and how they lie in memory; what a right picture is. Conditions: none. | Guesses in memory as data: a list of their words. Conditions: none. -/
import Derived.Test.YtplcndmdkabmeaaGreatDoorGua
import Derived.Test.YtplcndmdkabmeaaGreatDoorVal
import Derived.Test.YtplcndmdkabmeaaGreatDoorSpn
import Derived.Test.YtplcndmdkabmeaaGreatDoorShz
import Derived.Test.YtplcndmdkabmeaaGreatDoorCod
set_option linter.unusedSimpArgs false
set_option linter.unusedVariables false
set_option maxRecDepth 100000
set_option maxHeartbeats 4000000
namespace Go.Proofs.YtplcndmdkabmeaaGreatDoor
open Go.RowKit
theorem zcO (s:Sl) (l:List Int) (q:Nat→Bool) (K:FuncId) (c:Value) (w:World) (hl:zp w s l) (hf:zgT Tryz.prog K c w l.length (fun k=>.int .i64 (l.getD k 0)) q):
  Calls Tryz.prog 227 #[s.v,.func (.func K) #[] #[c]] w fun e w'=>∃ r:Int,e=.returned (.int .i64 r)∧decide (0≤r)=j7 q l.length∧Below w.heap.size w w':=by
 obtain⟨b,o,hp,hc⟩:=hl.reads QQ
 have hn:=hl.n
 have hm:=hl.m
 obtain⟨p,n,cap⟩:=s
 dsimp only at hp hc hn hm
 subst hn
 dsimp only[Sl.v]
 have HP:=Lib.hid hp
 have HC:=Lib.hid hc
 have HF:=Lib.hid hf.run
 have he:=hf.enter
 clear hp hc hl hf
 have hL:=Loc.start w
 go_enter Tryz.func227,Tryz.ntmps227
 go_wp2
 go_loopw [8] (fun x wr=>∃ k:Nat,k≤l.length∧x=.int .i64 k∧(∀ j,j<k→q j=false)∧Loc w wr [] []) (fun x _=>l.length - (intOf x).toNat)
 case atStart=>exact⟨0,Nat.zero_le _,rfl,fun j hj=>absurd hj (by omega),hL⟩
 case round=>
  clear hL
  obtain⟨k,hk,rfl,hq,hL⟩:=hrel
  have HQ:=Lib.hid hq
  clear hq
  by_cases hlt:k<l.length
  ·have HPC:=Lib.hid (HP.out (by omega))
   have hr:=HC.out k hlt
   have hk1:=HF.out k hlt
   generalize l.getD k 0=x at hr hk1
   have HR:=Lib.hid hr
   cases hqk:q k with
   | true=>
    rw[hqk]at hk1
    have HK2:=Lib.hid hk1
    have HA:=Lib.hid (qY hlt hqk)
    clear hk1 hqk hr
    go_upto_region 4 with(fail)
    refine zJ [11,12,13,14,15,16] ?_
    refine dv0 ?_
    refine dv0 ?_
    refine dv0 ?_
    apply zb
    ·intro g w hb V;replace hL:=hL.grow hb;have d1:=yv V 1;have d2:=yv V 2;clear V;simp only[za,fLa,fLb,sTa,sTb];simp only[d1,d2]
     (simp only[HPC.out];go_wp2)
     exact cY
    simp only[apN,apC]
    apply zb
    ·intro g w hb V;replace hL:=hL.grow hb;have d3:=yv V 3;clear V;simp only[za,fLa,fLb,sTa,sTb];simp only[d3]
     refine zo HR.out hL rfl rfl ?_
     exact cY
    simp only[apN,apC]
    apply zb
    ·intro g w hb V;replace hL:=hL.grow hb;have d0:=yv V 0;have d4:=yv V 4;clear V;simp only[za,fLa,fLb,sTa,sTb];simp only[d0,d4]
     go_wp2_with ((with_reducible refine(HK2.out _ hL.below).mono ?_);rintro e w3 ⟨rfl,hb3⟩;dsimp only)
     exact⟨rfl,_,rfl,hb3,rfl⟩
    simp only[apN,apC]
    refine dns hL ?_
    clear hL;intro w2 hL;simp only[zV,sTa,sTb]
    go_wp2
    go_ret
    exact⟨_,rfl,by rw[HA.out];simp,hL.below⟩
   | false=>
    rw[hqk]at hk1
    have HK2:=Lib.hid hk1
    have HA:=Lib.hid hqk
    clear hk1 hqk hr
    go_upto_region 4 with(fail)
    refine zJ [11,12,13,14,15,16] ?_
    refine dv0 ?_
    refine dv0 ?_
    refine dv0 ?_
    apply zb
    ·intro g w hb V;replace hL:=hL.grow hb;have d1:=yv V 1;have d2:=yv V 2;clear V;simp only[za,fLa,fLb,sTa,sTb];simp only[d1,d2]
     (simp only[HPC.out];go_wp2)
     exact cY
    simp only[apN,apC]
    apply zb
    ·intro g w hb V;replace hL:=hL.grow hb;have d3:=yv V 3;clear V;simp only[za,fLa,fLb,sTa,sTb];simp only[d3]
     refine zo HR.out hL rfl rfl ?_
     exact cY
    simp only[apN,apC]
    apply zb
    ·intro g w hb V;replace hL:=hL.grow hb;have d0:=yv V 0;have d4:=yv V 4;clear V;simp only[za,fLa,fLb,sTa,sTb];simp only[d0,d4]
     go_wp2_with ((with_reducible refine(HK2.out _ hL.below).mono ?_);rintro e w3 ⟨rfl,hb3⟩;dsimp only)
     exact⟨rfl,_,rfl,hb3,rfl⟩
    simp only[apN,apC]
    refine dns hL ?_
    clear hL;intro w2 hL;simp only[zV,sTa,sTb]
    go_wp2
    go_roundw
    case rel=>
     refine⟨k+1,by omega,by go_num,fun j hj=>?_,hL⟩
     rcases Nat.lt_or_ge j k with h|h
     ·exact HQ.out j h
     ·obtain rfl:j=k:=by omega
      exact HA.out
    case measure=>simp[intOf];omega
  ·obtain rfl:k=l.length:=by omega
   go_wp2
   go_ret
   exact⟨_,rfl,by rw[jx HQ.out];rfl,hL.below⟩
theorem Kq (s:Sl) (l:List Int) (q:Nat→Bool) (K:FuncId) (c:Value) (w:World) (hl:zp w s l) (hf:zgT Tryz.prog K c w l.length (fun k=>.int .i64 (l.getD k 0)) q):
  Calls Tryz.prog 186 #[s.v,.func (.func K) #[] #[c]] w fun e w'=>e=.returned (.bool (j7 q l.length))∧Below w.heap.size w w':=by
 have HI:=Lib.hid (zcO s l q K c w hl hf)
 clear hl hf
 go_enter Tryz.func186,Tryz.ntmps186
 go_wp2_with (go_at_call 227;refine HI.out.mono ?_;rintro e w1 ⟨r,rfl,hr,hb⟩;dsimp only)
 go_ret
 exact⟨by rw[← hr];rfl,hb⟩
theorem Loc.readsG {P:Program}{w0 w:World}{L:List zj}{D:List zw}{b:Nat}{T Tv:TypeId}{cs:List Value}{f:List Value→List zj}{off:Nat}{v:Value}(hL:Loc w0 w L D) (hm:InL b T cs L f) (hv:ze P Tv cs off v):zg P Tv w b off v:=
 ⟨zL (hL.heap hm),fun w' h=>hv.run w' b (fun j=>(h j).trans (hL.cell hm j))⟩
theorem zf9:∀ args w,(callFunc 189 args).run Tryz.prog w=.ok (.enter 189 args) w:=fun args w=>by kernel_rfl
theorem zga:∀ args w,(callFunc 232 args).run Tryz.prog w=.ok (.enter 232 args) w:=fun args w=>by kernel_rfl
theorem GX (t:Sl) (m:List Int) (x:Int) (b:Nat) (w:World) (hr:zg Tryz.prog 37 w b 6 t.v) (hm:zp w t m):
  Calls Tryz.prog 189 #[.int .i64 x,.pointer (some ⟨b,0,none⟩)] w fun e w'=>e=.returned (.bool (!j6 m x))∧Below w.heap.size w w':=by
 have HC:=Lib.hid hm
 clear hm
 have hL:=Loc.start w
 go_enter Tryz.func189,Tryz.ntmps189
 go_wp2_with (first|(with_reducible first|refine lld hL ?_|((first|refine lbx hL ?_|refine lal hL ?_|refine lbs hL ?_);clear hL;intro bl w1 hL)|(refine zd hL ?_;clear hL;intro w1 hL))|(refine zo hr hL rfl rfl ?_)|(go_at_call 183;refine(YQ t m x _ (HC.out.grow hL.below)).mono ?_;rintro e w1 ⟨rfl,hb⟩;replace hL:=hL.grow hb;clear hb;dsimp only))
 (try simp only[Exit.inBlock,Exit.then]);refine rt1 ?_
 exact⟨rfl,hL.below⟩
theorem zcP (t:Sl) (m:List Int) (x:Int) (b:Nat) (w:World) (hr:zg Tryz.prog 37 w b 6 t.v) (hm:zp w t m):
  Calls Tryz.prog 232 #[.int .i64 x,.pointer (some ⟨b,0,none⟩)] w fun e w'=>e=.returned (.bool (j6 m x))∧Below w.heap.size w w':=by
 have HC:=Lib.hid hm
 clear hm
 have hL:=Loc.start w
 go_enter Tryz.func232,Tryz.ntmps232
 go_wp2_with (first|(with_reducible first|refine lld hL ?_|((first|refine lbx hL ?_|refine lal hL ?_|refine lbs hL ?_);clear hL;intro bl w1 hL)|(refine zd hL ?_;clear hL;intro w1 hL))|(refine zo hr hL rfl rfl ?_)|(go_at_call 183;refine(YQ t m x _ (HC.out.grow hL.below)).mono ?_;rintro e w1 ⟨rfl,hb⟩;replace hL:=hL.grow hb;clear hb;dsimp only))
 (try simp only[Exit.inBlock,Exit.then]);refine rt1 ?_
 exact⟨rfl,hL.below⟩
def zfi (g:Gu) (l:List Int) (v:Vl) (site:Int):Bool:=if v.kind=1 then jT g.span v.n else if v.kind=2 then (v.n==1&&g.tr || v.n==0&&g.fa) else if v.kind=3 then j6 l site else g.null
def YI (l m:List Int):Bool:=j7 (fun k=>!j6 m (l.getD k 0)) l.length
def X2 (g h:Gu) (l m:List Int):Bool:=(!g.null || h.null)&&(!g.tr || h.tr)&&(!g.fa || h.fa)&&yJ g.span h.span && !YI l m
theorem GY (g h:Gu) (l m:List Int) (w:World) (hl:zp w g.s l) (hm:zp w h.s m):
  Calls Tryz.prog 150 #[g.v,h.v] w fun e w'=>e=.returned (.bool (X2 g h l m))∧Below w.heap.size w w':=by
 obtain⟨gl,⟨gn,glo,ghi⟩,gt,gf,gs⟩:=g
 obtain⟨hl',⟨hn,hlo,hhi⟩,ht,hf,hs⟩:=h
 dsimp only at hl hm
 have HS:=Lib.hid (fun w'=>zbo ⟨gn,glo,ghi⟩ ⟨hn,hlo,hhi⟩ w')
 have HL:=Lib.hid hl
 have HM:=Lib.hid hm
 clear hl hm
 have hL:=Loc.start w
 go_enter Tryz.func150,Tryz.ntmps150
 go_step
 go_step
 go_step
 ((with_reducible refine lbx hL ?_);clear hL;intro b2 w1 hL)
 ((with_reducible refine lbx hL ?_);clear hL;intro b3 w1 hL)
 go_upto_region 1 with(first|(with_reducible first|refine lld hL ?_|((first|refine lbx hL ?_|refine lal hL ?_|refine lbs hL ?_);clear hL;intro bl w1 hL)|(refine zd hL ?_;clear hL;intro w1 hL)))
 have hcl:=Kq gs l (fun k=>!j6 m (l.getD k 0)) 189 (.pointer (some ⟨b3,0,none⟩)) _ (HL.out.grow hL.below) ⟨zf9,fun k _ w2 hb2=>GX hs m (l.getD k 0) b3 w2 ((hL.readsG (b:=b3) (Tv:=37) (off:=6) (v:=hs.v) cIn (ze.cell Z7 rfl)).grow hb2) ((HM.out.grow hL.below).grow hb2)⟩
 rw[show j7 (fun k=>!j6 m (l.getD k 0)) l.length=YI l m from rfl]at hcl
 have HF:=Lib.hid (show X2 ⟨gl,⟨gn,glo,ghi⟩,gt,gf,gs⟩ ⟨hl',⟨hn,hlo,hhi⟩,ht,hf,hs⟩ l m=((!gl || hl')&&(!gt || ht)&&(!gf || hf)&&yJ ⟨gn,glo,ghi⟩ ⟨hn,hlo,hhi⟩ && !YI l m) from rfl)
 generalize YI l m=lost at hcl HF
 generalize yJ ⟨gn,glo,ghi⟩ ⟨hn,hlo,hhi⟩=ins at HS HF
 have HCL:=Lib.hid hcl
 clear hcl
 go_upto_region 2 with(first|(with_reducible first|refine lld hL ?_|((first|refine lbx hL ?_|refine lal hL ?_|refine lbs hL ?_);clear hL;intro bl w1 hL)|(refine zd hL ?_;clear hL;intro w1 hL))|(go_at_call 186;((with_reducible refine(HCL.out).mono ?_);rintro e w1 ⟨rfl,hb⟩;replace hL:=hL.grow hb;clear hb;dsimp only)))
 refine zJ [10,11,12,13,14,15,16,17,18,19,20,21,22,23,24,25,26,27,28,29,30,31,32,33,34,35,36,37,38,39,40,41,42,43,44,45,4] ?_
 refine dv0 ?_
 refine dv1 0 ?_
 refine dv1 1 ?_
 refine dv1 2 ?_
 refine dg0 3 ?_
 refine dg1 3 4 ?_
 refine dpo 3 5 ?_
 refine dv1 6 ?_
 refine dg0 7 ?_
 refine dg1 7 8 ?_
 refine dg1 7 9 ?_
 refine dg1 7 10 ?_
 refine dc0 11 ?_
 refine dc1 11 12 ?_
 refine zfZ 7 11 13 ?_
 refine dpa 7 14 ?_
 refine dv1 15 ?_
 refine dg0 16 ?_
 refine dg1 16 17 ?_
 refine dg1 16 18 ?_
 refine dg1 16 19 ?_
 refine dc0 20 ?_
 refine dc1 20 21 ?_
 refine zfZ 16 20 22 ?_
 refine dpa 16 23 ?_
 refine dv1 24 ?_
 refine dg0 25 ?_
 refine dg1 25 26 ?_
 refine dg0 25 ?_
 refine dg1 25 28 ?_
 refine' zG (j:=25) rfl rfl rfl (by decide) (by simp) ?_ ?_;rotate_left
 ·intro hcs;simp only[Bool.and_eq_true,jp,jq]at hcs;intro g w hb V;replace hL:=hL.grow hb;have d27:=yv V 27;simp only[hcs,beq_self_eq_true,Bool.and_self,Bool.true_and,Bool.and_true,zr]at d27;have d29:=yv V 29;simp only[hcs,beq_self_eq_true,Bool.and_self,Bool.true_and,Bool.and_true,zr]at d29;clear V;simp only[za,fLa,fLb,sTa,sTb];simp only[d27,d29]
  go_wp2_with (go_at_call 190;refine(HS.out _).mono ?_;rintro e w3 ⟨rfl,hb3⟩;dsimp only)
  exact⟨rfl,_,rfl,(by assumption),rfl⟩
 simp only[apN,apC]
 refine dpa 25 30 ?_
 refine dv1 31 ?_
 refine dg0 32 ?_
 refine dg1 32 33 ?_
 refine dpa 32 34 ?_
 refine dv1 35 ?_
 refine dns hL ?_
 clear hL;intro w2 hL;simp only[zV,sTa,sTb]
 go_wp2_with (first|(with_reducible first|refine lld hL ?_|((first|refine lbx hL ?_|refine lal hL ?_|refine lbs hL ?_);clear hL;intro bl w1 hL)|(refine zd hL ?_;clear hL;intro w1 hL)))
 (try simp only[Exit.inBlock,Exit.then]);refine rt1 ?_
 exact⟨by rw[HF.out];rfl,hL.below⟩
theorem zbb (s:zq) (w:World):(Instr.field 106 (.agg #[.bool s.none,.int .i64 s.lo,.int .i64 s.hi]) 0).run Tryz.prog w=.ok (.bool s.none) w:=by
 obtain⟨a,b,c⟩:=s
 first|with_unfolding_all rfl|kernel_rfl
theorem YJ {ops:Array Oper}{Q:Exit→Act→World→Prop}{act:Act}{w:World}{rest:List Oper}{d:Option Tmp}{ty:TypeId}{pos:String}{after:Array Edge}{x:Operand}{s:zq}(ha:act.eval x=s.v)
  (h:wpList Tryz.prog ops Q rest (act.put d (.bool s.none)) w):wpList Tryz.prog ops Q (⟨d,.field 106 x 0,ty,pos,after,none⟩::rest) act w:=
 z8 (w':=w) rfl (by
  simp only[execOp]
  rw[ha]
  rw[Sem.run_bind,zbb]
  rfl) h
def JO (l m:List Int):Bool:=j7 (fun k=>j6 m (l.getD k 0)) l.length
def yU (g h:Gu) (l m:List Int):Bool:=JO l m || g.null&&h.null || g.tr&&h.tr || g.fa&&h.fa || !(ji g.span h.span).none
def Zt (g h:Gu) (l m:List Int):Bool:=!(yU g h l m&&KC g&&KC h)
theorem zcQ (g h:Gu) (l m:List Int) (w:World) (hl:zp w g.s l) (hm:zp w h.s m) (n1:l.length≤1000000) (n2:m.length≤1000000):
  Calls Tryz.prog 205 #[g.v,h.v] w fun e w'=>e=.returned (.tuple #[.bool (yU g h l m),.bool (Zt g h l m)])∧Below w.heap.size w w':=by
 have hg1:g.s.n≤1000000:=by rw[hl.n];exact n1
 have hh1:h.s.n≤1000000:=by rw[hm.n];exact n2
 have HO1:=Lib.hid (fun w'=>zaw g hg1 w')
 have HO2:=Lib.hid (fun w'=>zaw h hh1 w')
 have HS:=Lib.hid (fun w'=>Vu g.span h.span w')
 have HF:=Lib.hid (show yU g h l m=(JO l m || g.null&&h.null || g.tr&&h.tr || g.fa&&h.fa || !(ji g.span h.span).none) from rfl)
 have HN:=Lib.hid (show Zt g h l m=!(yU g h l m&&KC g&&KC h) from rfl)
 clear hg1 hh1 n1 n2
 obtain⟨gl,⟨gn,glo,ghi⟩,gt,gf,gs⟩:=g
 obtain⟨hl',⟨hn,hlo,hhi⟩,ht,hf,hs⟩:=h
 dsimp only at hl hm HF HN HS
 generalize ji ⟨gn,glo,ghi⟩ ⟨hn,hlo,hhi⟩=cs at HF HS
 obtain⟨cn,clo,chi⟩:=cs
 dsimp only at HF HS
 have HL:=Lib.hid hl
 have HM:=Lib.hid hm
 clear hl hm
 have hL:=Loc.start w
 go_enter Tryz.func205,Tryz.ntmps205
 go_step
 go_step
 go_step
 ((with_reducible refine lbx hL ?_);clear hL;intro b2 w1 hL)
 ((with_reducible refine lbx hL ?_);clear hL;intro b3 w1 hL)
 go_upto_region 1 with(first|(with_reducible first|refine lld hL ?_|((first|refine lbx hL ?_|refine lal hL ?_|refine lbs hL ?_);clear hL;intro bl w1 hL)|(refine zd hL ?_;clear hL;intro w1 hL)))
 have hcl:=Kq gs l (fun k=>j6 m (l.getD k 0)) 232 (.pointer (some ⟨b3,0,none⟩)) _ (HL.out.grow hL.below) ⟨zga,fun k _ w2 hb2=>zcP hs m (l.getD k 0) b3 w2 ((hL.readsG (b:=b3) (Tv:=37) (off:=6) (v:=hs.v) cIn (ze.cell Z7 rfl)).grow hb2) ((HM.out.grow hL.below).grow hb2)⟩
 rw[show j7 (fun k=>j6 m (l.getD k 0)) l.length=JO l m from rfl]at hcl
 generalize JO l m=lost at hcl HF
 have HCL:=Lib.hid hcl
 clear hcl
 obtain⟨gp,gk,gc⟩:=gs
 obtain⟨hp,hk,hc⟩:=hs
 dsimp only[Gu.v]at HO1 HO2
 go_upto_region 2 with(first|(with_reducible first|refine lld hL ?_|((first|refine lbx hL ?_|refine lal hL ?_|refine lbs hL ?_);clear hL;intro bl w1 hL)|(refine zd hL ?_;clear hL;intro w1 hL))|(go_at_call 186;((with_reducible refine(HCL.out).mono ?_);rintro e w1 ⟨rfl,hb⟩;replace hL:=hL.grow hb;clear hb;dsimp only)))
 refine zJ [12,13,14,15,16,17,18,19,20,21,22,23,24,25,26,27,28,29,30,31,32,33,34,35,36,37,38,39,40,41,42,43,44,45,7] ?_
 refine dv0 ?_
 refine dv1 0 ?_
 refine dg0 1 ?_
 refine dg1 1 2 ?_
 refine dg1 1 3 ?_
 refine dc0 4 ?_
 refine dc1 4 5 ?_
 refine ZR 1 4 6 ?_
 refine dpo 1 7 ?_
 refine dv1 8 ?_
 refine dg0 9 ?_
 refine dg1 9 10 ?_
 refine dg1 9 11 ?_
 refine dc0 12 ?_
 refine dc1 12 13 ?_
 refine ZR 9 12 14 ?_
 refine dpo 9 15 ?_
 refine dv1 16 ?_
 refine dg0 17 ?_
 refine dg1 17 18 ?_
 refine dg1 17 19 ?_
 refine dc0 20 ?_
 refine dc1 20 21 ?_
 refine ZR 17 20 22 ?_
 refine dpo 17 23 ?_
 refine dv1 24 ?_
 refine dg0 25 ?_
 refine dg1 25 26 ?_
 refine dg0 25 ?_
 refine dg1 25 28 ?_
 refine' zG (j:=25) rfl rfl rfl (by decide) (by simp) ?_ ?_;rotate_left
 ·intro hcs;simp only[Bool.and_eq_true,jp,jq]at hcs;intro g w hb V;replace hL:=hL.grow hb;have d27:=yv V 27;simp only[hcs,beq_self_eq_true,Bool.and_self,Bool.true_and,Bool.and_true,zr]at d27;have d29:=yv V 29;simp only[hcs,beq_self_eq_true,Bool.and_self,Bool.true_and,Bool.and_true,zr]at d29;clear V;simp only[za,fLa,fLb,sTa,sTb];simp only[d27,d29]
  go_wp2_with (go_at_call 203;refine(HS.out _).mono ?_;rintro e w3 ⟨rfl,hb3⟩;dsimp only)
  exact⟨rfl,_,rfl,(by assumption),rfl⟩
 simp only[apN,apC]
 refine' zG (j:=25) rfl rfl rfl (by decide) (by simp) ?_ ?_;rotate_left
 ·intro hcs;simp only[Bool.and_eq_true,jp,jq]at hcs;intro g w hb V;replace hL:=hL.grow hb;have d30:=yv V 30;simp only[hcs,beq_self_eq_true,Bool.and_self,Bool.true_and,Bool.and_true,zr]at d30;clear V;simp only[za,fLa,fLb,sTa,sTb];simp only[d30]
  refine YJ (s:=⟨cn,clo,chi⟩) rfl ?_;go_wp2
  exact cY
 simp only[apN,apC]
 refine dg1 25 31 ?_
 refine dpo 25 32 ?_
 refine dv1 33 ?_
 refine dns hL ?_
 clear hL;intro w2 hL;simp only[zV,sTa,sTb]
 rw[← HF.out]
 generalize hyes:yU _ _ l m=yes at HN ⊢
 have HY:=Lib.hid hyes
 clear hyes
 generalize KC _=o1 at HO1 HN
 generalize KC _=o2 at HO2 HN
 go_upto_region 3 with(first|(with_reducible first|refine lld hL ?_|((first|refine lbx hL ?_|refine lal hL ?_|refine lbs hL ?_);clear hL;intro bl w1 hL)|(refine zd hL ?_;clear hL;intro w1 hL)))
 refine zJ [46,47,48,49,50,51,52,53,54,55,56,4,5] ?_
 refine dv0 ?_
 refine dv0 ?_
 refine dv1 1 ?_
 refine dg0 2 ?_
 refine' zG (j:=2) rfl rfl rfl (by decide) (by simp) ?_ ?_;rotate_left
 ·intro hcs;simp only[Bool.and_eq_true,jp,jq]at hcs;intro g w hb V;replace hL:=hL.grow hb;have d3:=yv V 3;simp only[hcs,beq_self_eq_true,Bool.and_self,Bool.true_and,Bool.and_true,zr]at d3;clear V;simp only[za,fLa,fLb,sTa,sTb];simp only[d3]
  go_wp2_with (go_at_call 233;refine(HO1.out _).mono ?_;rintro e w3 ⟨rfl,hb3⟩;dsimp only)
  exact⟨rfl,_,rfl,(by assumption),rfl⟩
 simp only[apN,apC]
 refine dpa 2 4 ?_
 refine dv1 5 ?_
 refine dg0 6 ?_
 refine' zG (j:=6) rfl rfl rfl (by decide) (by simp) ?_ ?_;rotate_left
 ·intro hcs;simp only[Bool.and_eq_true,jp,jq]at hcs;intro g w hb V;replace hL:=hL.grow hb;have d7:=yv V 7;simp only[hcs,beq_self_eq_true,Bool.and_self,Bool.true_and,Bool.and_true,zr]at d7;clear V;simp only[za,fLa,fLb,sTa,sTb];simp only[d7]
  go_wp2_with (go_at_call 233;refine(HO2.out _).mono ?_;rintro e w3 ⟨rfl,hb3⟩;dsimp only)
  exact⟨rfl,_,rfl,(by assumption),rfl⟩
 simp only[apN,apC]
 refine dpa 6 8 ?_
 refine dv1 9 ?_
 refine dv1 0 ?_
 refine dv1 10 ?_
 refine dns hL ?_
 clear hL;intro w2 hL;simp only[zV,sTa,sTb]
 go_wp2_with (first|(with_reducible first|refine lld hL ?_|((first|refine lbx hL ?_|refine lal hL ?_|refine lbs hL ?_);clear hL;intro bl w1 hL)|(refine zd hL ?_;clear hL;intro w1 hL)))
 (try simp only[Exit.inBlock,Exit.then]);refine rt2 ?_
 exact⟨Gj HY.out.symm (by rw[HN.out];cases yes<;>cases o1<;>cases o2<;>rfl),hL.below⟩
def Yz (k:Int) (g h:Gu):Gu:=if g.span.none || h.span.none then qu else if k=8 then ⟨false,zC,decide (g.span.lo<h.span.hi),decide (h.span.lo≤g.span.hi),zn⟩ else ⟨false,QK k g.span h.span,false,false,zn⟩
theorem X3 (k:Int) (g h:Gu):(Yz k g h).s=zn:=by
 unfold Yz
 split
 ·rfl
 ·split<;>rfl
theorem zfj (k:Int) (hk:k=5∨k=6∨k=7∨k=8) (g h:Gu) (h1:YA g.span) (h2:YA h.span) (w:World):Calls Tryz.prog 206 #[.int .i64 k,g.v,h.v] w fun e w'=>e=.returned (Yz k g h).v∧Below w.heap.size w w':=by
 cases hn:(g.span.none || h.span.none) with
 | true=>
  rw[show Yz k g h=qu from if_pos hn]
  exact zfF k g h hn w
 | false=>
  by_cases h8:k=8
  ·subst h8
   rw[show Yz 8 g h=_ from (if_neg (by rw[hn];decide)).trans (if_pos rfl)]
   exact zeA g h hn w
  ·rw[show Yz k g h=_ from (if_neg (by rw[hn];decide)).trans (if_neg h8)]
   exact zez k (by omega) g h h1 h2 hn w
structure Res where
 null:Bool
 span:zq
 tr:Bool
 fa:Bool
 l:List Int
abbrev Res.gu (r:Res) (s:Sl):Gu:=⟨r.null,r.span,r.tr,r.fa,s⟩
abbrev zgD:Res:=⟨false,zC,false,false,[]⟩
def Gu.res (g:Gu) (l:List Int):Res:=⟨g.null,g.span,g.tr,g.fa,l⟩
def qK (k:Int) (g h:Gu) (l m:List Int):Res × Bool:=
 if qj g || (!(k==10 || k==4)&&qj h) then (zgD,false)
 else if k=4 then (⟨g.null,both g.span zC,g.tr,g.fa,y7 l []⟩,false)
 else if k=10 then (⟨false,zC,noG g,JF g,[]⟩,false)
 else if k=9 then (⟨false,zC,yU g h l m,Zt g h l m,[]⟩,false)
 else ((Yz k g h).res [],yN g || yN h)
theorem KU:∀ args w,(callFunc 60 args).run Tryz.prog w=.ok (.enter 60 args) w:=fun args w=>by kernel_rfl
theorem zd4 (k:Int) (g h:Gu) (hz:(qj g || (!(k==10 || k==4)&&qj h))=true) (w:World):
  Calls Tryz.prog 165 #[.int .i64 k,g.v,h.v] w fun e w'=>e=.returned (.tuple #[qu.v,.bool false])∧Below w.heap.size w w':=by
 have HE1:=Lib.hid (fun w'=>yF g w')
 have HE2:=Lib.hid (fun w'=>yF h w')
 generalize qj g=eg at HE1 hz
 generalize qj h=eh at HE2 hz
 obtain⟨gl,⟨gn,glo,ghi⟩,gt,gf,⟨gp,gk,gc⟩⟩:=g
 obtain⟨hl',⟨hn,hlo,hhi⟩,ht,hf,⟨hp,hk,hc⟩⟩:=h
 have hL:=Loc.start w
 go_enter Tryz.func165,Tryz.ntmps165
 go_upto_region 1 with(first|(with_reducible first|refine lld hL ?_|((first|refine lbx hL ?_|refine lal hL ?_|refine lbs hL ?_);clear hL;intro bl w1 hL)|(refine zd hL ?_;clear hL;intro w1 hL)))
 refine zJ [11,12,13,14,15,16,8] ?_
 refine dv0 ?_
 refine dv1 0 ?_
 refine dv1 1 ?_
 refine dg0 2 ?_
 refine dg1 2 3 ?_
 refine dpo 2 4 ?_
 refine dv1 5 ?_
 refine dns hL ?_
 clear hL;intro w2 hL;simp only[zV,sTa,sTb]
 generalize (k==10 || k==4)=al at hz ⊢
 cases eg with
 | true=>
  clear hz
  go_wp2_with (first|(with_reducible first|refine lld hL ?_|((first|refine lbx hL ?_|refine lal hL ?_|refine lbs hL ?_);clear hL;intro bl w1 hL)|(refine zd hL ?_;clear hL;intro w1 hL))|(go_at_call 147;(with_reducible refine(HE1.out _).mono ?_);rintro e w1 ⟨rfl,hb⟩;replace hL:=hL.grow hb;clear hb;dsimp only)|(go_at_call 136;refine(jk _).mono ?_;rintro e w1 ⟨rfl,hb⟩;replace hL:=hL.grow hb;clear hb;dsimp only))
  (try simp only[Exit.inBlock,Exit.then]);refine rt2 ?_
  exact⟨rfl,hL.below⟩
 | false=>
  obtain⟨rfl,rfl⟩:al=false∧eh=true:=by
   cases al<;>cases eh<;>simp_all
  clear hz
  go_wp2_with (first|(with_reducible first|refine lld hL ?_|((first|refine lbx hL ?_|refine lal hL ?_|refine lbs hL ?_);clear hL;intro bl w1 hL)|(refine zd hL ?_;clear hL;intro w1 hL))|(go_at_call 147;(with_reducible refine(HE1.out _).mono ?_);rintro e w1 ⟨rfl,hb⟩;replace hL:=hL.grow hb;clear hb;dsimp only)|(go_at_call 147;(with_reducible refine(HE2.out _).mono ?_);rintro e w1 ⟨rfl,hb⟩;replace hL:=hL.grow hb;clear hb;dsimp only)|(go_at_call 136;refine(jk _).mono ?_;rintro e w1 ⟨rfl,hb⟩;replace hL:=hL.grow hb;clear hb;dsimp only))
  (try simp only[Exit.inBlock,Exit.then]);refine rt2 ?_
  exact⟨rfl,hL.below⟩
theorem zcR (g h:Gu) (l:List Int) (w:World) (hl:zp w g.s l) (hlen:l.length≤1000000) (hz:qj g=false):
  Calls Tryz.prog 165 #[.int .i64 4,g.v,h.v] w fun e w'=>∃ r:Sl,e=.returned (.tuple #[Gu.v ⟨g.null,both g.span zC,g.tr,g.fa,r⟩,.bool false])∧Q7 w.heap.size w' r (y7 l [])∧Below w.heap.size w w':=by
 have HE1:=Lib.hid (fun w'=>yF g w')
 rw[hz]at HE1
 have HB:=Lib.hid (fun w' (hb:Below w.heap.size w w')=>Yu 60 both KU Js g qu l [] w' (hl.grow hb) (zp.nil w') (by simp;omega))
 clear hl hlen hz
 obtain⟨gl,⟨gn,glo,ghi⟩,gt,gf,⟨gp,gk,gc⟩⟩:=g
 obtain⟨hl',⟨hn,hlo,hhi⟩,ht,hf,⟨hp,hk,hc⟩⟩:=h
 simp only[qu,Bool.or_false]at HB
 generalize y7 l []=ml at HB ⊢
 generalize hbs:both ⟨gn,glo,ghi⟩ zC=bs at HB ⊢
 clear hbs
 obtain⟨bn,blo,bhi⟩:=bs
 have hL:=Loc.start w
 go_enter Tryz.func165,Tryz.ntmps165
 go_step
 go_step
 go_step
 ((with_reducible refine lbx hL ?_);clear hL;intro b4 w1 hL)
 ((with_reducible refine lbx hL ?_);clear hL;intro b5 w1 hL)
 ((with_reducible refine lal hL ?_);clear hL;intro b6 w1 hL)
 go_upto_region 6 with(first|(with_reducible first|refine lld hL ?_|((first|refine lbx hL ?_|refine lal hL ?_|refine lbs hL ?_);clear hL;intro bl w1 hL)|(refine zd hL ?_;clear hL;intro w1 hL))|(go_at_call 147;(with_reducible refine(HE1.out _).mono ?_);rintro e w1 ⟨rfl,hb⟩;replace hL:=hL.grow hb;clear hb;dsimp only))
 refine zf [31,32,33] ?_
 refine dv0 ?_
 apply zb
 ·intro g w hb V;replace hL:=hL.grow hb;clear V;simp only[za,fLa,fLb,sTa,sTb]
  go_wp2_with (go_at_call 136;refine(jk _).mono ?_;rintro e w3 ⟨rfl,hb3⟩;dsimp only)
  exact⟨rfl,_,rfl,(by assumption),rfl⟩
 simp only[apN,apC]
 refine zh (GuR w1.heap.size gl ⟨bn,blo,bhi⟩ gt gf ml) GuR.stable ?_ ?_
 ·intro g w hb V;replace hL:=hL.grow hb;have d0:=yv V 0;have d1:=yv V 1;clear V;simp only[za,fLa,fLb,sTa,sTb];simp only[d0,d1]
  go_wp2_with (go_at_call 104;refine(HB.out _ hL.below).mono ?_;rintro e w3 ⟨r,rfl,⟨R,hr,ho⟩,hb3⟩;dsimp only)
  exact⟨rfl,_,rfl,hb3,r,R,rfl,hr,ho.mono hb.size⟩
 simp only[apN,apC]
 refine zO hL (by kernel_rfl) (by kernel_rfl) ?_
 intro g w2 hb hR;simp only[List.length_cons,List.length_nil,Nat.reduceAdd]at hR
 have e0:=yv hR 0
 have e1:=yv hR 1
 have e2:(GuR w1.heap.size gl ⟨bn,blo,bhi⟩ gt gf ml) (g 33) w2:=yr hR 2
 obtain⟨⟨x2,y2,z2⟩,R2,e2,i2,o2⟩:=e2
 clear hR;simp only[za,fLa,fLb,sTa,sTb]
 simp only[e0,e1,e2]
 clear e0 e1 e2
 replace hL:=hL.gainTail hb o2
 simp only[List.cons_append,List.nil_append]at hL
 clear hb
 clear o2
 go_wp2_with (first|(with_reducible first|refine lld hL ?_|((first|refine lbx hL ?_|refine lal hL ?_|refine lbs hL ?_);clear hL;intro bl w1 hL)|(refine zd hL ?_;clear hL;intro w1 hL)))
 (try simp only[Exit.inBlock,Exit.then]);refine rt2 ?_
 exact⟨⟨x2,y2,z2⟩,rfl,⟨R2,i2,hL.ownOf (List.sublist_append_right [_,_,_] _)⟩,hL.below⟩
theorem zd5 (g h:Gu) (w:World) (hz:qj g=false):
  Calls Tryz.prog 165 #[.int .i64 10,g.v,h.v] w fun e w'=>e=.returned (.tuple #[Gu.v ⟨false,zC,noG g,JF g,zn⟩,.bool false])∧Below w.heap.size w w':=by
 have HE1:=Lib.hid (fun w'=>yF g w')
 rw[hz]at HE1
 have HC:=Lib.hid (fun w'=>Z6 g w')
 clear hz
 generalize JF g=y at HC ⊢
 generalize noG g=n at HC ⊢
 obtain⟨gl,⟨gn,glo,ghi⟩,gt,gf,⟨gp,gk,gc⟩⟩:=g
 obtain⟨hl',⟨hn,hlo,hhi⟩,ht,hf,⟨hp,hk,hc⟩⟩:=h
 have hL:=Loc.start w
 go_enter Tryz.func165,Tryz.ntmps165
 go_wp2_with (first|(with_reducible first|refine lld hL ?_|((first|refine lbx hL ?_|refine lal hL ?_|refine lbs hL ?_);clear hL;intro bl w1 hL)|(refine zd hL ?_;clear hL;intro w1 hL))|(go_at_call 147;(with_reducible refine(HE1.out _).mono ?_);rintro e w1 ⟨rfl,hb⟩;replace hL:=hL.grow hb;clear hb;dsimp only)|(go_at_call 158;refine(HC.out _).mono ?_;rintro e w1 ⟨rfl,hb⟩;replace hL:=hL.grow hb;clear hb;dsimp only)|(go_at_call 204;refine(VE _ _ _).mono ?_;rintro e w1 ⟨rfl,hb⟩;replace hL:=hL.grow hb;clear hb;dsimp only))
 (try simp only[Exit.inBlock,Exit.then]);refine rt2 ?_
 exact⟨rfl,hL.below⟩
theorem zcS (g h:Gu) (l m:List Int) (w:World) (hl:zp w g.s l) (hm:zp w h.s m) (n1:l.length≤1000000) (n2:m.length≤1000000) (hz:qj g=false) (hz2:qj h=false):
  Calls Tryz.prog 165 #[.int .i64 9,g.v,h.v] w fun e w'=>e=.returned (.tuple #[Gu.v ⟨false,zC,yU g h l m,Zt g h l m,zn⟩,.bool false])∧Below w.heap.size w w':=by
 have HE1:=Lib.hid (fun w'=>yF g w')
 have HE2:=Lib.hid (fun w'=>yF h w')
 rw[hz]at HE1
 rw[hz2]at HE2
 have HC:=Lib.hid (fun w' (hb:Below w.heap.size w w')=>zcQ g h l m w' (hl.grow hb) (hm.grow hb) n1 n2)
 clear hz hz2 hl hm n1 n2
 generalize yU g h l m=y at HC ⊢
 generalize Zt g h l m=n at HC ⊢
 obtain⟨gl,⟨gn,glo,ghi⟩,gt,gf,⟨gp,gk,gc⟩⟩:=g
 obtain⟨hl',⟨hn,hlo,hhi⟩,ht,hf,⟨hp,hk,hc⟩⟩:=h
 have hL:=Loc.start w
 go_enter Tryz.func165,Tryz.ntmps165
 go_wp2_with (first|(with_reducible first|refine lld hL ?_|((first|refine lbx hL ?_|refine lal hL ?_|refine lbs hL ?_);clear hL;intro bl w1 hL)|(refine zd hL ?_;clear hL;intro w1 hL))|(go_at_call 147;(with_reducible refine(HE1.out _).mono ?_);rintro e w1 ⟨rfl,hb⟩;replace hL:=hL.grow hb;clear hb;dsimp only)|(go_at_call 147;(with_reducible refine(HE2.out _).mono ?_);rintro e w1 ⟨rfl,hb⟩;replace hL:=hL.grow hb;clear hb;dsimp only)|(go_at_call 205;refine(HC.out _ hL.below).mono ?_;rintro e w1 ⟨rfl,hb⟩;replace hL:=hL.grow hb;clear hb;dsimp only)|(go_at_call 204;refine(VE _ _ _).mono ?_;rintro e w1 ⟨rfl,hb⟩;replace hL:=hL.grow hb;clear hb;dsimp only))
 (try simp only[Exit.inBlock,Exit.then]);refine rt2 ?_
 exact⟨rfl,hL.below⟩
theorem GZ (k:Int) (hk:k=5∨k=6∨k=7∨k=8) (g h:Gu) (h1:YA g.span) (h2:YA h.span) (w:World) (hz:qj g=false) (hz2:qj h=false):
  Calls Tryz.prog 165 #[.int .i64 k,g.v,h.v] w fun e w'=>e=.returned (.tuple #[(Yz k g h).v,.bool (yN g || yN h)])∧Below w.heap.size w w':=by
 have HE1:=Lib.hid (fun w'=>yF g w')
 have HE2:=Lib.hid (fun w'=>yF h w')
 rw[hz]at HE1
 rw[hz2]at HE2
 have HC:=Lib.hid (fun w'=>zfj k hk g h h1 h2 w')
 have HO1:=Lib.hid (fun w'=>XI g w')
 have HO2:=Lib.hid (fun w'=>XI h w')
 have k4:(k==4)=false:=beq_eq_false_iff_ne.2 (by omega)
 have k9:(k==9)=false:=beq_eq_false_iff_ne.2 (by omega)
 have k10:(k==10)=false:=beq_eq_false_iff_ne.2 (by omega)
 clear hz hz2 h1 h2 hk
 generalize Yz k g h=t at HC ⊢
 generalize yN g=og at HO1 ⊢
 generalize yN h=oh at HO2 ⊢
 obtain⟨tl,⟨tn,tlo,thi⟩,tt,tf,⟨tp,tk,tc⟩⟩:=t
 obtain⟨gl,⟨gn,glo,ghi⟩,gt,gf,⟨gp,gk,gc⟩⟩:=g
 obtain⟨hl',⟨hn,hlo,hhi⟩,ht,hf,⟨hp,hk,hc⟩⟩:=h
 have hL:=Loc.start w
 go_enter Tryz.func165,Tryz.ntmps165
 go_upto_region 12 with(first|(with_reducible first|refine lld hL ?_|((first|refine lbx hL ?_|refine lal hL ?_|refine lbs hL ?_);clear hL;intro bl w1 hL)|(refine zd hL ?_;clear hL;intro w1 hL))|(go_at_call 147;(with_reducible refine(HE1.out _).mono ?_);rintro e w1 ⟨rfl,hb⟩;replace hL:=hL.grow hb;clear hb;dsimp only)|(go_at_call 147;(with_reducible refine(HE2.out _).mono ?_);rintro e w1 ⟨rfl,hb⟩;replace hL:=hL.grow hb;clear hb;dsimp only))
 refine zf [52,53,54,55,56,57,58,59,60,61] ?_
 refine dv0 ?_
 refine dv0 ?_
 refine dv0 ?_
 apply zb
 ·intro g w hb V;replace hL:=hL.grow hb;have d0:=yv V 0;have d1:=yv V 1;have d2:=yv V 2;clear V;simp only[za,fLa,fLb,sTa,sTb];simp only[d0,d1,d2]
  go_wp2_with (go_at_call 206;refine(HC.out _).mono ?_;rintro e w3 ⟨rfl,hb3⟩;dsimp only)
  exact⟨rfl,_,rfl,(by assumption),rfl⟩
 simp only[apN,apC]
 refine dv0 ?_
 apply zb
 ·intro g w hb V;replace hL:=hL.grow hb;have d4:=yv V 4;clear V;simp only[za,fLa,fLb,sTa,sTb];simp only[d4]
  go_wp2_with (go_at_call 207;(with_reducible refine(HO1.out _).mono ?_);rintro e w3 ⟨rfl,hb3⟩;dsimp only)
  exact⟨rfl,_,rfl,(by assumption),rfl⟩
 simp only[apN,apC]
 refine dv1 5 ?_
 refine dg0 6 ?_
 refine' zG (j:=6) rfl rfl rfl (by decide) (by simp) ?_ ?_;rotate_left
 ·intro hcs;simp only[Bool.and_eq_true,jp,jq]at hcs;intro g w hb V;replace hL:=hL.grow hb;have d7:=yv V 7;simp only[hcs,beq_self_eq_true,Bool.and_self,Bool.true_and,Bool.and_true,zr]at d7;clear V;simp only[za,fLa,fLb,sTa,sTb];simp only[d7]
  go_wp2_with (go_at_call 207;(with_reducible refine(HO2.out _).mono ?_);rintro e w3 ⟨rfl,hb3⟩;dsimp only)
  exact⟨rfl,_,rfl,(by assumption),rfl⟩
 simp only[apN,apC]
 refine dpo 6 8 ?_
 refine QA 9 hL (by kernel_rfl) (by kernel_rfl) (fun _ _ _ _ _ h=>h) ?_ ?_
 ·(refine Q0 rfl rfl ?_;intro g w hb V;(try simp[zi,List.filter_cons,Region.binds,z7,RAt]at V);simp only[za,List.foldl_cons,List.foldl_nil,List.set_cons_succ,List.set_cons_zero];(try simp only[V]);exact⟨_,.inl ⟨rfl,fun w=>(by go_simp<;>(try (split<;>(rename_i hs;simp[hs,cnd]))))⟩,rfl⟩)
 intro g w2 hb hR;simp only[List.length_cons,List.length_nil,Nat.reduceAdd]at hR
 have e0:=yv hR 0
 have e1:=yv hR 1
 have e2:=yv hR 2
 have e3:=yv hR 3
 have e4:=yv hR 4
 have e5:=yv hR 5
 have e6:=yv hR 6
 have e7:=yv hR 7
 have e8:=yv hR 8
 have e9:=yv hR 9
 clear hR;simp only[za,fLa,fLb,sTa,sTb]
 simp only[e0,e1,e2,e3,e4,e5,e6,e7,e8,e9]
 clear e0 e1 e2 e3 e4 e5 e6 e7 e8 e9
 replace hL:=hL.grow hb
 clear hb
 go_wp2_with (first|(with_reducible first|refine lld hL ?_|((first|refine lbx hL ?_|refine lal hL ?_|refine lbs hL ?_);clear hL;intro bl w1 hL)|(refine zd hL ?_;clear hL;intro w1 hL)))
 (try simp only[Exit.inBlock,Exit.then]);refine rt2 ?_
 exact⟨rfl,hL.below⟩
theorem zcT {k:Int}(h8:k≠8) (g h:Gu):Yz k g h=⟨false,QK k g.span h.span,false,false,zn⟩:=by
 unfold Yz
 by_cases hn:(g.span.none || h.span.none)=true
 ·rw[if_pos hn]
  unfold QK
  rw[if_pos hn]
 ·rw[if_neg hn,if_neg h8]
theorem zcU (q:Nat→Bool) (n:Nat):j7 q (n+1)=(j7 q n || q n):=by
 simp[j7,List.range_succ]
def ZT (g h:Gu):Bool:=decide (ye g<0) || ye g != ye h || !(g.span.none==h.span.none&&g.span.lo==h.span.lo&&g.span.hi==h.span.hi)
theorem X4 (k:Int) (s t:zq) (hz:(s.none || t.none)=true) (w:World):Calls Tryz.prog 124 #[.int .i64 k,s.v,t.v] w fun e w'=>e=.returned zC.v∧Below w.heap.size w w':=by
 obtain⟨sn,slo,shi⟩:=s
 obtain⟨tn,tlo,thi⟩:=t
 dsimp only at hz
 have hL:=Loc.start w
 go_enter Tryz.func124,Tryz.ntmps124
 cases sn with
 | true=>
  clear hz
  go_wp2_with (first|(with_reducible first|refine lld hL ?_|((first|refine lbx hL ?_|refine lal hL ?_|refine lbs hL ?_);clear hL;intro bl w1 hL)|(refine zd hL ?_;clear hL;intro w1 hL)))
  (try simp only[Exit.inBlock,Exit.then]);refine rt1 ?_
  exact⟨rfl,hL.below⟩
 | false=>
  obtain rfl:tn=true:=by simpa using hz
  clear hz
  go_wp2_with (first|(with_reducible first|refine lld hL ?_|((first|refine lbx hL ?_|refine lal hL ?_|refine lbs hL ?_);clear hL;intro bl w1 hL)|(refine zd hL ?_;clear hL;intro w1 hL)))
  (try simp only[Exit.inBlock,Exit.then]);refine rt1 ?_
  exact⟨rfl,hL.below⟩
theorem G0 (k:Int) (hk:k=5∨k=6∨k=7) (s t:zq) (hs:zm s=0) (ht:zm t=0) (w:World):Calls Tryz.prog 124 #[.int .i64 k,s.v,t.v] w fun e w'=>e=.returned (QK k s t).v∧Below w.heap.size w w':=by
 by_cases hz:(s.none || t.none)=true
 ·rw[show QK k s t=zC from if_pos hz]
  exact X4 k s t hz w
 ·obtain⟨h1,h2⟩:s.none=false∧t.none=false:=by simpa using hz
  rcases hk with rfl|rfl|rfl
  ·exact zgL s t hs ht h1 h2 w
  ·exact zgM s t hs ht h1 h2 w
  ·exact zgN s t hs ht h1 h2 w
theorem zfk (k:Int) (g h:Gu) (hz:(qj g || (!(k==10 || k==4)&&qj h))=true) (w:World):
  Calls Tryz.prog 82 #[.int .i64 k,g.v,h.v] w fun e w'=>e=.returned (.tuple #[qu.v,.bool false])∧Below w.heap.size w w':=by
 have HE1:=Lib.hid (fun w'=>zW g w')
 have HE2:=Lib.hid (fun w'=>zW h w')
 generalize qj g=eg at HE1 hz
 generalize qj h=eh at HE2 hz
 obtain⟨gl,⟨gn,glo,ghi⟩,gt,gf,⟨gp,gk,gc⟩⟩:=g
 obtain⟨hl',⟨hn,hlo,hhi⟩,ht,hf,⟨hp,hk,hc⟩⟩:=h
 have hL:=Loc.start w
 go_enter Tryz.func82,Tryz.ntmps82
 cases eg with
 | true=>
  clear hz
  go_wp2_with (first|(with_reducible first|refine lld hL ?_|((first|refine lbx hL ?_|refine lal hL ?_|refine lbs hL ?_);clear hL;intro bl w1 hL)|(refine zd hL ?_;clear hL;intro w1 hL))|(go_at_call 83;(with_reducible refine(HE1.out _).mono ?_);rintro e w1 ⟨rfl,hb⟩;replace hL:=hL.grow hb;clear hb;dsimp only)|(go_at_call 78;refine(zt _).mono ?_;rintro e w1 ⟨rfl,hb⟩;replace hL:=hL.grow hb;clear hb;dsimp only))
  (try simp only[Exit.inBlock,Exit.then]);refine rt2 ?_
  exact⟨rfl,hL.below⟩
 | false=>
  obtain⟨h4,h10,rfl⟩:k≠4∧k≠10∧eh=true:=by
   simp at hz
   exact⟨hz.1.2,hz.1.1,hz.2⟩
  have k4:(k != 4)=true:=by simpa using h4
  have k10:(k != 10)=true:=by simpa using h10
  clear hz h4 h10
  go_wp2_with (first|(with_reducible first|refine lld hL ?_|((first|refine lbx hL ?_|refine lal hL ?_|refine lbs hL ?_);clear hL;intro bl w1 hL)|(refine zd hL ?_;clear hL;intro w1 hL))|(go_at_call 83;(with_reducible refine(HE1.out _).mono ?_);rintro e w1 ⟨rfl,hb⟩;replace hL:=hL.grow hb;clear hb;dsimp only)|(go_at_call 83;(with_reducible refine(HE2.out _).mono ?_);rintro e w1 ⟨rfl,hb⟩;replace hL:=hL.grow hb;clear hb;dsimp only)|(go_at_call 78;refine(zt _).mono ?_;rintro e w1 ⟨rfl,hb⟩;replace hL:=hL.grow hb;clear hb;dsimp only))
  (try simp only[Exit.inBlock,Exit.then]);refine rt2 ?_
  exact⟨rfl,hL.below⟩
theorem zd6 (g h:Gu) (w:World) (hz:qj g=false):
  Calls Tryz.prog 82 #[.int .i64 4,g.v,h.v] w fun e w'=>e=.returned (.tuple #[g.v,.bool false])∧Below w.heap.size w w':=by
 have HE1:=Lib.hid (fun w'=>zW g w')
 rw[hz]at HE1
 clear hz
 obtain⟨gl,⟨gn,glo,ghi⟩,gt,gf,⟨gp,gk,gc⟩⟩:=g
 obtain⟨hl',⟨hn,hlo,hhi⟩,ht,hf,⟨hp,hk,hc⟩⟩:=h
 have hL:=Loc.start w
 go_enter Tryz.func82,Tryz.ntmps82
 go_wp2_with (first|(with_reducible first|refine lld hL ?_|((first|refine lbx hL ?_|refine lal hL ?_|refine lbs hL ?_);clear hL;intro bl w1 hL)|(refine zd hL ?_;clear hL;intro w1 hL))|(go_at_call 83;(with_reducible refine(HE1.out _).mono ?_);rintro e w1 ⟨rfl,hb⟩;replace hL:=hL.grow hb;clear hb;dsimp only)|(go_at_call 78;refine(zt _).mono ?_;rintro e w1 ⟨rfl,hb⟩;replace hL:=hL.grow hb;clear hb;dsimp only))
 (try simp only[Exit.inBlock,Exit.then]);refine rt2 ?_
 exact⟨rfl,hL.below⟩
theorem zfl (g h:Gu) (w:World) (hz:qj g=false):
  Calls Tryz.prog 82 #[.int .i64 10,g.v,h.v] w fun e w'=>e=.returned (.tuple #[Gu.v ⟨false,zC,noG g,JF g,zn⟩,.bool false])∧Below w.heap.size w w':=by
 have HE1:=Lib.hid (fun w'=>zW g w')
 rw[hz]at HE1
 have HC:=Lib.hid (fun w'=>Zz g w')
 clear hz
 generalize JF g=y at HC ⊢
 generalize noG g=n at HC ⊢
 obtain⟨gl,⟨gn,glo,ghi⟩,gt,gf,⟨gp,gk,gc⟩⟩:=g
 obtain⟨hl',⟨hn,hlo,hhi⟩,ht,hf,⟨hp,hk,hc⟩⟩:=h
 have hL:=Loc.start w
 go_enter Tryz.func82,Tryz.ntmps82
 go_wp2_with (first|(with_reducible first|refine lld hL ?_|((first|refine lbx hL ?_|refine lal hL ?_|refine lbs hL ?_);clear hL;intro bl w1 hL)|(refine zd hL ?_;clear hL;intro w1 hL))|(go_at_call 83;(with_reducible refine(HE1.out _).mono ?_);rintro e w1 ⟨rfl,hb⟩;replace hL:=hL.grow hb;clear hb;dsimp only)|(go_at_call 78;refine(zt _).mono ?_;rintro e w1 ⟨rfl,hb⟩;replace hL:=hL.grow hb;clear hb;dsimp only)|(go_at_call 79;refine(HC.out _).mono ?_;rintro e w1 ⟨rfl,hb⟩;replace hL:=hL.grow hb;clear hb;dsimp only))
 (try simp only[Exit.inBlock,Exit.then]);refine rt2 ?_
 exact⟨rfl,hL.below⟩
theorem zd7 (k:Int) (hk:k=5∨k=6∨k=7) (g h:Gu) (h1:zm g.span=0) (h2:zm h.span=0) (w:World) (hz:qj g=false) (hz2:qj h=false):
  Calls Tryz.prog 82 #[.int .i64 k,g.v,h.v] w fun e w'=>e=.returned (.tuple #[(Yz k g h).v,.bool (yN g || yN h)])∧Below w.heap.size w w':=by
 have HE1:=Lib.hid (fun w'=>zW g w')
 have HE2:=Lib.hid (fun w'=>zW h w')
 rw[hz]at HE1
 rw[hz2]at HE2
 have HC:=Lib.hid (fun w'=>G0 k hk g.span h.span h1 h2 w')
 have HO1:=Lib.hid (fun w'=>QI g w')
 have HO2:=Lib.hid (fun w'=>QI h w')
 have k4:(k==4)=false:=beq_eq_false_iff_ne.2 (by omega)
 have k9:(k==9)=false:=beq_eq_false_iff_ne.2 (by omega)
 have k8:(k==8)=false:=beq_eq_false_iff_ne.2 (by omega)
 have k10:(k==10)=false:=beq_eq_false_iff_ne.2 (by omega)
 have m4:(k != 4)=true:=by simpa using (show k≠4 by omega)
 have m10:(k != 10)=true:=by simpa using (show k≠10 by omega)
 rw[zcT (by omega)]
 clear hz hz2 h1 h2 hk
 generalize QK k g.span h.span=t at HC ⊢
 generalize yN g=og at HO1 ⊢
 generalize yN h=oh at HO2 ⊢
 obtain⟨tn,tlo,thi⟩:=t
 obtain⟨gl,⟨gn,glo,ghi⟩,gt,gf,⟨gp,gk,gc⟩⟩:=g
 obtain⟨hl',⟨hn,hlo,hhi⟩,ht,hf,⟨hp,hk,hc⟩⟩:=h
 have hL:=Loc.start w
 go_enter Tryz.func82,Tryz.ntmps82
 go_upto_region 26 with(first|(with_reducible first|refine lld hL ?_|((first|refine lbx hL ?_|refine lal hL ?_|refine lbs hL ?_);clear hL;intro bl w1 hL)|(refine zd hL ?_;clear hL;intro w1 hL))|(go_at_call 83;(with_reducible refine(HE1.out _).mono ?_);rintro e w1 ⟨rfl,hb⟩;replace hL:=hL.grow hb;clear hb;dsimp only)|(go_at_call 83;(with_reducible refine(HE2.out _).mono ?_);rintro e w1 ⟨rfl,hb⟩;replace hL:=hL.grow hb;clear hb;dsimp only)|(go_at_call 78;refine(zt _).mono ?_;rintro e w1 ⟨rfl,hb⟩;replace hL:=hL.grow hb;clear hb;dsimp only)|(go_at_call 124;refine(HC.out _).mono ?_;rintro e w1 ⟨rfl,hb⟩;replace hL:=hL.grow hb;clear hb;dsimp only))
 refine zf [161,162,163,164,165,166,167] ?_
 refine dv0 ?_
 refine dv0 ?_
 apply zb
 ·intro g w hb V;replace hL:=hL.grow hb;have d1:=yv V 1;clear V;simp only[za,fLa,fLb,sTa,sTb];simp only[d1]
  go_wp2_with (go_at_call 123;(with_reducible refine(HO1.out _).mono ?_);rintro e w3 ⟨rfl,hb3⟩;dsimp only)
  exact⟨rfl,_,rfl,(by assumption),rfl⟩
 simp only[apN,apC]
 refine dv1 2 ?_
 refine dg0 3 ?_
 refine' zG (j:=3) rfl rfl rfl (by decide) (by simp) ?_ ?_;rotate_left
 ·intro hcs;simp only[Bool.and_eq_true,jp,jq]at hcs;intro g w hb V;replace hL:=hL.grow hb;have d4:=yv V 4;simp only[hcs,beq_self_eq_true,Bool.and_self,Bool.true_and,Bool.and_true,zr]at d4;clear V;simp only[za,fLa,fLb,sTa,sTb];simp only[d4]
  go_wp2_with (go_at_call 123;(with_reducible refine(HO2.out _).mono ?_);rintro e w3 ⟨rfl,hb3⟩;dsimp only)
  exact⟨rfl,_,rfl,(by assumption),rfl⟩
 simp only[apN,apC]
 refine dpo 3 5 ?_
 refine QA 6 hL (by kernel_rfl) (by kernel_rfl) (fun _ _ _ _ _ h=>h) ?_ ?_
 ·(refine Q0 rfl rfl ?_;intro g w hb V;(try simp[zi,List.filter_cons,Region.binds,z7,RAt]at V);simp only[za,List.foldl_cons,List.foldl_nil,List.set_cons_succ,List.set_cons_zero];(try simp only[V]);exact⟨_,.inl ⟨rfl,fun w=>(by go_simp<;>(try (split<;>(rename_i hs;simp[hs,cnd]))))⟩,rfl⟩)
 intro g w2 hb hR;simp only[List.length_cons,List.length_nil,Nat.reduceAdd]at hR
 have e0:=yv hR 0
 have e1:=yv hR 1
 have e2:=yv hR 2
 have e3:=yv hR 3
 have e4:=yv hR 4
 have e5:=yv hR 5
 have e6:=yv hR 6
 clear hR;simp only[za,fLa,fLb,sTa,sTb]
 simp only[e0,e1,e2,e3,e4,e5,e6]
 clear e0 e1 e2 e3 e4 e5 e6
 replace hL:=hL.grow hb
 clear hb
 go_wp2_with (first|(with_reducible first|refine lld hL ?_|((first|refine lbx hL ?_|refine lal hL ?_|refine lbs hL ?_);clear hL;intro bl w1 hL)|(refine zd hL ?_;clear hL;intro w1 hL)))
 (try simp only[Exit.inBlock,Exit.then]);refine rt2 ?_
 exact⟨rfl,hL.below⟩
theorem zd8 (g h:Gu) (w:World) (hz:qj g=false) (hz2:qj h=false):
  Calls Tryz.prog 82 #[.int .i64 8,g.v,h.v] w fun e w'=>e=.returned (.tuple #[(Yz 8 g h).v,.bool (yN g || yN h)])∧Below w.heap.size w w':=by
 have HE1:=Lib.hid (fun w'=>zW g w')
 have HE2:=Lib.hid (fun w'=>zW h w')
 rw[hz]at HE1
 rw[hz2]at HE2
 have HO1:=Lib.hid (fun w'=>QI g w')
 have HO2:=Lib.hid (fun w'=>QI h w')
 clear hz hz2
 generalize yN g=og at HO1 ⊢
 generalize yN h=oh at HO2 ⊢
 unfold Yz
 obtain⟨gl,⟨gn,glo,ghi⟩,gt,gf,⟨gp,gk,gc⟩⟩:=g
 obtain⟨hl',⟨hn,hlo,hhi⟩,ht,hf,⟨hp,hk,hc⟩⟩:=h
 dsimp only
 generalize ha:decide (glo<hhi)=a
 generalize hb:decide (hlo≤ghi)=b
 have HA:=Lib.hid ha
 have HB:=Lib.hid hb
 clear ha hb
 cases gn<;>cases hn
 all_goals
  have hL:=Loc.start w
  go_enter Tryz.func82,Tryz.ntmps82
  go_upto_region 24 with(first|(with_reducible first|refine lld hL ?_|((first|refine lbx hL ?_|refine lal hL ?_|refine lbs hL ?_);clear hL;intro bl w1 hL)|(refine zd hL ?_;clear hL;intro w1 hL))|(go_at_call 83;(with_reducible refine(HE1.out _).mono ?_);rintro e w1 ⟨rfl,hb⟩;replace hL:=hL.grow hb;clear hb;dsimp only)|(go_at_call 83;(with_reducible refine(HE2.out _).mono ?_);rintro e w1 ⟨rfl,hb⟩;replace hL:=hL.grow hb;clear hb;dsimp only)|(go_at_call 78;refine(zt _).mono ?_;rintro e w1 ⟨rfl,hb⟩;replace hL:=hL.grow hb;clear hb;dsimp only))
  refine zf [147,148,149,150,151,152,153] ?_
  refine dv0 ?_
  refine dv0 ?_
  apply zb
  ·intro g w hb V;replace hL:=hL.grow hb;have d1:=yv V 1;clear V;simp only[za,fLa,fLb,sTa,sTb];simp only[d1]
   go_wp2_with (go_at_call 123;(with_reducible refine(HO1.out _).mono ?_);rintro e w3 ⟨rfl,hb3⟩;dsimp only)
   exact⟨rfl,_,rfl,(by assumption),rfl⟩
  simp only[apN,apC]
  refine dv1 2 ?_
  refine dg0 3 ?_
  refine' zG (j:=3) rfl rfl rfl (by decide) (by simp) ?_ ?_;rotate_left
  ·intro hcs;simp only[Bool.and_eq_true,jp,jq]at hcs;intro g w hb V;replace hL:=hL.grow hb;have d4:=yv V 4;simp only[hcs,beq_self_eq_true,Bool.and_self,Bool.true_and,Bool.and_true,zr]at d4;clear V;simp only[za,fLa,fLb,sTa,sTb];simp only[d4]
   go_wp2_with (go_at_call 123;(with_reducible refine(HO2.out _).mono ?_);rintro e w3 ⟨rfl,hb3⟩;dsimp only)
   exact⟨rfl,_,rfl,(by assumption),rfl⟩
  simp only[apN,apC]
  refine dpo 3 5 ?_
  refine QA 6 hL (by kernel_rfl) (by kernel_rfl) (fun _ _ _ _ _ h=>h) ?_ ?_
  ·(refine Q0 rfl rfl ?_;intro g w hb V;(try simp[zi,List.filter_cons,Region.binds,z7,RAt]at V);simp only[za,List.foldl_cons,List.foldl_nil,List.set_cons_succ,List.set_cons_zero];(try simp only[V]);exact⟨_,.inl ⟨rfl,fun w=>(by go_simp<;>(try (split<;>(rename_i hs;simp[hs,cnd]))))⟩,rfl⟩)
  intro g w2 hb hR;simp only[List.length_cons,List.length_nil,Nat.reduceAdd]at hR
  have e0:=yv hR 0
  have e1:=yv hR 1
  have e2:=yv hR 2
  have e3:=yv hR 3
  have e4:=yv hR 4
  have e5:=yv hR 5
  have e6:=yv hR 6
  clear hR;simp only[za,fLa,fLb,sTa,sTb]
  simp only[e0,e1,e2,e3,e4,e5,e6]
  clear e0 e1 e2 e3 e4 e5 e6
  replace hL:=hL.grow hb
  clear hb
  go_wp2_with (first|(with_reducible first|refine lld hL ?_|((first|refine lbx hL ?_|refine lal hL ?_|refine lbs hL ?_);clear hL;intro bl w1 hL)|(refine zd hL ?_;clear hL;intro w1 hL)))
  (try simp only[Exit.inBlock,Exit.then]);refine rt2 ?_
  first
  | exact⟨rfl,hL.below⟩
  | exact⟨by rw[← HA.out,← HB.out];rfl,hL.below⟩
theorem zd9 (g h:Gu) (l m:List Int) (w:World) (hl:zp w g.s l) (hm:zp w h.s m) (hz:qj g=false) (hz2:qj h=false):
  Calls Tryz.prog 82 #[.int .i64 9,g.v,h.v] w fun e w'=>e=.returned (.tuple #[Gu.v ⟨false,zC,yU g h l m,ZT g h,zn⟩,.bool false])∧Below w.heap.size w w':=by
 have HE1:=Lib.hid (fun w'=>zW g w')
 have HE2:=Lib.hid (fun w'=>zW h w')
 rw[hz]at HE1
 rw[hz2]at HE2
 have HS1:=Lib.hid (fun w'=>Us g w')
 have HS2:=Lib.hid (fun w'=>Us h w')
 have HM:=Lib.hid (fun w'=>zdd g.span h.span w')
 have HF:=Lib.hid (show yU g h l m=(JO l m || g.null&&h.null || g.tr&&h.tr || g.fa&&h.fa || !(ji g.span h.span).none) from rfl)
 have HN:=Lib.hid (show ZT g h=(decide (ye g<0) || ye g != ye h || !(g.span.none==h.span.none&&g.span.lo==h.span.lo&&g.span.hi==h.span.hi)) from rfl)
 clear hz hz2
 generalize ye g=s1 at HS1 HN
 generalize ye h=s2 at HS2 HN
 generalize hms:yU g h l m=ms at HF ⊢
 generalize hns:ZT g h=ns at HN ⊢
 clear hms hns
 obtain⟨b,o,hpp,hcc⟩:=hl.reads QQ
 have hnn:=hl.n
 have hm64:=hl.m
 have HI:=Lib.hid (fun x w' (hb:Below w.heap.size w w')=>VD h.s m x w' (hm.grow hb))
 obtain⟨gl,⟨gn,glo,ghi⟩,gt,gf,⟨gp,gk,gc⟩⟩:=g
 obtain⟨hl',⟨hn,hlo,hhi⟩,ht,hf,⟨hp,hk,hc⟩⟩:=h
 dsimp only at hnn hpp hcc hm64 HF HN HM
 subst hnn
 have HP:=Lib.hid hpp
 have HC:=Lib.hid hcc
 clear hl hm hpp hcc
 generalize ji ⟨gn,glo,ghi⟩ ⟨hn,hlo,hhi⟩=cs at HF HM
 obtain⟨cn,clo,chi⟩:=cs
 have HQ0:=Lib.hid (show JO l m=j7 (fun k=>j6 m (l.getD k 0)) l.length from rfl)
 have hL:=Loc.start w
 go_enter Tryz.func82,Tryz.ntmps82
 go_step
 go_step
 go_step
 ((with_reducible refine lbx hL ?_);clear hL;intro b4 w1 hL)
 ((with_reducible refine lbx hL ?_);clear hL;intro b5 w1 hL)
 ((with_reducible refine lal hL ?_);clear hL;intro b6 w1 hL)
 go_upto_region 1 with(first|(with_reducible first|refine lld hL ?_|((first|refine lbx hL ?_|refine lal hL ?_|refine lbs hL ?_);clear hL;intro bl w1 hL)|(refine zd hL ?_;clear hL;intro w1 hL)))
 go_upto_region 2 with(first|((with_reducible refine lal hL ?_);clear hL;intro b8 w1 hL)|(with_reducible first|refine lld hL ?_|((first|refine lbx hL ?_|refine lal hL ?_|refine lbs hL ?_);clear hL;intro bl w1 hL)|(refine zd hL ?_;clear hL;intro w1 hL))|(go_at_call 78;refine(zt _).mono ?_;rintro e w1 ⟨rfl,hb⟩;replace hL:=hL.grow hb;clear hb;dsimp only))
 go_wp2_with (first|(with_reducible first|refine lld hL ?_|((first|refine lbx hL ?_|refine lal hL ?_|refine lbs hL ?_);clear hL;intro bl w1 hL)|(refine zd hL ?_;clear hL;intro w1 hL))|(go_at_call 83;(with_reducible refine(HE1.out _).mono ?_);rintro e w1 ⟨rfl,hb⟩;replace hL:=hL.grow hb;clear hb;dsimp only)|(go_at_call 83;(with_reducible refine(HE2.out _).mono ?_);rintro e w1 ⟨rfl,hb⟩;replace hL:=hL.grow hb;clear hb;dsimp only))
 go_loopw [11,12] (fun c d wr=>∃ k:Nat,k≤l.length∧c=.bool (j7 (fun k=>j6 m (l.getD k 0)) k)∧d=.int .i64 k∧Loc w wr [(b8,108,[.bool false,.bool true,.int .i64 0,.int .i64 0,.bool false,.bool false,.slice none 0 0]),(b6,108,[.bool false,.bool false,.int .i64 0,.int .i64 0,.bool false,.bool false,.slice none 0 0]),(b5,108,[.bool hl',.bool hn,.int .i64 hlo,.int .i64 hhi,.bool ht,.bool hf,.slice hp hk hc]),(b4,108,[.bool gl,.bool gn,.int .i64 glo,.int .i64 ghi,.bool gt,.bool gf,.slice gp l.length gc])] []) (fun _ d _=>l.length - (intOf d).toNat)
 case atStart=>exact⟨0,Nat.zero_le _,rfl,rfl,hL⟩
 case round=>
  obtain⟨k,hk,rfl,rfl,hL⟩:=hrel
  by_cases hlt:k<l.length
  ·have HP2:=Lib.hid (HP.out (by omega))
   have hr:=HC.out k hlt
   have hs:=zcU (fun k=>j6 m (l.getD k 0)) k
   try dsimp only at hs
   generalize j7 (fun k=>j6 m (l.getD k 0)) k=x at hs ⊢
   generalize l.getD k 0=y at hr hs
   generalize hz:j6 m y=z at hs
   have HZ:=Lib.hid (fun w' (hb:Below w.heap.size w w')=>hz▸HI.out y w' hb)
   have HS:=Lib.hid hs
   have HR1:=Lib.hid hr
   clear hr hs hz
   go_upto_region 16 with(first|(with_reducible first|refine lld hL ?_|((first|refine lbx hL ?_|refine lal hL ?_|refine lbs hL ?_);clear hL;intro bl w1 hL)|(refine zd hL ?_;clear hL;intro w1 hL)))
   refine zf [54,55,56,57,58,59,60,61,62,63,64,11] ?_
   refine' Yl [(11,11)] 0 rfl (by kernel_rfl) ?_ ?_;rotate_left
   ·intro g w hb V hun;replace hL:=hL.grow hb;simp[GJ]at hun;clear V;simp only[za,fLa,fLb,sTa,sTb];simp only[hun]
    go_wp2
    exact cY
   simp only[apN,apC]
   refine dv1 0 ?_
   refine dg0 1 ?_
   refine dg1 1 2 ?_
   refine dg0 1 ?_
   refine dg1 1 4 ?_
   refine dg0 1 ?_
   refine' zG (j:=1) rfl rfl rfl (by decide) (by simp) ?_ ?_;rotate_left
   ·intro hcs;simp only[Bool.and_eq_true,jp,jq]at hcs;intro g w hb V;replace hL:=hL.grow hb;have d5:=yv V 5;simp only[hcs,beq_self_eq_true,Bool.and_self,Bool.true_and,Bool.and_true,zr]at d5;have d6:=yv V 6;simp only[hcs,beq_self_eq_true,Bool.and_self,Bool.true_and,Bool.and_true,zr]at d6;clear V;simp only[za,fLa,fLb,sTa,sTb];simp only[d5,d6]
    (simp only[HP2.out];go_wp2)
    exact cY
   simp only[apN,apC]
   refine' zG (j:=1) rfl rfl rfl (by decide) (by simp) ?_ ?_;rotate_left
   ·intro hcs;simp only[Bool.and_eq_true,jp,jq]at hcs;intro g w hb V;replace hL:=hL.grow hb;have d7:=yv V 7;simp only[hcs,beq_self_eq_true,Bool.and_self,Bool.true_and,Bool.and_true,zr]at d7;clear V;simp only[za,fLa,fLb,sTa,sTb];simp only[d7]
    refine zo HR1.out hL rfl rfl ?_
    exact cY
   simp only[apN,apC]
   refine' zG (j:=1) rfl rfl rfl (by decide) (by simp) ?_ ?_;rotate_left
   ·intro hcs;simp only[Bool.and_eq_true,jp,jq]at hcs;intro g w hb V;replace hL:=hL.grow hb;have d3:=yv V 3;simp only[hcs,beq_self_eq_true,Bool.and_self,Bool.true_and,Bool.and_true,zr]at d3;have d8:=yv V 8;simp only[hcs,beq_self_eq_true,Bool.and_self,Bool.true_and,Bool.and_true,zr]at d8;clear V;simp only[za,fLa,fLb,sTa,sTb];simp only[d3,d8]
    go_wp2_with (go_at_call 120;refine(HZ.out _ hL.below).mono ?_;rintro e w3 ⟨rfl,hb3⟩;dsimp only)
    exact⟨rfl,_,rfl,hb3,rfl⟩
   simp only[apN,apC]
   refine dpo 1 9 ?_
   refine dv1 10 ?_
   refine dnd hL ?_
   clear hL;intro w2 hL;simp only[zV,sTa,sTb]
   simp only[beq_true,beq_false,Bool.not_and,Bool.not_or,Bool.not_not]
   generalize (x || z)=y2 at HS ⊢
   go_wp2_with (first|(with_reducible first|refine lld hL ?_|((first|refine lbx hL ?_|refine lal hL ?_|refine lbs hL ?_);clear hL;intro bl w1 hL)|(refine zd hL ?_;clear hL;intro w1 hL)))
   go_roundw
   case rel=>exact⟨k+1,by omega,by rw[HS.out],by go_num,hL⟩
   case measure=>simp[intOf];omega
  ·obtain rfl:k=l.length:=by omega
   rw[← HQ0.out]
   generalize JO l m=co at HF ⊢
   clear HQ0 HP HC HI
   go_upto_region 17 with(first|(with_reducible first|refine lld hL ?_|((first|refine lbx hL ?_|refine lal hL ?_|refine lbs hL ?_);clear hL;intro bl w1 hL)|(refine zd hL ?_;clear hL;intro w1 hL)))
   refine zJ [65,66,67,68,69,70,71,72,73,74,75,76,77,78,79,80,81,82,83,84,85,86,87,88,89,90,91,92,93,94,95,96,97,98,99] ?_
   refine dv0 ?_
   refine dv1 0 ?_
   refine dg0 1 ?_
   refine dg1 1 2 ?_
   refine dg1 1 3 ?_
   refine dc0 4 ?_
   refine dc1 4 5 ?_
   refine ZR 1 4 6 ?_
   refine dpo 1 7 ?_
   refine dv1 8 ?_
   refine dg0 9 ?_
   refine dg1 9 10 ?_
   refine dg1 9 11 ?_
   refine dc0 12 ?_
   refine dc1 12 13 ?_
   refine ZR 9 12 14 ?_
   refine dpo 9 15 ?_
   refine dv1 16 ?_
   refine dg0 17 ?_
   refine dg1 17 18 ?_
   refine dg1 17 19 ?_
   refine dc0 20 ?_
   refine dc1 20 21 ?_
   refine ZR 17 20 22 ?_
   refine dpo 17 23 ?_
   refine dv1 24 ?_
   refine dg0 25 ?_
   refine dg1 25 26 ?_
   refine dg0 25 ?_
   refine dg1 25 28 ?_
   refine' zG (j:=25) rfl rfl rfl (by decide) (by simp) ?_ ?_;rotate_left
   ·intro hcs;simp only[Bool.and_eq_true,jp,jq]at hcs;intro g w hb V;replace hL:=hL.grow hb;have d27:=yv V 27;simp only[hcs,beq_self_eq_true,Bool.and_self,Bool.true_and,Bool.and_true,zr]at d27;have d29:=yv V 29;simp only[hcs,beq_self_eq_true,Bool.and_self,Bool.true_and,Bool.and_true,zr]at d29;clear V;simp only[za,fLa,fLb,sTa,sTb];simp only[d27,d29]
    go_wp2_with (go_at_call 121;refine(HM.out _).mono ?_;rintro e w3 ⟨rfl,hb3⟩;dsimp only)
    exact⟨rfl,_,rfl,(by assumption),rfl⟩
   simp only[apN,apC]
   refine' zG (j:=25) rfl rfl rfl (by decide) (by simp) ?_ ?_;rotate_left
   ·intro hcs;simp only[Bool.and_eq_true,jp,jq]at hcs;intro g w hb V;replace hL:=hL.grow hb;have d30:=yv V 30;simp only[hcs,beq_self_eq_true,Bool.and_self,Bool.true_and,Bool.and_true,zr]at d30;clear V;simp only[za,fLa,fLb,sTa,sTb];simp only[d30]
    refine YJ (s:=⟨cn,clo,chi⟩) rfl ?_;go_wp2
    exact cY
   simp only[apN,apC]
   refine dg1 25 31 ?_
   refine dpo 25 32 ?_
   refine dv0 ?_
   refine dns hL ?_
   clear hL;intro w2 hL;simp only[zV,sTa,sTb]
   rw[← HF.out]
   go_upto_region 18 with(first|(with_reducible first|refine lld hL ?_|((first|refine lbx hL ?_|refine lal hL ?_|refine lbs hL ?_);clear hL;intro bl w1 hL)|(refine zd hL ?_;clear hL;intro w1 hL)))
   refine zf [100,101,102,103,104,105,106,107,108,109,110,111,112,113,114,115,116,117] ?_
   refine dv0 ?_
   apply zb
   ·intro g w hb V;replace hL:=hL.grow hb;have d0:=yv V 0;clear V;simp only[za,fLa,fLb,sTa,sTb];simp only[d0]
    go_wp2_with (go_at_call 122;(with_reducible refine(HS1.out _).mono ?_);rintro e w3 ⟨rfl,hb3⟩;dsimp only)
    exact⟨rfl,_,rfl,(by assumption),rfl⟩
   simp only[apN,apC]
   refine dv1 1 ?_
   refine dv1 2 ?_
   refine dg0 3 ?_
   refine' zG (j:=3) rfl rfl rfl (by decide) (by simp) ?_ ?_;rotate_left
   ·intro hcs;simp only[Bool.and_eq_true,jp,jq]at hcs;intro g w hb V;replace hL:=hL.grow hb;have d4:=yv V 4;simp only[hcs,beq_self_eq_true,Bool.and_self,Bool.true_and,Bool.and_true,zr]at d4;clear V;simp only[za,fLa,fLb,sTa,sTb];simp only[d4]
    go_wp2_with (go_at_call 122;(with_reducible refine(HS1.out _).mono ?_);rintro e w3 ⟨rfl,hb3⟩;dsimp only)
    exact⟨rfl,_,rfl,(by assumption),rfl⟩
   simp only[apN,apC]
   refine dg0 3 ?_
   refine' zG (j:=3) rfl rfl rfl (by decide) (by simp) ?_ ?_;rotate_left
   ·intro hcs;simp only[Bool.and_eq_true,jp,jq]at hcs;intro g w hb V;replace hL:=hL.grow hb;have d6:=yv V 6;simp only[hcs,beq_self_eq_true,Bool.and_self,Bool.true_and,Bool.and_true,zr]at d6;clear V;simp only[za,fLa,fLb,sTa,sTb];simp only[d6]
    go_wp2_with (go_at_call 122;(with_reducible refine(HS2.out _).mono ?_);rintro e w3 ⟨rfl,hb3⟩;dsimp only)
    exact⟨rfl,_,rfl,(by assumption),rfl⟩
   simp only[apN,apC]
   refine dg2 3 5 7 ?_
   refine dpo 3 8 ?_
   refine dv1 9 ?_
   refine dg0 10 ?_
   refine dg1 10 11 ?_
   refine dg0 10 ?_
   refine dg1 10 13 ?_
   refine' zG (j:=10) rfl rfl rfl (by decide) (by simp) ?_ ?_;rotate_left
   ·intro hcs;simp only[Bool.and_eq_true,jp,jq]at hcs;intro g w hb V;replace hL:=hL.grow hb;have d12:=yv V 12;simp only[hcs,beq_self_eq_true,Bool.and_self,Bool.true_and,Bool.and_true,zr]at d12;have d14:=yv V 14;simp only[hcs,beq_self_eq_true,Bool.and_self,Bool.true_and,Bool.and_true,zr]at d14;clear V;simp only[za,fLa,fLb,sTa,sTb];simp only[d12,d14]
    refine Ur (a:=⟨gn,glo,ghi⟩) (b:=⟨hn,hlo,hhi⟩) rfl rfl rfl ?_;go_wp2
    exact cY
   simp only[apN,apC]
   refine dpo 10 15 ?_
   refine dv0 ?_
   refine dnd hL ?_
   clear hL;intro w2 hL;simp only[zV,sTa,sTb]
   go_wp2_with (first|(with_reducible first|refine lld hL ?_|((first|refine lbx hL ?_|refine lal hL ?_|refine lbs hL ?_);clear hL;intro bl w1 hL)|(refine zd hL ?_;clear hL;intro w1 hL)))
   (try simp only[Exit.inBlock,Exit.then]);refine rt2 ?_
   first
   | exact⟨by rw[HN.out];rfl,hL.below⟩
   | exact⟨by rw[HN.out];simp,hL.below⟩
def yw (p:Pg) (is:Nat→Ins) (l:List Int):Bool:=j7 (fun k=>!jc p is (l.getD k 0)) l.length
def Jp (p:Pg) (is:Nat→Ins) (g:Gu) (l:List Int):Int:=if zm g.span≠0 then zm g.span else if yw p is l=true then 5 else if Yd l=true then 4 else 0
def JP (l m:List Int) (k:Nat):List Int:=((List.range k).map fun k:Nat=>(k:Int)).filter fun s=>j6 l s || j6 m s
theorem X5 (l m:List Int) (k:Nat):JP l m (k+1)=JP l m k++(bif j6 l (k:Int) || j6 m (k:Int) then [(k:Int)] else []):=by
 unfold JP
 rw[List.range_succ,List.map_append,List.filter_append]
 cases h:j6 l (k:Int) || j6 m (k:Int)<;>simp[h]
theorem Vb (l m:List Int) (k:Nat):(JP l m k).length≤k:=by
 unfold JP
 exact Nat.le_trans (List.length_filter_le _ _) (by simp)
theorem Vc (l m:List Int):JP l m 60=Yc l m:=rfl
theorem zcV (l m:List Int):JP l m 0=[]:=rfl
theorem Vd (wd:Bool) (f:zq→zq→zq) (hf:∀ (s t:zq) (w:World),Calls Tryz.prog 119 #[s.v,t.v,.bool wd] w fun e w'=>e=.returned (f s t).v∧Below w.heap.size w w')
  (g h:Gu) (l m:List Int) (w:World) (hl:zp w g.s l) (hm:zp w h.s m):
  Calls Tryz.prog 81 #[g.v,h.v,.bool wd] w fun e w'=>∃ r:Sl,e=.returned (Gu.v ⟨g.null || h.null,f g.span h.span,g.tr || h.tr,g.fa || h.fa,r⟩)∧Q7 w.heap.size w' r (Yc l m)∧Below w.heap.size w w':=by
 have HA:=Lib.hid (fun (x:Int) w' (hb:Below w.heap.size w w')=>VD g.s l x w' (hl.grow hb))
 have HB:=Lib.hid (fun (x:Int) w' (hb:Below w.heap.size w w')=>VD h.s m x w' (hm.grow hb))
 have HK:=Lib.hid (fun w'=>hf g.span h.span w')
 clear hl hm hf
 obtain⟨gl,⟨gn,glo,ghi⟩,gt,gf,⟨gp,gk,gc⟩⟩:=g
 obtain⟨hl',⟨hn,hlo,hhi⟩,ht,hf,⟨hp,hk,hc⟩⟩:=h
 dsimp only at HA HB HK
 generalize hfs:f ⟨gn,glo,ghi⟩ ⟨hn,hlo,hhi⟩=fs at HK ⊢
 obtain⟨fn,flo,fhi⟩:=fs
 clear hfs
 have HN:=Lib.hid (X5 l m)
 have HLE:=Lib.hid (Vb l m)
 have H0:=zcV l m
 rw[← Vc]
 generalize JP l m=U at HN HLE H0 ⊢
 have H0':=Lib.hid H0
 clear H0
 have hL:=Loc.start w
 go_enter Tryz.func81,Tryz.ntmps81
 go_step
 go_step
 go_step
 ((with_reducible refine lbx hL ?_);clear hL;intro b3 w1 hL)
 ((with_reducible refine lbx hL ?_);clear hL;intro b4 w1 hL)
 ((with_reducible refine lal hL ?_);clear hL;intro b6 w1 hL)
 go_upto_region 1 with(first|(with_reducible first|refine lld hL ?_|((first|refine lbx hL ?_|refine lal hL ?_|refine lbs hL ?_);clear hL;intro bl w1 hL)|(refine zd hL ?_;clear hL;intro w1 hL)))
 simp only[Act.put,List.setIfInBounds_toArray,List.set_cons_zero,List.set_cons_succ]
 refine zf [9,10,11,12,13,14,15,16,17,18,19,20,21,22,23,24,25,26,27,28,29,30,31,32,33,7] ?_
 refine dv0 ?_
 refine dv1 0 ?_
 refine dv1 1 ?_
 refine dg0 2 ?_
 refine dg1 2 3 ?_
 refine dpo 2 4 ?_
 refine dv0 ?_
 refine dv1 6 ?_
 refine dv0 ?_
 refine dv1 8 ?_
 refine dv0 ?_
 apply zb
 ·intro g w hb V;replace hL:=hL.grow hb;have d7:=yv V 7;have d9:=yv V 9;have d10:=yv V 10;clear V;simp only[za,fLa,fLb,sTa,sTb];simp only[d7,d9,d10]
  go_wp2_with (go_at_call 119;((with_reducible refine(HK.out _).mono ?_);rintro e w3 ⟨rfl,hb3⟩;dsimp only))
  exact⟨rfl,_,rfl,hb3,rfl⟩
 simp only[apN,apC]
 refine dv0 ?_
 refine dv1 12 ?_
 refine dv1 13 ?_
 refine dg0 14 ?_
 refine dg1 14 15 ?_
 refine dpo 14 16 ?_
 refine dv0 ?_
 refine dv1 18 ?_
 refine dv1 19 ?_
 refine dg0 20 ?_
 refine dg1 20 21 ?_
 refine dpo 20 22 ?_
 refine dv4 5 11 17 23 ?_
 apply Qi
 ·intro g w hb V;replace hL:=hL.grow hb;clear V;simp only[za,fLa,fLb,sTa,sTb]
  go_wp2
  exact⟨rfl,_,rfl,(Below.refl _ _).alloc (Nat.le_refl _) _,_,hb.size,rfl,zI _ _⟩
 simp only[apN,apC]
 refine zO hL (by kernel_rfl) (by kernel_rfl) ?_
 intro g w2 hb hR;simp only[List.length_cons,List.length_nil,Nat.reduceAdd]at hR
 have e0:=yv hR 0
 have e1:=yv hR 1
 have e2:=yv hR 2
 have e3:=yv hR 3
 have e4:=yv hR 4
 have e5:=yv hR 5
 have e6:=yv hR 6
 have e7:=yv hR 7
 have e8:=yv hR 8
 have e9:=yv hR 9
 have e10:=yv hR 10
 have e11:=yv hR 11
 have e12:=yv hR 12
 have e13:=yv hR 13
 have e14:=yv hR 14
 have e15:=yv hR 15
 have e16:=yv hR 16
 have e17:=yv hR 17
 have e18:=yv hR 18
 have e19:=yv hR 19
 have e20:=yv hR 20
 have e21:=yv hR 21
 have e22:=yv hR 22
 have e23:=yv hR 23
 have e24:=yv hR 24
 obtain⟨b25,p25,e25,c25⟩:=Q1 (zA hR (j:=25) (by decide)) rfl rfl
 clear hR;simp only[za,fLa,fLb,sTa,sTb]
 simp only[e0,e1,e2,e3,e4,e5,e6,e7,e8,e9,e10,e11,e12,e13,e14,e15,e16,e17,e18,e19,e20,e21,e22,e23,e24,e25]
 clear e0 e1 e2 e3 e4 e5 e6 e7 e8 e9 e10 e11 e12 e13 e14 e15 e16 e17 e18 e19 e20 e21 e22 e23 e24 e25
 replace hL:=hL.gain hb p25 c25
 clear p25 c25
 clear hb
 simp only[beq_true,beq_false,Bool.not_and,Bool.not_or,Bool.not_not]
 generalize h_nl:(gl || hl')=nl
 have HNL:=Lib.hid h_nl
 clear h_nl
 generalize h_tr:(gt || ht)=tr
 have HTR:=Lib.hid h_tr
 clear h_tr
 generalize h_fa:(gf || hf)=fa
 have HFA:=Lib.hid h_fa
 clear h_fa
 go_wp2_with (first|(with_reducible first|refine lld hL ?_|((first|refine lbx hL ?_|refine lal hL ?_|refine lbs hL ?_);clear hL;intro bl w1 hL)|(refine zd hL ?_;clear hL;intro w1 hL)))
 go_loopw [8] (fun c wr=>∃ k:Nat,k≤60∧c=.int .i64 k∧∃ (p:Option Addr) (n cap:Nat) (R:List zj),zM 3 1 p n cap ((U k).map (Value.int .i64)) R∧Loc w wr ([(b25,108,[.bool nl,.bool fn,.int .i64 flo,.int .i64 fhi,.bool tr,.bool fa,.slice p n cap]),(b6,108,[.bool false,.bool false,.int .i64 0,.int .i64 0,.bool false,.bool false,.slice none 0 0]),(b4,108,[.bool hl',.bool hn,.int .i64 hlo,.int .i64 hhi,.bool ht,.bool hf,.slice hp hk hc]),(b3,108,[.bool gl,.bool gn,.int .i64 glo,.int .i64 ghi,.bool gt,.bool gf,.slice gp gk gc])]++R) []) (fun c _=>60 - (intOf c).toNat)
 case atStart=>exact⟨0,Nat.zero_le _,rfl,none,0,0,[],by rw[H0'.out];exact zM.nil,hL⟩
 case round=>
  obtain⟨k,hk,rfl,p,n,cap,R,hR,hL⟩:=hrel
  simp only[List.cons_append,List.nil_append]at hL
  rcases (show k=60∨k<60 by omega) with rfl|hlt
  ·go_wp2_with (first|(with_reducible first|refine lld hL ?_|((first|refine lbx hL ?_|refine lal hL ?_|refine lbs hL ?_);clear hL;intro bl w1 hL)|(refine zd hL ?_;clear hL;intro w1 hL)))
   (try simp only[Exit.inBlock,Exit.then]);refine rt1 ?_
   exact⟨⟨p,n,cap⟩,by rw[HNL.out,HTR.out,HFA.out],⟨R,hR,hL.ownOf (List.sublist_append_right [_,_,_,_] _)⟩,hL.below⟩
  ·have HR:=Lib.hid hR
   have hu:=HN.out k
   have HLK:=Lib.hid (show n≤60 by
    have h1:=HLE.out k
    have h2:=HR.out.1
    simp at h2
    omega)
   clear hR
   go_upto_region 5 with(first|(with_reducible first|refine lld hL ?_|((first|refine lbx hL ?_|refine lal hL ?_|refine lbs hL ?_);clear hL;intro bl w1 hL)|(refine zd hL ?_;clear hL;intro w1 hL)))
   generalize hA:j6 l (k:Int)=x at hu
   generalize hB:j6 m (k:Int)=y at hu
   have ha:=HA.out (k:Int)
   have hb:=HB.out (k:Int)
   rw[hA]at ha
   rw[hB]at hb
   have HA1:=Lib.hid ha
   have HB1:=Lib.hid hb
   have HU:=Lib.hid hu
   clear hA hB ha hb hu
   refine zJ [38,39,40,41,42,43,44,45,46,47] ?_
   refine dv0 ?_
   refine dv1 0 ?_
   refine dv0 ?_
   apply zb
   ·intro g w hb V;replace hL:=hL.grow hb;have d1:=yv V 1;have d2:=yv V 2;clear V;simp only[za,fLa,fLb,sTa,sTb];simp only[d1,d2]
    go_wp2_with (go_at_call 120;(with_reducible refine(HA1.out _ hL.below).mono ?_);rintro e w3 ⟨rfl,hb3⟩;dsimp only)
    exact⟨rfl,_,rfl,hb3,rfl⟩
   simp only[apN,apC]
   refine dv1 3 ?_
   refine dg0 4 ?_
   refine dg1 4 5 ?_
   refine dg0 4 ?_
   refine' zG (j:=4) rfl rfl rfl (by decide) (by simp) ?_ ?_;rotate_left
   ·intro hcs;simp only[Bool.and_eq_true,jp,jq]at hcs;intro g w hb V;replace hL:=hL.grow hb;have d6:=yv V 6;simp only[hcs,beq_self_eq_true,Bool.and_self,Bool.true_and,Bool.and_true,zr]at d6;have d7:=yv V 7;simp only[hcs,beq_self_eq_true,Bool.and_self,Bool.true_and,Bool.and_true,zr]at d7;clear V;simp only[za,fLa,fLb,sTa,sTb];simp only[d6,d7]
    go_wp2_with (go_at_call 120;(with_reducible refine(HB1.out _ hL.below).mono ?_);rintro e w3 ⟨rfl,hb3⟩;dsimp only)
    exact⟨rfl,_,rfl,hb3,rfl⟩
   simp only[apN,apC]
   refine dpo 4 8 ?_
   refine dns hL ?_
   clear hL;intro w2 hL;simp only[zV,sTa,sTb]
   simp only[beq_true,beq_false,Bool.not_and,Bool.not_or,Bool.not_not]
   generalize (x || y)=z at HU ⊢
   cases z with
   | true=>
    go_wp2_with (first|(at_builtin;refine zz (K:=_::_::_::_::_::[]) (R:=R) (news:=[.int .i64 (k:Int)]) HR.out hL rfl rfl rfl Qr Z8 (by decide) rfl ?_ rfl ?_ ?_ ?_ ?_;(case refine_1=>exact fun _=>⟨⟨bl,0,none⟩,rfl,fun j u hj=>by rw[zH,Nat.zero_add];exact(hL.cell (b:=bl) cIn j).trans hj⟩);(case refine_2=>simp[Value.oneCell']);(case refine_3=>(have:=HLK.out;show n+1≤9223372036854775807;omega));(case refine_4=>(have:=HLK.out;omega));clear hL;intro p4 cap4 R4 w4 hR4 hL;simp only[List.cons_append,List.nil_append]at hL;have HR4:=Lib.hid hR4;clear hR4)|(with_reducible first|refine lld hL ?_|((first|refine lbx hL ?_|refine lal hL ?_|refine lbs hL ?_);clear hL;intro bl w1 hL)|(refine zd hL ?_;clear hL;intro w1 hL)))
    go_roundw
    case rel=>exact⟨k+1,by omega,by go_num,p4,n+1,cap4,R4,by rw[HU.out,List.map_append];exact HR4.out,hL.drop (List.sublist_cons_self _ _) (fun _ h=>h)⟩
    case measure=>simp[intOf];omega
   | false=>
    have HX:=Lib.hid (HU.out.trans (List.append_nil _))
    clear HU
    go_wp2_with (first|(with_reducible first|refine lld hL ?_|((first|refine lbx hL ?_|refine lal hL ?_|refine lbs hL ?_);clear hL;intro bl w1 hL)|(refine zd hL ?_;clear hL;intro w1 hL)))
    go_roundw
    case rel=>exact⟨k+1,by omega,by go_num,p,n,cap,R,by rw[HX.out];exact HR.out,hL⟩
    case measure=>simp[intOf];omega
structure yV (g:Gu) (l:List Int):Prop where
 span:zm g.span=0
 n:g.s.n=l.length
 ins:inS l
 asc:ZL l
 le:l.length≤60
theorem zgE {l:List Int}(h1:inS l) (h2:ZL l):l.length≤60:=by
 have h3:=Yt (m:=[]) h1 (fun x hx=>by cases hx)
 rw[UG h2]at h3
 rw[h3,← Vc]
 exact Vb _ _ _
theorem yV.of {p:Pg}{is:Nat→Ins}{g:Gu}{l:List Int}(h:Jp p is g l=0) (hp:zl p is=0) (hn:g.s.n=l.length):yV g l:=by
 unfold Jp at h
 by_cases h1:zm g.span=0
 ·rw[if_neg (by omega)]at h
  by_cases h2:yw p is l=true
  ·rw[if_pos h2]at h;omega
  ·rw[if_neg h2]at h
   by_cases h3:Yd l=true
   ·rw[if_pos h3]at h;omega
   ·have ha:ZL l:=zcq (by simpa using h3)
    have hi:inS l:=by
     intro x hx
     obtain⟨k,hk,he⟩:=List.mem_iff_getElem.1 hx
     have h4:(!jc p is (l.getD k 0))=false:=by
      cases h5:(!jc p is (l.getD k 0)) with
      | false=>rfl
      | true=>exact absurd (qY (q:=fun k=>!jc p is (l.getD k 0)) hk h5) h2
     rw[List.getD_eq_getElem?_getD,List.getElem?_eq_getElem hk]at h4
     simp only[Option.getD_some,he]at h4
     have hpn:p.n≤60:=by
      unfold zl at hp
      split at hp
      ·omega
      ·split at hp
       ·omega
       ·omega
     simp[jc]at h4
     omega
    exact⟨h1,hn,hi,ha,zgE hi ha⟩
 ·rw[if_pos h1]at h
  exact absurd h h1
theorem Xs {s:zq}(h:zm s=0):both s zC=s:=by
 obtain⟨_,_,h3⟩:=zu h
 obtain⟨n,lo,hi⟩:=s
 cases n with
 | true=>
  obtain⟨rfl,rfl⟩:=h3 rfl
  rfl
 | false=>rfl
theorem zbc (l m:List Int) (h:l=[]):JO l m=false:=by
 subst h
 rfl
theorem Ve (g:Gu):KC g=true↔(g.s.n=0∧KB g.null (!g.span.none) g.tr g.fa=1∧g.span.lo=g.span.hi):=by
 have h0:0≤KB g.null g.tr g.fa (!g.span.none):=by
  unfold KB K0
  cases g.null<;>cases g.tr<;>cases g.fa<;>cases g.span.none<;>decide
 have h1:KB g.null (!g.span.none) g.tr g.fa=KB g.null g.tr g.fa (!g.span.none):=by
  unfold KB
  omega
 rw[h1]
 simp only[KC,Bool.and_eq_true,beq_iff_eq]
 omega
theorem Vf (g:Gu) (h:KC g=false):ye g=-1:=by
 have h1:=Ve g
 rw[h]at h1
 unfold ye
 have:(KB g.null (!g.span.none) g.tr g.fa != 1 || decide (0<g.s.n) || g.span.lo != g.span.hi)=true:=by
  simp only[Bool.or_eq_true,bne_iff_ne,decide_eq_true_eq,ne_eq]
  have h2:¬ (g.s.n=0∧KB g.null (!g.span.none) g.tr g.fa=1∧g.span.lo=g.span.hi):=fun hh=>by
   have:=h1.2 hh
   cases this
  omega
 rw[this]
 rfl
theorem Vg (g:Gu) (h:KC g=true):ye g=Qq (jd g.null (!g.span.none) g.tr g.fa) 4∧KB g.null (!g.span.none) g.tr g.fa=1∧g.s.n=0∧g.span.lo=g.span.hi:=by
 obtain⟨h1,h2,h3⟩:=(Ve g).1 h
 refine⟨?_,h2,h1,h3⟩
 unfold ye
 rw[h2,h1,h3]
 simp
theorem KV {a b c d:Bool}(h:KB a b c d=1):(a=true∧b=false∧c=false∧d=false∧Qq (jd a b c d) 4=0)∨(a=false∧b=true∧c=false∧d=false∧Qq (jd a b c d) 4=1)∨(a=false∧b=false∧c=true∧d=false∧Qq (jd a b c d) 4=2)∨(a=false∧b=false∧c=false∧d=true∧Qq (jd a b c d) 4=3):=by
 cases a<;>cases b<;>cases c<;>cases d<;>first|(exact absurd h (by decide))|(simp[Qq,jd])
theorem zfm {g h:Gu}{l m:List Int}(hg:yV g l) (hh:yV h m):Zt g h l m=ZT g h:=by
 unfold Zt ZT
 cases h1:KC g with
 | false=>simp[Vf g h1]
 | true=>
  obtain⟨s1,c1,n1,e1⟩:=Vg g h1
  cases h2:KC h with
  | false=>
   have:ye h=-1:=Vf h h2
   rcases KV c1 with⟨_,_,_,_,hw⟩|⟨_,_,_,_,hw⟩|⟨_,_,_,_,hw⟩|⟨_,_,_,_,hw⟩<;>simp[this,s1,hw]
  | true=>
   obtain⟨s2,c2,n2,e2⟩:=Vg h h2
   have hl:l=[]:=List.eq_nil_of_length_eq_zero (by rw[← hg.n];exact n1)
   rw[s1,s2]
   unfold yU
   rw[zbc l m hl]
   obtain⟨_,_,z1⟩:=zu hg.span
   obtain⟨_,_,z2⟩:=zu hh.span
   obtain⟨gl,⟨gn,glo,ghi⟩,gt,gf,gs⟩:=g
   obtain⟨hl',⟨hn,hlo,hhi⟩,ht,hf,hs⟩:=h
   dsimp only at *
   subst e1 e2
   rcases KV c1 with⟨a1,a2,a3,a4,hw⟩|⟨a1,a2,a3,a4,hw⟩|⟨a1,a2,a3,a4,hw⟩|⟨a1,a2,a3,a4,hw⟩<;>
   rcases KV c2 with⟨b1,b2,b3,b4,hv⟩|⟨b1,b2,b3,b4,hv⟩|⟨b1,b2,b3,b4,hv⟩|⟨b1,b2,b3,b4,hv⟩<;>
   (rw[hw,hv];simp only[Bool.not_eq_false',Bool.not_eq_true']at a2 b2;subst a1 a2 a3 a4 b1 b2 b3 b4;simp at z1 z2;simp[ji,z1,z2])
   by_cases he:glo=hlo
   ·subst he;simp
   ·have h7:min glo hlo<max glo hlo:=by omega
    rw[if_pos h7]
    simp[he]
abbrev zT:Gu:=⟨false,GD,false,false,zn⟩
abbrev zy:Res:=⟨false,GD,false,false,[]⟩
theorem Xt {k:Int}{g h:Gu}{l m:List Int}(hz:(qj g || (!(k==10 || k==4)&&qj h))=true):qK k g h l m=(zgD,false):=if_pos hz
theorem zca {k:Int}{g h:Gu}(hz:¬ (qj g || (!(k==10 || k==4)&&qj h))=true):qj g=false∧(k≠10→k≠4→qj h=false):=by
 cases h1:qj g<;>cases h2:qj h<;>simp_all
theorem kinds {k:Int}(hk:z6 k 4 10=true):k=4∨k=10∨k=9∨k=8∨(k=5∨k=6∨k=7):=by
 simp[z6]at hk
 omega
theorem zea (k:Int) (g h:Gu) (l m:List Int) (w:World) (hk:z6 k 4 10=true) (hg:yV g l) (hh:yV h m) (hl:zp w g.s l) (hm:zp w h.s m):
  Calls Tryz.prog 165 #[.int .i64 k,g.v,h.v] w fun e w'=>∃ r:Sl,e=.returned (.tuple #[((qK k g h l m).1.gu r).v,.bool (qK k g h l m).2])∧Q7 w.heap.size w' r (qK k g h l m).1.l∧Below w.heap.size w w':=by
 have n1:=hg.le
 have n2:=hh.le
 by_cases hz:(qj g || (!(k==10 || k==4)&&qj h))=true
 ·rw[Xt hz]
  exact(zd4 k g h hz w).mono fun e w' ⟨h1,h2⟩=>⟨zn,h1,Q7.nil,h2⟩
 ·obtain⟨z1,z2⟩:=zca hz
  rcases kinds hk with rfl|rfl|rfl|rfl|hk3
  ·rw[show qK 4 g h l m=_ from (if_neg hz).trans (if_pos rfl)]
   exact zcR g h l w hl (by omega) z1
  ·rw[show qK 10 g h l m=_ from (if_neg hz).trans ((if_neg (by decide)).trans (if_pos rfl))]
   exact(zd5 g h w z1).mono fun e w' ⟨h1,h2⟩=>⟨zn,h1,Q7.nil,h2⟩
  ·rw[show qK 9 g h l m=_ from (if_neg hz).trans ((if_neg (by decide)).trans ((if_neg (by decide)).trans (if_pos rfl)))]
   exact(zcS g h l m w hl hm (by omega) (by omega) z1 (z2 (by decide) (by decide))).mono fun e w' ⟨h1,h2⟩=>⟨zn,h1,Q7.nil,h2⟩
  ·rw[show qK 8 g h l m=_ from (if_neg hz).trans ((if_neg (by decide)).trans ((if_neg (by decide)).trans (if_neg (by decide))))]
   exact(GZ 8 (by decide) g h (zu hg.span).1 (zu hh.span).1 w z1 (z2 (by decide) (by decide))).mono fun e w' ⟨h1,h2⟩=>⟨zn,by rw[h1,Gu.res,← X3 8 g h],Q7.nil,h2⟩
  ·rw[show qK k g h l m=_ from (if_neg hz).trans ((if_neg (by omega)).trans ((if_neg (by omega)).trans (if_neg (by omega))))]
   exact(GZ k (by omega) g h (zu hg.span).1 (zu hh.span).1 w z1 (z2 (by omega) (by omega))).mono fun e w' ⟨h1,h2⟩=>⟨zn,by rw[h1,Gu.res,← X3 k g h],Q7.nil,h2⟩
theorem X6 (k:Int) (g h:Gu) (l m:List Int) (w:World) (hk:z6 k 4 10=true) (hg:yV g l) (hh:yV h m) (hl:zp w g.s l) (hm:zp w h.s m):
  Calls Tryz.prog 82 #[.int .i64 k,g.v,h.v] w fun e w'=>∃ r:Sl,e=.returned (.tuple #[((qK k g h l m).1.gu r).v,.bool (qK k g h l m).2])∧(r=g.s∧(qK k g h l m).1.l=l∨r=zn∧(qK k g h l m).1.l=[])∧Below w.heap.size w w':=by
 have n1:=hg.le
 have n2:=hh.le
 by_cases hz:(qj g || (!(k==10 || k==4)&&qj h))=true
 ·rw[Xt hz]
  exact(zfk k g h hz w).mono fun e w' ⟨h1,h2⟩=>⟨zn,h1,.inr ⟨rfl,rfl⟩,h2⟩
 ·obtain⟨z1,z2⟩:=zca hz
  rcases kinds hk with rfl|rfl|rfl|rfl|hk3
  ·rw[show qK 4 g h l m=_ from (if_neg hz).trans (if_pos rfl),Xs hg.span,UG hg.asc]
   exact(zd6 g h w z1).mono fun e w' ⟨h1,h2⟩=>⟨g.s,h1,.inl ⟨rfl,rfl⟩,h2⟩
  ·rw[show qK 10 g h l m=_ from (if_neg hz).trans ((if_neg (by decide)).trans (if_pos rfl))]
   exact(zfl g h w z1).mono fun e w' ⟨h1,h2⟩=>⟨zn,h1,.inr ⟨rfl,rfl⟩,h2⟩
  ·rw[show qK 9 g h l m=_ from (if_neg hz).trans ((if_neg (by decide)).trans ((if_neg (by decide)).trans (if_pos rfl)))]
   exact(zd9 g h l m w hl hm z1 (z2 (by decide) (by decide))).mono fun e w' ⟨h1,h2⟩=>⟨zn,by rw[h1,zfm hg hh],.inr ⟨rfl,rfl⟩,h2⟩
  ·rw[show qK 8 g h l m=_ from (if_neg hz).trans ((if_neg (by decide)).trans ((if_neg (by decide)).trans (if_neg (by decide))))]
   exact(zd8 g h w z1 (z2 (by decide) (by decide))).mono fun e w' ⟨h1,h2⟩=>⟨zn,by rw[h1,Gu.res,← X3 8 g h],.inr ⟨rfl,rfl⟩,h2⟩
  ·rw[show qK k g h l m=_ from (if_neg hz).trans ((if_neg (by omega)).trans ((if_neg (by omega)).trans (if_neg (by omega))))]
   exact(zd7 k hk3 g h hg.span hh.span w z1 (z2 (by omega) (by omega))).mono fun e w' ⟨h1,h2⟩=>⟨zn,by rw[h1,Gu.res,← X3 k g h],.inr ⟨rfl,rfl⟩,h2⟩
def jI:List Int→Int
 | []=>0
 | e::l=>if e=0 then jI l else e
theorem VY (l m:List Int):jI (l++m)=if jI l=0 then jI m else jI l:=by
 induction l with
 | nil=>simp[jI]
 | cons e l ih=>
  by_cases h:e=0
  ·simp[jI,h,ih]
  ·simp[jI,h]
theorem G1 {α:Type}(f:α→Int) (ls:List (List α)):jI (ls.map fun l=>jI (l.map f))=jI (ls.flatten.map f):=by
 induction ls with
 | nil=>rfl
 | cons l ls ih=>
  rw[List.flatten_cons,List.map_append,VY,List.map_cons,← ih]
  rfl
theorem QC {α:Type}(l:List α) (k:Nat) (d:α) (h:k<l.length):l.take (k+1)=l.take k++[l.getD k d]:=by
 rw[List.take_add_one,List.getElem?_eq_getElem h,List.getD_eq_getElem?_getD,List.getElem?_eq_getElem h]
 rfl
structure jW (w:World) (s:Sl) (ds:List Res):Prop where
 n:s.n=ds.length
 m:s.n≤9223372036854775807
 ex:∃ ss:Nat→Sl,je w 7 s.p s.n (fun k=>((ds.getD k zy).gu (ss k)).cells)∧∀ k,k<s.n→zp w (ss k) (ds.getD k zy).l
theorem jW.grow {w w' : World}{s:Sl}{ds:List Res}(h:jW w s ds) (hb:Below w.heap.size w w'):jW w' s ds:=by
 obtain⟨h1,h2,ss,h3,h4⟩:=h
 exact⟨h1,h2,ss,h3.grow hb,fun k hk=>(h4 k hk).grow hb⟩
theorem jW.zero (w:World) (x:Option Addr) (z:Nat):jW w ⟨x,0,z⟩ []:=
 ⟨rfl,Nat.zero_le _,fun _=>zn,⟨0,0,fun h=>absurd h (Nat.lt_irrefl 0),fun k hk=>absurd hk (Nat.not_lt_zero k)⟩,fun k hk=>absurd hk (Nat.not_lt_zero k)⟩
structure QT (w:World) (s:Sl) (dss:List (List Res)):Prop where
 n:s.n=dss.length
 m:s.n≤9223372036854775807
 ex:∃ rs:Nat→Sl,je w 1 s.p s.n (fun k=>[.slice (rs k).p (rs k).n (rs k).cap])∧∀ k,k<s.n→jW w (rs k) (dss.getD k [])
theorem QT.grow {w w' : World}{s:Sl}{dss:List (List Res)}(h:QT w s dss) (hb:Below w.heap.size w w'):QT w' s dss:=by
 obtain⟨h1,h2,rs,h3,h4⟩:=h
 exact⟨h1,h2,rs,h3.grow hb,fun k hk=>(h4 k hk).grow hb⟩
theorem QT.zero (w:World) (x:Option Addr) (z:Nat):QT w ⟨x,0,z⟩ []:=
 ⟨rfl,Nat.zero_le _,fun _=>zn,⟨0,0,fun h=>absurd h (Nat.lt_irrefl 0),fun k hk=>absurd hk (Nat.not_lt_zero k)⟩,fun k hk=>absurd hk (Nat.not_lt_zero k)⟩
structure Pv where
 none:Bool
 vars:Sl
 fields:Sl
abbrev Pv.cells (x:Pv):List Value:=[.bool x.none,.slice x.vars.p x.vars.n x.vars.cap,.slice x.fields.p x.fields.n x.fields.cap]
abbrev Pv.v (x:Pv):Value:=.agg #[.bool x.none,.slice x.vars.p x.vars.n x.vars.cap,.slice x.fields.p x.fields.n x.fields.cap]
abbrev zfM:Pv:=⟨false,zn,zn⟩
structure Pd where
 none:Bool
 vars:List Res
 fields:List (List Res)
abbrev zQ:Pd:=⟨true,[],[]⟩
abbrev QU:Pd:=⟨false,[],[]⟩
abbrev Pd.var (d:Pd) (k:Nat):Res:=d.vars.getD k zy
abbrev Pd.row (d:Pd) (k:Nat):List Res:=d.fields.getD k []
abbrev Pd.field (d:Pd) (k j:Nat):Res:=(d.fields.getD k []).getD j zy
structure zN (w:World) (x:Pv) (d:Pd):Prop where
 e:x.none=d.none
 vars:jW w x.vars d.vars
 fields:QT w x.fields d.fields
 m:x.vars.n+x.fields.n≤9223372036854775807
theorem zN.grow {w w' : World}{x:Pv}{d:Pd}(h:zN w x d) (hb:Below w.heap.size w w'):zN w' x d:=⟨h.e,h.vars.grow hb,h.fields.grow hb,h.m⟩
theorem zN.zero (w:World):zN w zfM QU:=⟨rfl,jW.zero w _ _,QT.zero w _ _,Nat.zero_le _⟩
def qP (d:Res):Bool:=!d.null&&d.span.none && !d.tr && !d.fa&&(d.l.length:Int)==0
theorem Za {d:Res}{s:Sl}(h:s.n=d.l.length):qj (d.gu s)=qP d:=by
 show (!d.null&&d.span.none && !d.tr && !d.fa&&(s.n:Int)==0)=_
 rw[h];rfl
abbrev jX (p:Pg) (is:Nat→Ins) (d:Res):Int:=Jp p is (d.gu zn) d.l
def zg6 (p:Pg) (is:Nat→Ins) (ds:List Res):Int:=jI (ds.map (jX p is))
def YK (p:Pg) (is:Nat→Ins) (dss:List (List Res)):Int:=jI (dss.map (zg6 p is))
theorem Jq (p:Pg) (is:Nat→Ins) (dss:List (List Res)):YK p is dss=jI (dss.flatten.map (jX p is)):=G1 _ _
def YL (ds:List Res):Bool:=j7 (fun k=>!qP (ds.getD k zy)) ds.length
def ZU (p:Pg) (is:Nat→Ins) (dss:List (List Res)):Bool:=j7 (fun i=>!jc p is i&&YL (dss.getD i [])) dss.length
def ZF (p:Pg) (d:Pd):Bool:=(d.vars.length:Int) != p.vars || (d.fields.length:Int) != p.n || j7 (fun i=>((d.row i).length:Int) != p.fields) d.fields.length
def qd (p:Pg) (is:Nat→Ins) (d:Pd):Int:=
 if d.none=true then (if 0<d.vars.length+d.fields.length then 1 else 0)
 else if ZF p d=true then 1
 else if YK p is (d.vars::d.fields)≠0 then YK p is (d.vars::d.fields)
 else if ZU p is d.fields=true then 4 else 0
theorem jl (g:Gu):(Gu.cells g).length=7:=rfl
theorem zgF {l:List Gu}:∀ u∈l.flatMap Gu.cells,u.oneCell'=true:=by
 intro u hu
 obtain⟨x,_,hx⟩:=List.mem_flatMap.1 hu
 simp only[Gu.cells,List.mem_cons,List.not_mem_nil,or_false]at hx
 rcases hx with rfl|rfl|rfl|rfl|rfl|rfl|rfl<;>rfl
structure qq (w:World) (g:Gu) (d:Res):Prop where
 e:g=d.gu g.s
 l:zp w g.s d.l
theorem qq.mk' {w:World}{s:Sl}{d:Res}(h:zp w s d.l):qq w (d.gu s) d:=⟨rfl,h⟩
theorem qq.grow {w w' : World}{g:Gu}{d:Res}(h:qq w g d) (hb:Below w.heap.size w w'):qq w' g d:=⟨h.e,h.l.grow hb⟩
structure zX (w:World) (gl:List Gu) (ds:List Res):Prop where
 len:gl.length=ds.length
 at' : ∀ k,k<ds.length→qq w (gl.getD k zT) (ds.getD k zy)
theorem zX.grow {w w' : World}{gl:List Gu}{ds:List Res}(h:zX w gl ds) (hb:Below w.heap.size w w'):zX w' gl ds:=⟨h.len,fun k hk=>(h.at' k hk).grow hb⟩
theorem zX.nil (w:World):zX w [] []:=⟨rfl,fun k hk=>absurd hk (Nat.not_lt_zero k)⟩
theorem Jd {α:Type}{l m:List α}{d:α}{k:Nat}(h:k<l.length):(l++m).getD k d=l.getD k d:=by
 simp[List.getD_eq_getElem?_getD,List.getElem?_append_left h]
theorem y4 {α:Type}{l m:List α}{d:α}{k:Nat}(h:l.length≤k):(l++m).getD k d=m.getD (k - l.length) d:=by
 simp[List.getD_eq_getElem?_getD,List.getElem?_append_right h]
theorem zX.append {w:World}{gl gm:List Gu}{ds es:List Res}(h:zX w gl ds) (h' : zX w gm es):zX w (gl++gm) (ds++es):=by
 refine⟨by rw[List.length_append,List.length_append,h.len,h'.len],fun k hk=>?_⟩
 rw[List.length_append]at hk
 rcases Nat.lt_or_ge k ds.length with h1|h1
 ·rw[Jd (by rw[h.len];exact h1),Jd h1]
  exact h.at' k h1
 ·rw[y4 (by rw[h.len];exact h1),y4 h1,h.len]
  exact h'.at' _ (by omega)
theorem zX.one {w:World}{g:Gu}{d:Res}(h:qq w g d):zX w [g] [d]:=by
 refine⟨rfl,fun k hk=>?_⟩
 obtain rfl:k=0:=by simpa using hk
 exact h
theorem jW.gus {w:World}{s:Sl}{ds:List Res}(h:jW w s ds):∃ gl,zX w gl ds∧je w 7 s.p s.n (fun k=>Gu.cells (gl.getD k zT)):=by
 obtain⟨ss,h1,h2⟩:=h.ex
 have hg:∀ k,k<s.n→((List.range s.n).map fun k=>(ds.getD k zy).gu (ss k)).getD k zT=(ds.getD k zy).gu (ss k):=fun k hk=>Qu _ _ _ _ hk
 refine⟨(List.range s.n).map fun k=>(ds.getD k zy).gu (ss k),⟨by simp[h.n],fun k hk=>?_⟩,h1.congr fun k hk=>by rw[hg k hk]⟩
 rw[hg k (by rw[h.n];exact hk)]
 exact qq.mk' (h2 k (by rw[h.n];exact hk))
theorem zX.row {w:World}{B:Nat}{p:Option Addr}{n cap:Nat}{gl:List Gu}{ds:List Res}{R:List zj}(h:zX w gl ds) (hr:zM 108 7 p n cap (gl.flatMap Gu.cells) R) (ho:Own B w R):jW w ⟨p,n,cap⟩ ds:=by
 obtain⟨h1,h2⟩:=hr.listC jl zT (by decide) ho
 refine⟨h1.trans h.len,hr.max,fun k=>(gl.getD k zT).s,h2.congr fun k hk=>?_,fun k hk=>(h.at' k (by rw[← h.len,← h1];exact hk)).l⟩
 rw[← (h.at' k (by rw[← h.len,← h1];exact hk)).e]
end Go.Proofs.YtplcndmdkabmeaaGreatDoor
