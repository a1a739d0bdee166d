import Derived.Test.YtplcndmdkabmeaaGreatDoorGua
import Derived.Test.YtplcndmdkabmeaaGreatDoorVal
import Derived.Test.YtplcndmdkabmeaaGreatDoorSpn
import Derived.Test.YtplcndmdkabmeaaGreatDoorShz
import Derived.Test.YtplcndmdkabmeaaGreatDoorCod
set_option linter.unusedSimpArgs false
set_option linter.unusedVariables false
set_option maxRecDepth 100000
set_option maxHeartbeats 4000000
namespace Go.Proofs.YtplcndmdkabmeaaGreatDoor
open Go.RowKit
theorem indexInts (s:Sl) (l:List Int) (q:Nat→Bool) (K:FuncId) (c:Value) (w:World) (hl:IntsAt w s l) (hf:FnAt Tryz.prog K c w l.length (fun k=>.int .i64 (l.getD k 0)) q):
  Calls Tryz.prog 227 #[s.v,.func (.func K) #[] #[c]] w fun e w'=>∃ r:Int,e=.returned (.int .i64 r)∧decide (0≤r)=anyN q l.length∧Below w.heap.size w w':=by
 obtain⟨b,o,hp,hc⟩:=hl.reads tInt
 have hn:=hl.n
 have hm:=hl.m
 obtain⟨p,n,cap⟩:=s
 dsimp only at hp hc hn hm
 subst hn
 dsimp only[Sl.v]
 have HP:=Lib.hid hp
 have HC:=Lib.hid hc
 have HF:=Lib.hid hf.run
 have he:=hf.enter
 clear hp hc hl hf
 have hL:=Loc.start w
 go_enter Tryz.func227,Tryz.ntmps227
 go_wp2
 go_loopw [8] (fun x wr=>∃ k:Nat,k≤l.length∧x=.int .i64 k∧(∀ j,j<k→q j=false)∧Loc w wr [] []) (fun x _=>l.length - (intOf x).toNat)
 case atStart=>exact⟨0,Nat.zero_le _,rfl,fun j hj=>absurd hj (by omega),hL⟩
 case round=>
  clear hL
  obtain⟨k,hk,rfl,hq,hL⟩:=hrel
  have HQ:=Lib.hid hq
  clear hq
  by_cases hlt:k<l.length
  ·have HPC:=Lib.hid (HP.out (by omega))
   have hr:=HC.out k hlt
   have hk1:=HF.out k hlt
   generalize l.getD k 0=x at hr hk1
   have HR:=Lib.hid hr
   cases hqk:q k with
   | true=>
    rw[hqk]at hk1
    have HK2:=Lib.hid hk1
    have HA:=Lib.hid (anyN_yes hlt hqk)
    clear hk1 hqk hr
    go_upto_region 4 with(fail)
    refine seq_begin [11,12,13,14,15,16] ?_
    refine dv0 ?_
    refine dv0 ?_
    refine dv0 ?_
    apply draw_val
    ·intro g w hb V;replace hL:=hL.grow hb;have d1:=yv V 1;have d2:=yv V 2;clear V;simp only[fillD,fLa,fLb,sTa,sTb];simp only[d1,d2]
     (simp only[HPC.out];go_wp2)
     exact cY
    simp only[apN,apC]
    apply draw_val
    ·intro g w hb V;replace hL:=hL.grow hb;have d3:=yv V 3;clear V;simp only[fillD,fLa,fLb,sTa,sTb];simp only[d3]
     refine loc_loadB HR.out hL rfl rfl ?_
     exact cY
    simp only[apN,apC]
    apply draw_val
    ·intro g w hb V;replace hL:=hL.grow hb;have d0:=yv V 0;have d4:=yv V 4;clear V;simp only[fillD,fLa,fLb,sTa,sTb];simp only[d0,d4]
     go_wp2_with ((with_reducible refine(HK2.out _ hL.below).mono ?_);rintro e w3 ⟨rfl,hb3⟩;dsimp only)
     exact⟨rfl,_,rfl,hb3,rfl⟩
    simp only[apN,apC]
    refine dns hL ?_
    clear hL;intro w2 hL;simp only[fillX,sTa,sTb]
    go_wp2
    go_ret
    exact⟨_,rfl,by rw[HA.out];simp,hL.below⟩
   | false=>
    rw[hqk]at hk1
    have HK2:=Lib.hid hk1
    have HA:=Lib.hid hqk
    clear hk1 hqk hr
    go_upto_region 4 with(fail)
    refine seq_begin [11,12,13,14,15,16] ?_
    refine dv0 ?_
    refine dv0 ?_
    refine dv0 ?_
    apply draw_val
    ·intro g w hb V;replace hL:=hL.grow hb;have d1:=yv V 1;have d2:=yv V 2;clear V;simp only[fillD,fLa,fLb,sTa,sTb];simp only[d1,d2]
     (simp only[HPC.out];go_wp2)
     exact cY
    simp only[apN,apC]
    apply draw_val
    ·intro g w hb V;replace hL:=hL.grow hb;have d3:=yv V 3;clear V;simp only[fillD,fLa,fLb,sTa,sTb];simp only[d3]
     refine loc_loadB HR.out hL rfl rfl ?_
     exact cY
    simp only[apN,apC]
    apply draw_val
    ·intro g w hb V;replace hL:=hL.grow hb;have d0:=yv V 0;have d4:=yv V 4;clear V;simp only[fillD,fLa,fLb,sTa,sTb];simp only[d0,d4]
     go_wp2_with ((with_reducible refine(HK2.out _ hL.below).mono ?_);rintro e w3 ⟨rfl,hb3⟩;dsimp only)
     exact⟨rfl,_,rfl,hb3,rfl⟩
    simp only[apN,apC]
    refine dns hL ?_
    clear hL;intro w2 hL;simp only[fillX,sTa,sTb]
    go_wp2
    go_roundw
    case rel=>
     refine⟨k+1,by omega,by go_num,fun j hj=>?_,hL⟩
     rcases Nat.lt_or_ge j k with h|h
     ·exact HQ.out j h
     ·obtain rfl:j=k:=by omega
      exact HA.out
    case measure=>simp[intOf];omega
  ·obtain rfl:k=l.length:=by omega
   go_wp2
   go_ret
   exact⟨_,rfl,by rw[anyN_no HQ.out];rfl,hL.below⟩
theorem containsInts (s:Sl) (l:List Int) (q:Nat→Bool) (K:FuncId) (c:Value) (w:World) (hl:IntsAt w s l) (hf:FnAt Tryz.prog K c w l.length (fun k=>.int .i64 (l.getD k 0)) q):
  Calls Tryz.prog 186 #[s.v,.func (.func K) #[] #[c]] w fun e w'=>e=.returned (.bool (anyN q l.length))∧Below w.heap.size w w':=by
 have HI:=Lib.hid (indexInts s l q K c w hl hf)
 clear hl hf
 go_enter Tryz.func186,Tryz.ntmps186
 go_wp2_with (go_at_call 227;refine HI.out.mono ?_;rintro e w1 ⟨r,rfl,hr,hb⟩;dsimp only)
 go_ret
 exact⟨by rw[← hr];rfl,hb⟩
theorem Loc.readsG {P:Program}{w0 w:World}{L:List LBlk}{D:List Datum}{b:Nat}{T Tv:TypeId}{cs:List Value}{f:List Value→List LBlk}{off:Nat}{v:Value}(hL:Loc w0 w L D) (hm:InL b T cs L f) (hv:Reads P Tv cs off v):ReadsAt P Tv w b off v:=
 ⟨heap_lt (hL.heap hm),fun w' h=>hv.run w' b (fun j=>(h j).trans (hL.cell hm j))⟩
theorem enterI:∀ args w,(callFunc 189 args).run Tryz.prog w=.ok (.enter 189 args) w:=fun args w=>by kernel_rfl
theorem enterS:∀ args w,(callFunc 232 args).run Tryz.prog w=.ok (.enter 232 args) w:=fun args w=>by kernel_rfl
theorem inside1_any (t:Sl) (m:List Int) (x:Int) (b:Nat) (w:World) (hr:ReadsAt Tryz.prog 37 w b 6 t.v) (hm:IntsAt w t m):
  Calls Tryz.prog 189 #[.int .i64 x,.pointer (some ⟨b,0,none⟩)] w fun e w'=>e=.returned (.bool (!hasI m x))∧Below w.heap.size w w':=by
 have HC:=Lib.hid hm
 clear hm
 have hL:=Loc.start w
 go_enter Tryz.func189,Tryz.ntmps189
 go_wp2_with (first|(with_reducible first|refine lld hL ?_|((first|refine lbx hL ?_|refine lal hL ?_|refine lbs hL ?_);clear hL;intro bl w1 hL)|(refine lst' hL ?_;clear hL;intro w1 hL))|(refine loc_loadB hr hL rfl rfl ?_)|(go_at_call 183;refine(containsI_any t m x _ (HC.out.grow hL.below)).mono ?_;rintro e w1 ⟨rfl,hb⟩;replace hL:=hL.grow hb;clear hb;dsimp only))
 (try simp only[Exit.inBlock,Exit.then]);refine rt1 ?_
 exact⟨rfl,hL.below⟩
theorem same1_any (t:Sl) (m:List Int) (x:Int) (b:Nat) (w:World) (hr:ReadsAt Tryz.prog 37 w b 6 t.v) (hm:IntsAt w t m):
  Calls Tryz.prog 232 #[.int .i64 x,.pointer (some ⟨b,0,none⟩)] w fun e w'=>e=.returned (.bool (hasI m x))∧Below w.heap.size w w':=by
 have HC:=Lib.hid hm
 clear hm
 have hL:=Loc.start w
 go_enter Tryz.func232,Tryz.ntmps232
 go_wp2_with (first|(with_reducible first|refine lld hL ?_|((first|refine lbx hL ?_|refine lal hL ?_|refine lbs hL ?_);clear hL;intro bl w1 hL)|(refine lst' hL ?_;clear hL;intro w1 hL))|(refine loc_loadB hr hL rfl rfl ?_)|(go_at_call 183;refine(containsI_any t m x _ (HC.out.grow hL.below)).mono ?_;rintro e w1 ⟨rfl,hb⟩;replace hL:=hL.grow hb;clear hb;dsimp only))
 (try simp only[Exit.inBlock,Exit.then]);refine rt1 ?_
 exact⟨rfl,hL.below⟩
def held (g:Gu) (l:List Int) (v:Vl) (site:Int):Bool:=if v.kind=1 then inSpan g.span v.n else if v.kind=2 then (v.n==1&&g.tr || v.n==0&&g.fa) else if v.kind=3 then hasI l site else g.null
def lostI (l m:List Int):Bool:=anyN (fun k=>!hasI m (l.getD k 0)) l.length
def insideG (g h:Gu) (l m:List Int):Bool:=(!g.null || h.null)&&(!g.tr || h.tr)&&(!g.fa || h.fa)&&inside g.span h.span && !lostI l m
theorem ginside_any (g h:Gu) (l m:List Int) (w:World) (hl:IntsAt w g.s l) (hm:IntsAt w h.s m):
  Calls Tryz.prog 150 #[g.v,h.v] w fun e w'=>e=.returned (.bool (insideG g h l m))∧Below w.heap.size w w':=by
 obtain⟨gl,⟨gn,glo,ghi⟩,gt,gf,gs⟩:=g
 obtain⟨hl',⟨hn,hlo,hhi⟩,ht,hf,hs⟩:=h
 dsimp only at hl hm
 have HS:=Lib.hid (fun w'=>inside_any ⟨gn,glo,ghi⟩ ⟨hn,hlo,hhi⟩ w')
 have HL:=Lib.hid hl
 have HM:=Lib.hid hm
 clear hl hm
 have hL:=Loc.start w
 go_enter Tryz.func150,Tryz.ntmps150
 go_step
 go_step
 go_step
 ((with_reducible refine lbx hL ?_);clear hL;intro b2 w1 hL)
 ((with_reducible refine lbx hL ?_);clear hL;intro b3 w1 hL)
 go_upto_region 1 with(first|(with_reducible first|refine lld hL ?_|((first|refine lbx hL ?_|refine lal hL ?_|refine lbs hL ?_);clear hL;intro bl w1 hL)|(refine lst' hL ?_;clear hL;intro w1 hL)))
 have hcl:=containsInts gs l (fun k=>!hasI m (l.getD k 0)) 189 (.pointer (some ⟨b3,0,none⟩)) _ (HL.out.grow hL.below) ⟨enterI,fun k _ w2 hb2=>inside1_any hs m (l.getD k 0) b3 w2 ((hL.readsG (b:=b3) (Tv:=37) (off:=6) (v:=hs.v) cIn (Reads.cell tInts rfl)).grow hb2) ((HM.out.grow hL.below).grow hb2)⟩
 rw[show anyN (fun k=>!hasI m (l.getD k 0)) l.length=lostI l m from rfl]at hcl
 have HF:=Lib.hid (show insideG ⟨gl,⟨gn,glo,ghi⟩,gt,gf,gs⟩ ⟨hl',⟨hn,hlo,hhi⟩,ht,hf,hs⟩ l m=((!gl || hl')&&(!gt || ht)&&(!gf || hf)&&inside ⟨gn,glo,ghi⟩ ⟨hn,hlo,hhi⟩ && !lostI l m) from rfl)
 generalize lostI l m=lost at hcl HF
 generalize inside ⟨gn,glo,ghi⟩ ⟨hn,hlo,hhi⟩=ins at HS HF
 have HCL:=Lib.hid hcl
 clear hcl
 go_upto_region 2 with(first|(with_reducible first|refine lld hL ?_|((first|refine lbx hL ?_|refine lal hL ?_|refine lbs hL ?_);clear hL;intro bl w1 hL)|(refine lst' hL ?_;clear hL;intro w1 hL))|(go_at_call 186;((with_reducible refine(HCL.out).mono ?_);rintro e w1 ⟨rfl,hb⟩;replace hL:=hL.grow hb;clear hb;dsimp only)))
 refine seq_begin [10,11,12,13,14,15,16,17,18,19,20,21,22,23,24,25,26,27,28,29,30,31,32,33,34,35,36,37,38,39,40,41,42,43,44,45,4] ?_
 refine dv0 ?_
 refine dv1 0 ?_
 refine dv1 1 ?_
 refine dv1 2 ?_
 refine dg0 3 ?_
 refine dg1 3 4 ?_
 refine dpo 3 5 ?_
 refine dv1 6 ?_
 refine dg0 7 ?_
 refine dg1 7 8 ?_
 refine dg1 7 9 ?_
 refine dg1 7 10 ?_
 refine dc0 11 ?_
 refine dc1 11 12 ?_
 refine dgpo 7 11 13 ?_
 refine dpa 7 14 ?_
 refine dv1 15 ?_
 refine dg0 16 ?_
 refine dg1 16 17 ?_
 refine dg1 16 18 ?_
 refine dg1 16 19 ?_
 refine dc0 20 ?_
 refine dc1 20 21 ?_
 refine dgpo 16 20 22 ?_
 refine dpa 16 23 ?_
 refine dv1 24 ?_
 refine dg0 25 ?_
 refine dg1 25 26 ?_
 refine dg0 25 ?_
 refine dg1 25 28 ?_
 refine' draw_guard (j:=25) rfl rfl rfl (by decide) (by simp) ?_ ?_;rotate_left
 ·intro hcs;simp only[Bool.and_eq_true,beqT,beqF]at hcs;intro g w hb V;replace hL:=hL.grow hb;have d27:=yv V 27;simp only[hcs,beq_self_eq_true,Bool.and_self,Bool.true_and,Bool.and_true,cnd_true]at d27;have d29:=yv V 29;simp only[hcs,beq_self_eq_true,Bool.and_self,Bool.true_and,Bool.and_true,cnd_true]at d29;clear V;simp only[fillD,fLa,fLb,sTa,sTb];simp only[d27,d29]
  go_wp2_with (go_at_call 190;refine(HS.out _).mono ?_;rintro e w3 ⟨rfl,hb3⟩;dsimp only)
  exact⟨rfl,_,rfl,(by assumption),rfl⟩
 simp only[apN,apC]
 refine dpa 25 30 ?_
 refine dv1 31 ?_
 refine dg0 32 ?_
 refine dg1 32 33 ?_
 refine dpa 32 34 ?_
 refine dv1 35 ?_
 refine dns hL ?_
 clear hL;intro w2 hL;simp only[fillX,sTa,sTb]
 go_wp2_with (first|(with_reducible first|refine lld hL ?_|((first|refine lbx hL ?_|refine lal hL ?_|refine lbs hL ?_);clear hL;intro bl w1 hL)|(refine lst' hL ?_;clear hL;intro w1 hL)))
 (try simp only[Exit.inBlock,Exit.then]);refine rt1 ?_
 exact⟨by rw[HF.out];rfl,hL.below⟩
theorem field_span (s:Span) (w:World):(Instr.field 106 (.agg #[.bool s.none,.int .i64 s.lo,.int .i64 s.hi]) 0).run Tryz.prog w=.ok (.bool s.none) w:=by
 obtain⟨a,b,c⟩:=s
 first|with_unfolding_all rfl|kernel_rfl
theorem wp_field_span {ops:Array Oper}{Q:Exit→Act→World→Prop}{act:Act}{w:World}{rest:List Oper}{d:Option Tmp}{ty:TypeId}{pos:String}{after:Array Edge}{x:Operand}{s:Span}(ha:act.eval x=s.v)
  (h:wpList Tryz.prog ops Q rest (act.put d (.bool s.none)) w):wpList Tryz.prog ops Q (⟨d,.field 106 x 0,ty,pos,after,none⟩::rest) act w:=
 wpList_val (w':=w) rfl (by
  simp only[execOp]
  rw[ha]
  rw[Sem.run_bind,field_span]
  rfl) h
def commonI (l m:List Int):Bool:=anyN (fun k=>hasI m (l.getD k 0)) l.length
def maySame (g h:Gu) (l m:List Int):Bool:=commonI l m || g.null&&h.null || g.tr&&h.tr || g.fa&&h.fa || !(common g.span h.span).none
def notSame (g h:Gu) (l m:List Int):Bool:=!(maySame g h l m&&oneG g&&oneG h)
theorem gsame_any (g h:Gu) (l m:List Int) (w:World) (hl:IntsAt w g.s l) (hm:IntsAt w h.s m) (n1:l.length≤1000000) (n2:m.length≤1000000):
  Calls Tryz.prog 205 #[g.v,h.v] w fun e w'=>e=.returned (.tuple #[.bool (maySame g h l m),.bool (notSame g h l m)])∧Below w.heap.size w w':=by
 have hg1:g.s.n≤1000000:=by rw[hl.n];exact n1
 have hh1:h.s.n≤1000000:=by rw[hm.n];exact n2
 have HO1:=Lib.hid (fun w'=>gone_any g hg1 w')
 have HO2:=Lib.hid (fun w'=>gone_any h hh1 w')
 have HS:=Lib.hid (fun w'=>common_any g.span h.span w')
 have HF:=Lib.hid (show maySame g h l m=(commonI l m || g.null&&h.null || g.tr&&h.tr || g.fa&&h.fa || !(common g.span h.span).none) from rfl)
 have HN:=Lib.hid (show notSame g h l m=!(maySame g h l m&&oneG g&&oneG h) from rfl)
 clear hg1 hh1 n1 n2
 obtain⟨gl,⟨gn,glo,ghi⟩,gt,gf,gs⟩:=g
 obtain⟨hl',⟨hn,hlo,hhi⟩,ht,hf,hs⟩:=h
 dsimp only at hl hm HF HN HS
 generalize common ⟨gn,glo,ghi⟩ ⟨hn,hlo,hhi⟩=cs at HF HS
 obtain⟨cn,clo,chi⟩:=cs
 dsimp only at HF HS
 have HL:=Lib.hid hl
 have HM:=Lib.hid hm
 clear hl hm
 have hL:=Loc.start w
 go_enter Tryz.func205,Tryz.ntmps205
 go_step
 go_step
 go_step
 ((with_reducible refine lbx hL ?_);clear hL;intro b2 w1 hL)
 ((with_reducible refine lbx hL ?_);clear hL;intro b3 w1 hL)
 go_upto_region 1 with(first|(with_reducible first|refine lld hL ?_|((first|refine lbx hL ?_|refine lal hL ?_|refine lbs hL ?_);clear hL;intro bl w1 hL)|(refine lst' hL ?_;clear hL;intro w1 hL)))
 have hcl:=containsInts gs l (fun k=>hasI m (l.getD k 0)) 232 (.pointer (some ⟨b3,0,none⟩)) _ (HL.out.grow hL.below) ⟨enterS,fun k _ w2 hb2=>same1_any hs m (l.getD k 0) b3 w2 ((hL.readsG (b:=b3) (Tv:=37) (off:=6) (v:=hs.v) cIn (Reads.cell tInts rfl)).grow hb2) ((HM.out.grow hL.below).grow hb2)⟩
 rw[show anyN (fun k=>hasI m (l.getD k 0)) l.length=commonI l m from rfl]at hcl
 generalize commonI l m=lost at hcl HF
 have HCL:=Lib.hid hcl
 clear hcl
 obtain⟨gp,gk,gc⟩:=gs
 obtain⟨hp,hk,hc⟩:=hs
 dsimp only[Gu.v]at HO1 HO2
 go_upto_region 2 with(first|(with_reducible first|refine lld hL ?_|((first|refine lbx hL ?_|refine lal hL ?_|refine lbs hL ?_);clear hL;intro bl w1 hL)|(refine lst' hL ?_;clear hL;intro w1 hL))|(go_at_call 186;((with_reducible refine(HCL.out).mono ?_);rintro e w1 ⟨rfl,hb⟩;replace hL:=hL.grow hb;clear hb;dsimp only)))
 refine seq_begin [12,13,14,15,16,17,18,19,20,21,22,23,24,25,26,27,28,29,30,31,32,33,34,35,36,37,38,39,40,41,42,43,44,45,7] ?_
 refine dv0 ?_
 refine dv1 0 ?_
 refine dg0 1 ?_
 refine dg1 1 2 ?_
 refine dg1 1 3 ?_
 refine dc0 4 ?_
 refine dc1 4 5 ?_
 refine dgpa 1 4 6 ?_
 refine dpo 1 7 ?_
 refine dv1 8 ?_
 refine dg0 9 ?_
 refine dg1 9 10 ?_
 refine dg1 9 11 ?_
 refine dc0 12 ?_
 refine dc1 12 13 ?_
 refine dgpa 9 12 14 ?_
 refine dpo 9 15 ?_
 refine dv1 16 ?_
 refine dg0 17 ?_
 refine dg1 17 18 ?_
 refine dg1 17 19 ?_
 refine dc0 20 ?_
 refine dc1 20 21 ?_
 refine dgpa 17 20 22 ?_
 refine dpo 17 23 ?_
 refine dv1 24 ?_
 refine dg0 25 ?_
 refine dg1 25 26 ?_
 refine dg0 25 ?_
 refine dg1 25 28 ?_
 refine' draw_guard (j:=25) rfl rfl rfl (by decide) (by simp) ?_ ?_;rotate_left
 ·intro hcs;simp only[Bool.and_eq_true,beqT,beqF]at hcs;intro g w hb V;replace hL:=hL.grow hb;have d27:=yv V 27;simp only[hcs,beq_self_eq_true,Bool.and_self,Bool.true_and,Bool.and_true,cnd_true]at d27;have d29:=yv V 29;simp only[hcs,beq_self_eq_true,Bool.and_self,Bool.true_and,Bool.and_true,cnd_true]at d29;clear V;simp only[fillD,fLa,fLb,sTa,sTb];simp only[d27,d29]
  go_wp2_with (go_at_call 203;refine(HS.out _).mono ?_;rintro e w3 ⟨rfl,hb3⟩;dsimp only)
  exact⟨rfl,_,rfl,(by assumption),rfl⟩
 simp only[apN,apC]
 refine' draw_guard (j:=25) rfl rfl rfl (by decide) (by simp) ?_ ?_;rotate_left
 ·intro hcs;simp only[Bool.and_eq_true,beqT,beqF]at hcs;intro g w hb V;replace hL:=hL.grow hb;have d30:=yv V 30;simp only[hcs,beq_self_eq_true,Bool.and_self,Bool.true_and,Bool.and_true,cnd_true]at d30;clear V;simp only[fillD,fLa,fLb,sTa,sTb];simp only[d30]
  refine wp_field_span (s:=⟨cn,clo,chi⟩) rfl ?_;go_wp2
  exact cY
 simp only[apN,apC]
 refine dg1 25 31 ?_
 refine dpo 25 32 ?_
 refine dv1 33 ?_
 refine dns hL ?_
 clear hL;intro w2 hL;simp only[fillX,sTa,sTb]
 rw[← HF.out]
 generalize hyes:maySame _ _ l m=yes at HN ⊢
 have HY:=Lib.hid hyes
 clear hyes
 generalize oneG _=o1 at HO1 HN
 generalize oneG _=o2 at HO2 HN
 go_upto_region 3 with(first|(with_reducible first|refine lld hL ?_|((first|refine lbx hL ?_|refine lal hL ?_|refine lbs hL ?_);clear hL;intro bl w1 hL)|(refine lst' hL ?_;clear hL;intro w1 hL)))
 refine seq_begin [46,47,48,49,50,51,52,53,54,55,56,4,5] ?_
 refine dv0 ?_
 refine dv0 ?_
 refine dv1 1 ?_
 refine dg0 2 ?_
 refine' draw_guard (j:=2) rfl rfl rfl (by decide) (by simp) ?_ ?_;rotate_left
 ·intro hcs;simp only[Bool.and_eq_true,beqT,beqF]at hcs;intro g w hb V;replace hL:=hL.grow hb;have d3:=yv V 3;simp only[hcs,beq_self_eq_true,Bool.and_self,Bool.true_and,Bool.and_true,cnd_true]at d3;clear V;simp only[fillD,fLa,fLb,sTa,sTb];simp only[d3]
  go_wp2_with (go_at_call 233;refine(HO1.out _).mono ?_;rintro e w3 ⟨rfl,hb3⟩;dsimp only)
  exact⟨rfl,_,rfl,(by assumption),rfl⟩
 simp only[apN,apC]
 refine dpa 2 4 ?_
 refine dv1 5 ?_
 refine dg0 6 ?_
 refine' draw_guard (j:=6) rfl rfl rfl (by decide) (by simp) ?_ ?_;rotate_left
 ·intro hcs;simp only[Bool.and_eq_true,beqT,beqF]at hcs;intro g w hb V;replace hL:=hL.grow hb;have d7:=yv V 7;simp only[hcs,beq_self_eq_true,Bool.and_self,Bool.true_and,Bool.and_true,cnd_true]at d7;clear V;simp only[fillD,fLa,fLb,sTa,sTb];simp only[d7]
  go_wp2_with (go_at_call 233;refine(HO2.out _).mono ?_;rintro e w3 ⟨rfl,hb3⟩;dsimp only)
  exact⟨rfl,_,rfl,(by assumption),rfl⟩
 simp only[apN,apC]
 refine dpa 6 8 ?_
 refine dv1 9 ?_
 refine dv1 0 ?_
 refine dv1 10 ?_
 refine dns hL ?_
 clear hL;intro w2 hL;simp only[fillX,sTa,sTb]
 go_wp2_with (first|(with_reducible first|refine lld hL ?_|((first|refine lbx hL ?_|refine lal hL ?_|refine lbs hL ?_);clear hL;intro bl w1 hL)|(refine lst' hL ?_;clear hL;intro w1 hL)))
 (try simp only[Exit.inBlock,Exit.then]);refine rt2 ?_
 exact⟨ret_two HY.out.symm (by rw[HN.out];cases yes<;>cases o1<;>cases o2<;>rfl),hL.below⟩
def twoG (k:Int) (g h:Gu):Gu:=if g.span.none || h.span.none then nothingG else if k=8 then ⟨false,noSpan,decide (g.span.lo<h.span.hi),decide (h.span.lo≤g.span.hi),nilSl⟩ else ⟨false,made k g.span h.span,false,false,nilSl⟩
theorem twoG_s (k:Int) (g h:Gu):(twoG k g h).s=nilSl:=by
 unfold twoG
 split
 ·rfl
 ·split<;>rfl
theorem two_any (k:Int) (hk:k=5∨k=6∨k=7∨k=8) (g h:Gu) (h1:Ends g.span) (h2:Ends h.span) (w:World):Calls Tryz.prog 206 #[.int .i64 k,g.v,h.v] w fun e w'=>e=.returned (twoG k g h).v∧Below w.heap.size w w':=by
 cases hn:(g.span.none || h.span.none) with
 | true=>
  rw[show twoG k g h=nothingG from if_pos hn]
  exact two_nil k g h hn w
 | false=>
  by_cases h8:k=8
  ·subst h8
   rw[show twoG 8 g h=_ from (if_neg (by rw[hn];decide)).trans (if_pos rfl)]
   exact two_less g h hn w
  ·rw[show twoG k g h=_ from (if_neg (by rw[hn];decide)).trans (if_neg h8)]
   exact two_made k (by omega) g h h1 h2 hn w
structure Res where
 null:Bool
 span:Span
 tr:Bool
 fa:Bool
 l:List Int
abbrev Res.gu (r:Res) (s:Sl):Gu:=⟨r.null,r.span,r.tr,r.fa,s⟩
abbrev nilR:Res:=⟨false,noSpan,false,false,[]⟩
def Gu.res (g:Gu) (l:List Int):Res:=⟨g.null,g.span,g.tr,g.fa,l⟩
def madeG (k:Int) (g h:Gu) (l m:List Int):Res × Bool:=
 if emptyG g || (!(k==10 || k==4)&&emptyG h) then (nilR,false)
 else if k=4 then (⟨g.null,both g.span noSpan,g.tr,g.fa,mixS l []⟩,false)
 else if k=10 then (⟨false,noSpan,noG g,yesG g,[]⟩,false)
 else if k=9 then (⟨false,noSpan,maySame g h l m,notSame g h l m,[]⟩,false)
 else ((twoG k g h).res [],otherG g || otherG h)
theorem enterB:∀ args w,(callFunc 60 args).run Tryz.prog w=.ok (.enter 60 args) w:=fun args w=>by kernel_rfl
theorem made_nil (k:Int) (g h:Gu) (hz:(emptyG g || (!(k==10 || k==4)&&emptyG h))=true) (w:World):
  Calls Tryz.prog 165 #[.int .i64 k,g.v,h.v] w fun e w'=>e=.returned (.tuple #[nothingG.v,.bool false])∧Below w.heap.size w w':=by
 have HE1:=Lib.hid (fun w'=>empty_any g w')
 have HE2:=Lib.hid (fun w'=>empty_any h w')
 generalize emptyG g=eg at HE1 hz
 generalize emptyG h=eh at HE2 hz
 obtain⟨gl,⟨gn,glo,ghi⟩,gt,gf,⟨gp,gk,gc⟩⟩:=g
 obtain⟨hl',⟨hn,hlo,hhi⟩,ht,hf,⟨hp,hk,hc⟩⟩:=h
 have hL:=Loc.start w
 go_enter Tryz.func165,Tryz.ntmps165
 go_upto_region 1 with(first|(with_reducible first|refine lld hL ?_|((first|refine lbx hL ?_|refine lal hL ?_|refine lbs hL ?_);clear hL;intro bl w1 hL)|(refine lst' hL ?_;clear hL;intro w1 hL)))
 refine seq_begin [11,12,13,14,15,16,8] ?_
 refine dv0 ?_
 refine dv1 0 ?_
 refine dv1 1 ?_
 refine dg0 2 ?_
 refine dg1 2 3 ?_
 refine dpo 2 4 ?_
 refine dv1 5 ?_
 refine dns hL ?_
 clear hL;intro w2 hL;simp only[fillX,sTa,sTb]
 generalize (k==10 || k==4)=al at hz ⊢
 cases eg with
 | true=>
  clear hz
  go_wp2_with (first|(with_reducible first|refine lld hL ?_|((first|refine lbx hL ?_|refine lal hL ?_|refine lbs hL ?_);clear hL;intro bl w1 hL)|(refine lst' hL ?_;clear hL;intro w1 hL))|(go_at_call 147;(with_reducible refine(HE1.out _).mono ?_);rintro e w1 ⟨rfl,hb⟩;replace hL:=hL.grow hb;clear hb;dsimp only)|(go_at_call 136;refine(nothing_any _).mono ?_;rintro e w1 ⟨rfl,hb⟩;replace hL:=hL.grow hb;clear hb;dsimp only))
  (try simp only[Exit.inBlock,Exit.then]);refine rt2 ?_
  exact⟨rfl,hL.below⟩
 | false=>
  obtain⟨rfl,rfl⟩:al=false∧eh=true:=by
   cases al<;>cases eh<;>simp_all
  clear hz
  go_wp2_with (first|(with_reducible first|refine lld hL ?_|((first|refine lbx hL ?_|refine lal hL ?_|refine lbs hL ?_);clear hL;intro bl w1 hL)|(refine lst' hL ?_;clear hL;intro w1 hL))|(go_at_call 147;(with_reducible refine(HE1.out _).mono ?_);rintro e w1 ⟨rfl,hb⟩;replace hL:=hL.grow hb;clear hb;dsimp only)|(go_at_call 147;(with_reducible refine(HE2.out _).mono ?_);rintro e w1 ⟨rfl,hb⟩;replace hL:=hL.grow hb;clear hb;dsimp only)|(go_at_call 136;refine(nothing_any _).mono ?_;rintro e w1 ⟨rfl,hb⟩;replace hL:=hL.grow hb;clear hb;dsimp only))
  (try simp only[Exit.inBlock,Exit.then]);refine rt2 ?_
  exact⟨rfl,hL.below⟩
theorem made_copy (g h:Gu) (l:List Int) (w:World) (hl:IntsAt w g.s l) (hlen:l.length≤1000000) (hz:emptyG g=false):
  Calls Tryz.prog 165 #[.int .i64 4,g.v,h.v] w fun e w'=>∃ r:Sl,e=.returned (.tuple #[Gu.v ⟨g.null,both g.span noSpan,g.tr,g.fa,r⟩,.bool false])∧OwnI w.heap.size w' r (mixS l [])∧Below w.heap.size w w':=by
 have HE1:=Lib.hid (fun w'=>empty_any g w')
 rw[hz]at HE1
 have HB:=Lib.hid (fun w' (hb:Below w.heap.size w w')=>gboth_any 60 both enterB both_any g nothingG l [] w' (hl.grow hb) (IntsAt.nil w') (by simp;omega))
 clear hl hlen hz
 obtain⟨gl,⟨gn,glo,ghi⟩,gt,gf,⟨gp,gk,gc⟩⟩:=g
 obtain⟨hl',⟨hn,hlo,hhi⟩,ht,hf,⟨hp,hk,hc⟩⟩:=h
 simp only[nothingG,Bool.or_false]at HB
 generalize mixS l []=ml at HB ⊢
 generalize hbs:both ⟨gn,glo,ghi⟩ noSpan=bs at HB ⊢
 clear hbs
 obtain⟨bn,blo,bhi⟩:=bs
 have hL:=Loc.start w
 go_enter Tryz.func165,Tryz.ntmps165
 go_step
 go_step
 go_step
 ((with_reducible refine lbx hL ?_);clear hL;intro b4 w1 hL)
 ((with_reducible refine lbx hL ?_);clear hL;intro b5 w1 hL)
 ((with_reducible refine lal hL ?_);clear hL;intro b6 w1 hL)
 go_upto_region 6 with(first|(with_reducible first|refine lld hL ?_|((first|refine lbx hL ?_|refine lal hL ?_|refine lbs hL ?_);clear hL;intro bl w1 hL)|(refine lst' hL ?_;clear hL;intro w1 hL))|(go_at_call 147;(with_reducible refine(HE1.out _).mono ?_);rintro e w1 ⟨rfl,hb⟩;replace hL:=hL.grow hb;clear hb;dsimp only))
 refine draw_begin [31,32,33] ?_
 refine dv0 ?_
 apply draw_val
 ·intro g w hb V;replace hL:=hL.grow hb;clear V;simp only[fillD,fLa,fLb,sTa,sTb]
  go_wp2_with (go_at_call 136;refine(nothing_any _).mono ?_;rintro e w3 ⟨rfl,hb3⟩;dsimp only)
  exact⟨rfl,_,rfl,(by assumption),rfl⟩
 simp only[apN,apC]
 refine draw_next (GuR w1.heap.size gl ⟨bn,blo,bhi⟩ gt gf ml) GuR.stable ?_ ?_
 ·intro g w hb V;replace hL:=hL.grow hb;have d0:=yv V 0;have d1:=yv V 1;clear V;simp only[fillD,fLa,fLb,sTa,sTb];simp only[d0,d1]
  go_wp2_with (go_at_call 104;refine(HB.out _ hL.below).mono ?_;rintro e w3 ⟨r,rfl,⟨R,hr,ho⟩,hb3⟩;dsimp only)
  exact⟨rfl,_,rfl,hb3,r,R,rfl,hr,ho.mono hb.size⟩
 simp only[apN,apC]
 refine draw_end hL (by kernel_rfl) (by kernel_rfl) ?_
 intro g w2 hb hR;simp only[List.length_cons,List.length_nil,Nat.reduceAdd]at hR
 have e0:=yv hR 0
 have e1:=yv hR 1
 have e2:(GuR w1.heap.size gl ⟨bn,blo,bhi⟩ gt gf ml) (g 33) w2:=yr hR 2
 obtain⟨⟨x2,y2,z2⟩,R2,e2,i2,o2⟩:=e2
 clear hR;simp only[fillD,fLa,fLb,sTa,sTb]
 simp only[e0,e1,e2]
 clear e0 e1 e2
 replace hL:=hL.gainTail hb o2
 simp only[List.cons_append,List.nil_append]at hL
 clear hb
 clear o2
 go_wp2_with (first|(with_reducible first|refine lld hL ?_|((first|refine lbx hL ?_|refine lal hL ?_|refine lbs hL ?_);clear hL;intro bl w1 hL)|(refine lst' hL ?_;clear hL;intro w1 hL)))
 (try simp only[Exit.inBlock,Exit.then]);refine rt2 ?_
 exact⟨⟨x2,y2,z2⟩,rfl,⟨R2,i2,hL.ownOf (List.sublist_append_right [_,_,_] _)⟩,hL.below⟩
theorem made_not (g h:Gu) (w:World) (hz:emptyG g=false):
  Calls Tryz.prog 165 #[.int .i64 10,g.v,h.v] w fun e w'=>e=.returned (.tuple #[Gu.v ⟨false,noSpan,noG g,yesG g,nilSl⟩,.bool false])∧Below w.heap.size w w':=by
 have HE1:=Lib.hid (fun w'=>empty_any g w')
 rw[hz]at HE1
 have HC:=Lib.hid (fun w'=>gcounts_any g w')
 clear hz
 generalize yesG g=y at HC ⊢
 generalize noG g=n at HC ⊢
 obtain⟨gl,⟨gn,glo,ghi⟩,gt,gf,⟨gp,gk,gc⟩⟩:=g
 obtain⟨hl',⟨hn,hlo,hhi⟩,ht,hf,⟨hp,hk,hc⟩⟩:=h
 have hL:=Loc.start w
 go_enter Tryz.func165,Tryz.ntmps165
 go_wp2_with (first|(with_reducible first|refine lld hL ?_|((first|refine lbx hL ?_|refine lal hL ?_|refine lbs hL ?_);clear hL;intro bl w1 hL)|(refine lst' hL ?_;clear hL;intro w1 hL))|(go_at_call 147;(with_reducible refine(HE1.out _).mono ?_);rintro e w1 ⟨rfl,hb⟩;replace hL:=hL.grow hb;clear hb;dsimp only)|(go_at_call 158;refine(HC.out _).mono ?_;rintro e w1 ⟨rfl,hb⟩;replace hL:=hL.grow hb;clear hb;dsimp only)|(go_at_call 204;refine(truths_any _ _ _).mono ?_;rintro e w1 ⟨rfl,hb⟩;replace hL:=hL.grow hb;clear hb;dsimp only))
 (try simp only[Exit.inBlock,Exit.then]);refine rt2 ?_
 exact⟨rfl,hL.below⟩
theorem made_same (g h:Gu) (l m:List Int) (w:World) (hl:IntsAt w g.s l) (hm:IntsAt w h.s m) (n1:l.length≤1000000) (n2:m.length≤1000000) (hz:emptyG g=false) (hz2:emptyG h=false):
  Calls Tryz.prog 165 #[.int .i64 9,g.v,h.v] w fun e w'=>e=.returned (.tuple #[Gu.v ⟨false,noSpan,maySame g h l m,notSame g h l m,nilSl⟩,.bool false])∧Below w.heap.size w w':=by
 have HE1:=Lib.hid (fun w'=>empty_any g w')
 have HE2:=Lib.hid (fun w'=>empty_any h w')
 rw[hz]at HE1
 rw[hz2]at HE2
 have HC:=Lib.hid (fun w' (hb:Below w.heap.size w w')=>gsame_any g h l m w' (hl.grow hb) (hm.grow hb) n1 n2)
 clear hz hz2 hl hm n1 n2
 generalize maySame g h l m=y at HC ⊢
 generalize notSame g h l m=n at HC ⊢
 obtain⟨gl,⟨gn,glo,ghi⟩,gt,gf,⟨gp,gk,gc⟩⟩:=g
 obtain⟨hl',⟨hn,hlo,hhi⟩,ht,hf,⟨hp,hk,hc⟩⟩:=h
 have hL:=Loc.start w
 go_enter Tryz.func165,Tryz.ntmps165
 go_wp2_with (first|(with_reducible first|refine lld hL ?_|((first|refine lbx hL ?_|refine lal hL ?_|refine lbs hL ?_);clear hL;intro bl w1 hL)|(refine lst' hL ?_;clear hL;intro w1 hL))|(go_at_call 147;(with_reducible refine(HE1.out _).mono ?_);rintro e w1 ⟨rfl,hb⟩;replace hL:=hL.grow hb;clear hb;dsimp only)|(go_at_call 147;(with_reducible refine(HE2.out _).mono ?_);rintro e w1 ⟨rfl,hb⟩;replace hL:=hL.grow hb;clear hb;dsimp only)|(go_at_call 205;refine(HC.out _ hL.below).mono ?_;rintro e w1 ⟨rfl,hb⟩;replace hL:=hL.grow hb;clear hb;dsimp only)|(go_at_call 204;refine(truths_any _ _ _).mono ?_;rintro e w1 ⟨rfl,hb⟩;replace hL:=hL.grow hb;clear hb;dsimp only))
 (try simp only[Exit.inBlock,Exit.then]);refine rt2 ?_
 exact⟨rfl,hL.below⟩
theorem made_two (k:Int) (hk:k=5∨k=6∨k=7∨k=8) (g h:Gu) (h1:Ends g.span) (h2:Ends h.span) (w:World) (hz:emptyG g=false) (hz2:emptyG h=false):
  Calls Tryz.prog 165 #[.int .i64 k,g.v,h.v] w fun e w'=>e=.returned (.tuple #[(twoG k g h).v,.bool (otherG g || otherG h)])∧Below w.heap.size w w':=by
 have HE1:=Lib.hid (fun w'=>empty_any g w')
 have HE2:=Lib.hid (fun w'=>empty_any h w')
 rw[hz]at HE1
 rw[hz2]at HE2
 have HC:=Lib.hid (fun w'=>two_any k hk g h h1 h2 w')
 have HO1:=Lib.hid (fun w'=>other_any g w')
 have HO2:=Lib.hid (fun w'=>other_any h w')
 have k4:(k==4)=false:=beq_eq_false_iff_ne.2 (by omega)
 have k9:(k==9)=false:=beq_eq_false_iff_ne.2 (by omega)
 have k10:(k==10)=false:=beq_eq_false_iff_ne.2 (by omega)
 clear hz hz2 h1 h2 hk
 generalize twoG k g h=t at HC ⊢
 generalize otherG g=og at HO1 ⊢
 generalize otherG h=oh at HO2 ⊢
 obtain⟨tl,⟨tn,tlo,thi⟩,tt,tf,⟨tp,tk,tc⟩⟩:=t
 obtain⟨gl,⟨gn,glo,ghi⟩,gt,gf,⟨gp,gk,gc⟩⟩:=g
 obtain⟨hl',⟨hn,hlo,hhi⟩,ht,hf,⟨hp,hk,hc⟩⟩:=h
 have hL:=Loc.start w
 go_enter Tryz.func165,Tryz.ntmps165
 go_upto_region 12 with(first|(with_reducible first|refine lld hL ?_|((first|refine lbx hL ?_|refine lal hL ?_|refine lbs hL ?_);clear hL;intro bl w1 hL)|(refine lst' hL ?_;clear hL;intro w1 hL))|(go_at_call 147;(with_reducible refine(HE1.out _).mono ?_);rintro e w1 ⟨rfl,hb⟩;replace hL:=hL.grow hb;clear hb;dsimp only)|(go_at_call 147;(with_reducible refine(HE2.out _).mono ?_);rintro e w1 ⟨rfl,hb⟩;replace hL:=hL.grow hb;clear hb;dsimp only))
 refine draw_begin [52,53,54,55,56,57,58,59,60,61] ?_
 refine dv0 ?_
 refine dv0 ?_
 refine dv0 ?_
 apply draw_val
 ·intro g w hb V;replace hL:=hL.grow hb;have d0:=yv V 0;have d1:=yv V 1;have d2:=yv V 2;clear V;simp only[fillD,fLa,fLb,sTa,sTb];simp only[d0,d1,d2]
  go_wp2_with (go_at_call 206;refine(HC.out _).mono ?_;rintro e w3 ⟨rfl,hb3⟩;dsimp only)
  exact⟨rfl,_,rfl,(by assumption),rfl⟩
 simp only[apN,apC]
 refine dv0 ?_
 apply draw_val
 ·intro g w hb V;replace hL:=hL.grow hb;have d4:=yv V 4;clear V;simp only[fillD,fLa,fLb,sTa,sTb];simp only[d4]
  go_wp2_with (go_at_call 207;(with_reducible refine(HO1.out _).mono ?_);rintro e w3 ⟨rfl,hb3⟩;dsimp only)
  exact⟨rfl,_,rfl,(by assumption),rfl⟩
 simp only[apN,apC]
 refine dv1 5 ?_
 refine dg0 6 ?_
 refine' draw_guard (j:=6) rfl rfl rfl (by decide) (by simp) ?_ ?_;rotate_left
 ·intro hcs;simp only[Bool.and_eq_true,beqT,beqF]at hcs;intro g w hb V;replace hL:=hL.grow hb;have d7:=yv V 7;simp only[hcs,beq_self_eq_true,Bool.and_self,Bool.true_and,Bool.and_true,cnd_true]at d7;clear V;simp only[fillD,fLa,fLb,sTa,sTb];simp only[d7]
  go_wp2_with (go_at_call 207;(with_reducible refine(HO2.out _).mono ?_);rintro e w3 ⟨rfl,hb3⟩;dsimp only)
  exact⟨rfl,_,rfl,(by assumption),rfl⟩
 simp only[apN,apC]
 refine dpo 6 8 ?_
 refine draw_end1 9 hL (by kernel_rfl) (by kernel_rfl) (fun _ _ _ _ _ h=>h) ?_ ?_
 ·(refine late_ok rfl rfl ?_;intro g w hb V;(try simp[depsOf,List.filter_cons,Region.binds,AllR,RAt]at V);simp only[fillD,List.foldl_cons,List.foldl_nil,List.set_cons_succ,List.set_cons_zero];(try simp only[V]);exact⟨_,.inl ⟨rfl,fun w=>(by go_simp<;>(try (split<;>(rename_i hs;simp[hs,cnd]))))⟩,rfl⟩)
 intro g w2 hb hR;simp only[List.length_cons,List.length_nil,Nat.reduceAdd]at hR
 have e0:=yv hR 0
 have e1:=yv hR 1
 have e2:=yv hR 2
 have e3:=yv hR 3
 have e4:=yv hR 4
 have e5:=yv hR 5
 have e6:=yv hR 6
 have e7:=yv hR 7
 have e8:=yv hR 8
 have e9:=yv hR 9
 clear hR;simp only[fillD,fLa,fLb,sTa,sTb]
 simp only[e0,e1,e2,e3,e4,e5,e6,e7,e8,e9]
 clear e0 e1 e2 e3 e4 e5 e6 e7 e8 e9
 replace hL:=hL.grow hb
 clear hb
 go_wp2_with (first|(with_reducible first|refine lld hL ?_|((first|refine lbx hL ?_|refine lal hL ?_|refine lbs hL ?_);clear hL;intro bl w1 hL)|(refine lst' hL ?_;clear hL;intro w1 hL)))
 (try simp only[Exit.inBlock,Exit.then]);refine rt2 ?_
 exact⟨rfl,hL.below⟩
def siteBadG (p:Pg) (is:Nat→Ins) (l:List Int):Bool:=anyN (fun k=>!isSite p is (l.getD k 0)) l.length
def rightG (p:Pg) (is:Nat→Ins) (g:Gu) (l:List Int):Int:=if checkSpan g.span≠0 then checkSpan g.span else if siteBadG p is l=true then 5 else if dropI l=true then 4 else 0
def unionTo (l m:List Int) (k:Nat):List Int:=((List.range k).map fun k:Nat=>(k:Int)).filter fun s=>hasI l s || hasI m s
theorem unionTo_le (l m:List Int) (k:Nat):(unionTo l m k).length≤k:=by
 unfold unionTo
 exact Nat.le_trans (List.length_filter_le _ _) (by simp)
theorem unionTo_60 (l m:List Int):unionTo l m 60=unionS l m:=rfl
structure RightGu (g:Gu) (l:List Int):Prop where
 span:checkSpan g.span=0
 n:g.s.n=l.length
 ins:inS l
 asc:ascS l
 le:l.length≤60
theorem fewS {l:List Int}(h1:inS l) (h2:ascS l):l.length≤60:=by
 have h3:=mix_union (m:=[]) h1 (fun x hx=>by cases hx)
 rw[mix_nil h2]at h3
 rw[h3,← unionTo_60]
 exact unionTo_le _ _ _
theorem RightGu.of {p:Pg}{is:Nat→Ins}{g:Gu}{l:List Int}(h:rightG p is g l=0) (hp:checkProg p is=0) (hn:g.s.n=l.length):RightGu g l:=by
 unfold rightG at h
 by_cases h1:checkSpan g.span=0
 ·rw[if_neg (by omega)]at h
  by_cases h2:siteBadG p is l=true
  ·rw[if_pos h2]at h;omega
  ·rw[if_neg h2]at h
   by_cases h3:dropI l=true
   ·rw[if_pos h3]at h;omega
   ·have ha:ascS l:=ascS_of (by simpa using h3)
    have hi:inS l:=by
     intro x hx
     obtain⟨k,hk,he⟩:=List.mem_iff_getElem.1 hx
     have h4:(!isSite p is (l.getD k 0))=false:=by
      cases h5:(!isSite p is (l.getD k 0)) with
      | false=>rfl
      | true=>exact absurd (anyN_yes (q:=fun k=>!isSite p is (l.getD k 0)) hk h5) h2
     rw[List.getD_eq_getElem?_getD,List.getElem?_eq_getElem hk]at h4
     simp only[Option.getD_some,he]at h4
     have hpn:p.n≤60:=by
      unfold checkProg at hp
      split at hp
      ·omega
      ·split at hp
       ·omega
       ·omega
     simp[isSite]at h4
     omega
    exact⟨h1,hn,hi,ha,fewS hi ha⟩
 ·rw[if_pos h1]at h
  exact absurd h h1
theorem both_none {s:Span}(h:checkSpan s=0):both s noSpan=s:=by
 obtain⟨_,_,h3⟩:=checkSpan_zero h
 obtain⟨n,lo,hi⟩:=s
 cases n with
 | true=>
  obtain⟨rfl,rfl⟩:=h3 rfl
  rfl
 | false=>rfl
theorem one_single (g:Gu):oneG g=true↔(g.s.n=0∧cnt4 g.null (!g.span.none) g.tr g.fa=1∧g.span.lo=g.span.hi):=by
 have h0:0≤cnt4 g.null g.tr g.fa (!g.span.none):=by
  unfold cnt4 cntB
  cases g.null<;>cases g.tr<;>cases g.fa<;>cases g.span.none<;>decide
 have h1:cnt4 g.null (!g.span.none) g.tr g.fa=cnt4 g.null g.tr g.fa (!g.span.none):=by
  unfold cnt4
  omega
 rw[h1]
 simp only[oneG,Bool.and_eq_true,beq_iff_eq]
 omega
abbrev zeroG:Gu:=⟨false,zeroSpan,false,false,nilSl⟩
abbrev zeroD:Res:=⟨false,zeroSpan,false,false,[]⟩
theorem madeG_nil {k:Int}{g h:Gu}{l m:List Int}(hz:(emptyG g || (!(k==10 || k==4)&&emptyG h))=true):madeG k g h l m=(nilR,false):=if_pos hz
theorem full_of {k:Int}{g h:Gu}(hz:¬ (emptyG g || (!(k==10 || k==4)&&emptyG h))=true):emptyG g=false∧(k≠10→k≠4→emptyG h=false):=by
 cases h1:emptyG g<;>cases h2:emptyG h<;>simp_all
theorem kinds {k:Int}(hk:betw k 4 10=true):k=4∨k=10∨k=9∨k=8∨(k=5∨k=6∨k=7):=by
 simp[betw]at hk
 omega
theorem made_all (k:Int) (g h:Gu) (l m:List Int) (w:World) (hk:betw k 4 10=true) (hg:RightGu g l) (hh:RightGu h m) (hl:IntsAt w g.s l) (hm:IntsAt w h.s m):
  Calls Tryz.prog 165 #[.int .i64 k,g.v,h.v] w fun e w'=>∃ r:Sl,e=.returned (.tuple #[((madeG k g h l m).1.gu r).v,.bool (madeG k g h l m).2])∧OwnI w.heap.size w' r (madeG k g h l m).1.l∧Below w.heap.size w w':=by
 have n1:=hg.le
 have n2:=hh.le
 by_cases hz:(emptyG g || (!(k==10 || k==4)&&emptyG h))=true
 ·rw[madeG_nil hz]
  exact(made_nil k g h hz w).mono fun e w' ⟨h1,h2⟩=>⟨nilSl,h1,OwnI.nil,h2⟩
 ·obtain⟨z1,z2⟩:=full_of hz
  rcases kinds hk with rfl|rfl|rfl|rfl|hk3
  ·rw[show madeG 4 g h l m=_ from (if_neg hz).trans (if_pos rfl)]
   exact made_copy g h l w hl (by omega) z1
  ·rw[show madeG 10 g h l m=_ from (if_neg hz).trans ((if_neg (by decide)).trans (if_pos rfl))]
   exact(made_not g h w z1).mono fun e w' ⟨h1,h2⟩=>⟨nilSl,h1,OwnI.nil,h2⟩
  ·rw[show madeG 9 g h l m=_ from (if_neg hz).trans ((if_neg (by decide)).trans ((if_neg (by decide)).trans (if_pos rfl)))]
   exact(made_same g h l m w hl hm (by omega) (by omega) z1 (z2 (by decide) (by decide))).mono fun e w' ⟨h1,h2⟩=>⟨nilSl,h1,OwnI.nil,h2⟩
  ·rw[show madeG 8 g h l m=_ from (if_neg hz).trans ((if_neg (by decide)).trans ((if_neg (by decide)).trans (if_neg (by decide))))]
   exact(made_two 8 (by decide) g h (checkSpan_zero hg.span).1 (checkSpan_zero hh.span).1 w z1 (z2 (by decide) (by decide))).mono fun e w' ⟨h1,h2⟩=>⟨nilSl,by rw[h1,Gu.res,← twoG_s 8 g h],OwnI.nil,h2⟩
  ·rw[show madeG k g h l m=_ from (if_neg hz).trans ((if_neg (by omega)).trans ((if_neg (by omega)).trans (if_neg (by omega))))]
   exact(made_two k (by omega) g h (checkSpan_zero hg.span).1 (checkSpan_zero hh.span).1 w z1 (z2 (by omega) (by omega))).mono fun e w' ⟨h1,h2⟩=>⟨nilSl,by rw[h1,Gu.res,← twoG_s k g h],OwnI.nil,h2⟩
def firstE:List Int→Int
 | []=>0
 | e::l=>if e=0 then firstE l else e
theorem firstE_append (l m:List Int):firstE (l++m)=if firstE l=0 then firstE m else firstE l:=by
 induction l with
 | nil=>simp[firstE]
 | cons e l ih=>
  by_cases h:e=0
  ·simp[firstE,h,ih]
  ·simp[firstE,h]
theorem firstE_flat {α:Type}(f:α→Int) (ls:List (List α)):firstE (ls.map fun l=>firstE (l.map f))=firstE (ls.flatten.map f):=by
 induction ls with
 | nil=>rfl
 | cons l ls ih=>
  rw[List.flatten_cons,List.map_append,firstE_append,List.map_cons,← ih]
  rfl
theorem take_next {α:Type}(l:List α) (k:Nat) (d:α) (h:k<l.length):l.take (k+1)=l.take k++[l.getD k d]:=by
 rw[List.take_add_one,List.getElem?_eq_getElem h,List.getD_eq_getElem?_getD,List.getElem?_eq_getElem h]
 rfl
structure RowIs (w:World) (s:Sl) (ds:List Res):Prop where
 n:s.n=ds.length
 m:s.n≤9223372036854775807
 ex:∃ ss:Nat→Sl,ListC w 7 s.p s.n (fun k=>((ds.getD k zeroD).gu (ss k)).cells)∧∀ k,k<s.n→IntsAt w (ss k) (ds.getD k zeroD).l
theorem RowIs.grow {w w' : World}{s:Sl}{ds:List Res}(h:RowIs w s ds) (hb:Below w.heap.size w w'):RowIs w' s ds:=by
 obtain⟨h1,h2,ss,h3,h4⟩:=h
 exact⟨h1,h2,ss,h3.grow hb,fun k hk=>(h4 k hk).grow hb⟩
theorem RowIs.zero (w:World) (x:Option Addr) (z:Nat):RowIs w ⟨x,0,z⟩ []:=
 ⟨rfl,Nat.zero_le _,fun _=>nilSl,⟨0,0,fun h=>absurd h (Nat.lt_irrefl 0),fun k hk=>absurd hk (Nat.not_lt_zero k)⟩,fun k hk=>absurd hk (Nat.not_lt_zero k)⟩
structure RowsIs (w:World) (s:Sl) (dss:List (List Res)):Prop where
 n:s.n=dss.length
 m:s.n≤9223372036854775807
 ex:∃ rs:Nat→Sl,ListC w 1 s.p s.n (fun k=>[.slice (rs k).p (rs k).n (rs k).cap])∧∀ k,k<s.n→RowIs w (rs k) (dss.getD k [])
theorem RowsIs.grow {w w' : World}{s:Sl}{dss:List (List Res)}(h:RowsIs w s dss) (hb:Below w.heap.size w w'):RowsIs w' s dss:=by
 obtain⟨h1,h2,rs,h3,h4⟩:=h
 exact⟨h1,h2,rs,h3.grow hb,fun k hk=>(h4 k hk).grow hb⟩
theorem RowsIs.zero (w:World) (x:Option Addr) (z:Nat):RowsIs w ⟨x,0,z⟩ []:=
 ⟨rfl,Nat.zero_le _,fun _=>nilSl,⟨0,0,fun h=>absurd h (Nat.lt_irrefl 0),fun k hk=>absurd hk (Nat.not_lt_zero k)⟩,fun k hk=>absurd hk (Nat.not_lt_zero k)⟩
structure Pv where
 none:Bool
 vars:Sl
 fields:Sl
abbrev Pv.cells (x:Pv):List Value:=[.bool x.none,.slice x.vars.p x.vars.n x.vars.cap,.slice x.fields.p x.fields.n x.fields.cap]
abbrev Pv.v (x:Pv):Value:=.agg #[.bool x.none,.slice x.vars.p x.vars.n x.vars.cap,.slice x.fields.p x.fields.n x.fields.cap]
abbrev zeroP:Pv:=⟨false,nilSl,nilSl⟩
structure Pd where
 none:Bool
 vars:List Res
 fields:List (List Res)
abbrev nonePd:Pd:=⟨true,[],[]⟩
abbrev zeroPd:Pd:=⟨false,[],[]⟩
abbrev Pd.var (d:Pd) (k:Nat):Res:=d.vars.getD k zeroD
abbrev Pd.row (d:Pd) (k:Nat):List Res:=d.fields.getD k []
abbrev Pd.field (d:Pd) (k j:Nat):Res:=(d.fields.getD k []).getD j zeroD
structure PicIs (w:World) (x:Pv) (d:Pd):Prop where
 e:x.none=d.none
 vars:RowIs w x.vars d.vars
 fields:RowsIs w x.fields d.fields
 m:x.vars.n+x.fields.n≤9223372036854775807
theorem PicIs.grow {w w' : World}{x:Pv}{d:Pd}(h:PicIs w x d) (hb:Below w.heap.size w w'):PicIs w' x d:=⟨h.e,h.vars.grow hb,h.fields.grow hb,h.m⟩
theorem PicIs.zero (w:World):PicIs w zeroP zeroPd:=⟨rfl,RowIs.zero w _ _,RowsIs.zero w _ _,Nat.zero_le _⟩
def emptyD (d:Res):Bool:=!d.null&&d.span.none && !d.tr && !d.fa&&(d.l.length:Int)==0
theorem emptyD_gu {d:Res}{s:Sl}(h:s.n=d.l.length):emptyG (d.gu s)=emptyD d:=by
 show (!d.null&&d.span.none && !d.tr && !d.fa&&(s.n:Int)==0)=_
 rw[h];rfl
abbrev rightD (p:Pg) (is:Nat→Ins) (d:Res):Int:=rightG p is (d.gu nilSl) d.l
def rowE (p:Pg) (is:Nat→Ins) (ds:List Res):Int:=firstE (ds.map (rightD p is))
def rowsE (p:Pg) (is:Nat→Ins) (dss:List (List Res)):Int:=firstE (dss.map (rowE p is))
theorem rowsE_flat (p:Pg) (is:Nat→Ins) (dss:List (List Res)):rowsE p is dss=firstE (dss.flatten.map (rightD p is)):=firstE_flat _ _
def fullD (ds:List Res):Bool:=anyN (fun k=>!emptyD (ds.getD k zeroD)) ds.length
def strayD (p:Pg) (is:Nat→Ins) (dss:List (List Res)):Bool:=anyN (fun i=>!isSite p is i&&fullD (dss.getD i [])) dss.length
def lensD (p:Pg) (d:Pd):Bool:=(d.vars.length:Int) != p.vars || (d.fields.length:Int) != p.n || anyN (fun i=>((d.row i).length:Int) != p.fields) d.fields.length
def rightP (p:Pg) (is:Nat→Ins) (d:Pd):Int:=
 if d.none=true then (if 0<d.vars.length+d.fields.length then 1 else 0)
 else if lensD p d=true then 1
 else if rowsE p is (d.vars::d.fields)≠0 then rowsE p is (d.vars::d.fields)
 else if strayD p is d.fields=true then 4 else 0
theorem lenG (g:Gu):(Gu.cells g).length=7:=rfl
theorem oneG' {l:List Gu}:∀ u∈l.flatMap Gu.cells,u.oneCell'=true:=by
 intro u hu
 obtain⟨x,_,hx⟩:=List.mem_flatMap.1 hu
 simp only[Gu.cells,List.mem_cons,List.not_mem_nil,or_false]at hx
 rcases hx with rfl|rfl|rfl|rfl|rfl|rfl|rfl<;>rfl
structure GuIs (w:World) (g:Gu) (d:Res):Prop where
 e:g=d.gu g.s
 l:IntsAt w g.s d.l
theorem GuIs.mk' {w:World}{s:Sl}{d:Res}(h:IntsAt w s d.l):GuIs w (d.gu s) d:=⟨rfl,h⟩
theorem GuIs.grow {w w' : World}{g:Gu}{d:Res}(h:GuIs w g d) (hb:Below w.heap.size w w'):GuIs w' g d:=⟨h.e,h.l.grow hb⟩
structure GusD (w:World) (gl:List Gu) (ds:List Res):Prop where
 len:gl.length=ds.length
 at' : ∀ k,k<ds.length→GuIs w (gl.getD k zeroG) (ds.getD k zeroD)
theorem GusD.grow {w w' : World}{gl:List Gu}{ds:List Res}(h:GusD w gl ds) (hb:Below w.heap.size w w'):GusD w' gl ds:=⟨h.len,fun k hk=>(h.at' k hk).grow hb⟩
theorem GusD.nil (w:World):GusD w [] []:=⟨rfl,fun k hk=>absurd hk (Nat.not_lt_zero k)⟩
theorem getD_left {α:Type}{l m:List α}{d:α}{k:Nat}(h:k<l.length):(l++m).getD k d=l.getD k d:=by
 simp[List.getD_eq_getElem?_getD,List.getElem?_append_left h]
theorem getD_right {α:Type}{l m:List α}{d:α}{k:Nat}(h:l.length≤k):(l++m).getD k d=m.getD (k - l.length) d:=by
 simp[List.getD_eq_getElem?_getD,List.getElem?_append_right h]
theorem GusD.append {w:World}{gl gm:List Gu}{ds es:List Res}(h:GusD w gl ds) (h' : GusD w gm es):GusD w (gl++gm) (ds++es):=by
 refine⟨by rw[List.length_append,List.length_append,h.len,h'.len],fun k hk=>?_⟩
 rw[List.length_append]at hk
 rcases Nat.lt_or_ge k ds.length with h1|h1
 ·rw[getD_left (by rw[h.len];exact h1),getD_left h1]
  exact h.at' k h1
 ·rw[getD_right (by rw[h.len];exact h1),getD_right h1,h.len]
  exact h'.at' _ (by omega)
theorem GusD.one {w:World}{g:Gu}{d:Res}(h:GuIs w g d):GusD w [g] [d]:=by
 refine⟨rfl,fun k hk=>?_⟩
 obtain rfl:k=0:=by simpa using hk
 exact h
theorem GusD.row {w:World}{B:Nat}{p:Option Addr}{n cap:Nat}{gl:List Gu}{ds:List Res}{R:List LBlk}(h:GusD w gl ds) (hr:RowS 108 7 p n cap (gl.flatMap Gu.cells) R) (ho:Own B w R):RowIs w ⟨p,n,cap⟩ ds:=by
 obtain⟨h1,h2⟩:=hr.listC lenG zeroG (by decide) ho
 refine⟨h1.trans h.len,hr.max,fun k=>(gl.getD k zeroG).s,h2.congr fun k hk=>?_,fun k hk=>(h.at' k (by rw[← h.len,← h1];exact hk)).l⟩
 rw[← (h.at' k (by rw[← h.len,← h1];exact hk)).e]
end Go.Proofs.YtplcndmdkabmeaaGreatDoor
