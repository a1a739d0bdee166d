import Derived.Test.YtplcndmdkabmeaaGreatDoorGua
import Derived.Test.YtplcndmdkabmeaaGreatDoorVal
import Derived.Test.YtplcndmdkabmeaaGreatDoorSpn
import Derived.Test.YtplcndmdkabmeaaGreatDoorShz
import Derived.Test.YtplcndmdkabmeaaGreatDoorCod
set_option linter.unusedSimpArgs false
set_option linter.unusedVariables false
set_option maxRecDepth 100000
set_option maxHeartbeats 4000000
namespace Go.Proofs.YtplcndmdkabmeaaGreatDoor
open Go.RowKit
theorem indexInts (s:Sl) (l:List Int) (q:Nat→Bool) (K:FuncId) (c:Value) (w:World) (hl:IntsAt w s l) (hf:FnAt Tryz.prog K c w l.length (fun k=>.int .i64 (l.getD k 0)) q):
  Calls Tryz.prog 227 #[s.v,.func (.func K) #[] #[c]] w fun e w'=>∃ r:Int,e=.returned (.int .i64 r)∧decide (0≤r)=anyN q l.length∧Below w.heap.size w w':=by
 obtain⟨b,o,hp,hc⟩:=hl.reads tInt
 have hn:=hl.n
 have hm:=hl.m
 obtain⟨p,n,cap⟩:=s
 dsimp only at hp hc hn hm
 subst hn
 dsimp only[Sl.v]
 have HP:=Lib.hid hp
 have HC:=Lib.hid hc
 have HF:=Lib.hid hf.run
 have he:=hf.enter
 clear hp hc hl hf
 have hL:=Loc.start w
 go_enter Tryz.func227,Tryz.ntmps227
 go_wp2
 go_loopw [8] (fun x wr=>∃ k:Nat,k≤l.length∧x=.int .i64 k∧(∀ j,j<k→q j=false)∧Loc w wr [] []) (fun x _=>l.length - (intOf x).toNat)
 case atStart=>exact⟨0,Nat.zero_le _,rfl,fun j hj=>absurd hj (by omega),hL⟩
 case round=>
  clear hL
  obtain⟨k,hk,rfl,hq,hL⟩:=hrel
  have HQ:=Lib.hid hq
  clear hq
  by_cases hlt:k<l.length
  ·have HPC:=Lib.hid (HP.out (by omega))
   have hr:=HC.out k hlt
   have hk1:=HF.out k hlt
   generalize l.getD k 0=x at hr hk1
   have HR:=Lib.hid hr
   cases hqk:q k with
   | true=>
    rw[hqk]at hk1
    have HK2:=Lib.hid hk1
    have HA:=Lib.hid (anyN_yes hlt hqk)
    clear hk1 hqk hr
    go_upto_region 4 with(fail)
    refine seq_begin [11,12,13,14,15,16] ?_
    refine dv0 ?_
    refine dv0 ?_
    refine dv0 ?_
    apply draw_val
    ·intro g w hb V;replace hL:=hL.grow hb;have d1:=yv V 1;have d2:=yv V 2;clear V;simp only[fillD,fLa,fLb,sTa,sTb];simp only[d1,d2]
     (simp only[HPC.out];go_wp2)
     exact cY
    simp only[apN,apC]
    apply draw_val
    ·intro g w hb V;replace hL:=hL.grow hb;have d3:=yv V 3;clear V;simp only[fillD,fLa,fLb,sTa,sTb];simp only[d3]
     refine loc_loadB HR.out hL rfl rfl ?_
     exact cY
    simp only[apN,apC]
    apply draw_val
    ·intro g w hb V;replace hL:=hL.grow hb;have d0:=yv V 0;have d4:=yv V 4;clear V;simp only[fillD,fLa,fLb,sTa,sTb];simp only[d0,d4]
     go_wp2_with ((with_reducible refine(HK2.out _ hL.below).mono ?_);rintro e w3 ⟨rfl,hb3⟩;dsimp only)
     exact⟨rfl,_,rfl,hb3,rfl⟩
    simp only[apN,apC]
    refine dns hL ?_
    clear hL;intro w2 hL;simp only[fillX,sTa,sTb]
    go_wp2
    go_ret
    exact⟨_,rfl,by rw[HA.out];simp,hL.below⟩
   | false=>
    rw[hqk]at hk1
    have HK2:=Lib.hid hk1
    have HA:=Lib.hid hqk
    clear hk1 hqk hr
    go_upto_region 4 with(fail)
    refine seq_begin [11,12,13,14,15,16] ?_
    refine dv0 ?_
    refine dv0 ?_
    refine dv0 ?_
    apply draw_val
    ·intro g w hb V;replace hL:=hL.grow hb;have d1:=yv V 1;have d2:=yv V 2;clear V;simp only[fillD,fLa,fLb,sTa,sTb];simp only[d1,d2]
     (simp only[HPC.out];go_wp2)
     exact cY
    simp only[apN,apC]
    apply draw_val
    ·intro g w hb V;replace hL:=hL.grow hb;have d3:=yv V 3;clear V;simp only[fillD,fLa,fLb,sTa,sTb];simp only[d3]
     refine loc_loadB HR.out hL rfl rfl ?_
     exact cY
    simp only[apN,apC]
    apply draw_val
    ·intro g w hb V;replace hL:=hL.grow hb;have d0:=yv V 0;have d4:=yv V 4;clear V;simp only[fillD,fLa,fLb,sTa,sTb];simp only[d0,d4]
     go_wp2_with ((with_reducible refine(HK2.out _ hL.below).mono ?_);rintro e w3 ⟨rfl,hb3⟩;dsimp only)
     exact⟨rfl,_,rfl,hb3,rfl⟩
    simp only[apN,apC]
    refine dns hL ?_
    clear hL;intro w2 hL;simp only[fillX,sTa,sTb]
    go_wp2
    go_roundw
    case rel=>
     refine⟨k+1,by omega,by go_num,fun j hj=>?_,hL⟩
     rcases Nat.lt_or_ge j k with h|h
     ·exact HQ.out j h
     ·obtain rfl:j=k:=by omega
      exact HA.out
    case measure=>simp[intOf];omega
  ·obtain rfl:k=l.length:=by omega
   go_wp2
   go_ret
   exact⟨_,rfl,by rw[anyN_no HQ.out];rfl,hL.below⟩
theorem containsInts (s:Sl) (l:List Int) (q:Nat→Bool) (K:FuncId) (c:Value) (w:World) (hl:IntsAt w s l) (hf:FnAt Tryz.prog K c w l.length (fun k=>.int .i64 (l.getD k 0)) q):
  Calls Tryz.prog 186 #[s.v,.func (.func K) #[] #[c]] w fun e w'=>e=.returned (.bool (anyN q l.length))∧Below w.heap.size w w':=by
 have HI:=Lib.hid (indexInts s l q K c w hl hf)
 clear hl hf
 go_enter Tryz.func186,Tryz.ntmps186
 go_wp2_with (go_at_call 227;refine HI.out.mono ?_;rintro e w1 ⟨r,rfl,hr,hb⟩;dsimp only)
 go_ret
 exact⟨by rw[← hr];rfl,hb⟩
theorem Loc.readsG {P:Program}{w0 w:World}{L:List LBlk}{D:List Datum}{b:Nat}{T Tv:TypeId}{cs:List Value}{f:List Value→List LBlk}{off:Nat}{v:Value}(hL:Loc w0 w L D) (hm:InL b T cs L f) (hv:Reads P Tv cs off v):ReadsAt P Tv w b off v:=
 ⟨heap_lt (hL.heap hm),fun w' h=>hv.run w' b (fun j=>(h j).trans (hL.cell hm j))⟩
theorem enterI:∀ args w,(callFunc 189 args).run Tryz.prog w=.ok (.enter 189 args) w:=fun args w=>by kernel_rfl
theorem enterS:∀ args w,(callFunc 232 args).run Tryz.prog w=.ok (.enter 232 args) w:=fun args w=>by kernel_rfl
theorem inside1_any (t:Sl) (m:List Int) (x:Int) (b:Nat) (w:World) (hr:ReadsAt Tryz.prog 37 w b 6 t.v) (hm:IntsAt w t m):
  Calls Tryz.prog 189 #[.int .i64 x,.pointer (some ⟨b,0,none⟩)] w fun e w'=>e=.returned (.bool (!hasI m x))∧Below w.heap.size w w':=by
 have HC:=Lib.hid hm
 clear hm
 have hL:=Loc.start w
 go_enter Tryz.func189,Tryz.ntmps189
 go_wp2_with (first|(with_reducible first|refine lld hL ?_|((first|refine lbx hL ?_|refine lal hL ?_|refine lbs hL ?_);clear hL;intro bl w1 hL)|(refine lst' hL ?_;clear hL;intro w1 hL))|(refine loc_loadB hr hL rfl rfl ?_)|(go_at_call 183;refine(containsI_any t m x _ (HC.out.grow hL.below)).mono ?_;rintro e w1 ⟨rfl,hb⟩;replace hL:=hL.grow hb;clear hb;dsimp only))
 (try simp only[Exit.inBlock,Exit.then]);refine rt1 ?_
 exact⟨rfl,hL.below⟩
theorem same1_any (t:Sl) (m:List Int) (x:Int) (b:Nat) (w:World) (hr:ReadsAt Tryz.prog 37 w b 6 t.v) (hm:IntsAt w t m):
  Calls Tryz.prog 232 #[.int .i64 x,.pointer (some ⟨b,0,none⟩)] w fun e w'=>e=.returned (.bool (hasI m x))∧Below w.heap.size w w':=by
 have HC:=Lib.hid hm
 clear hm
 have hL:=Loc.start w
 go_enter Tryz.func232,Tryz.ntmps232
 go_wp2_with (first|(with_reducible first|refine lld hL ?_|((first|refine lbx hL ?_|refine lal hL ?_|refine lbs hL ?_);clear hL;intro bl w1 hL)|(refine lst' hL ?_;clear hL;intro w1 hL))|(refine loc_loadB hr hL rfl rfl ?_)|(go_at_call 183;refine(containsI_any t m x _ (HC.out.grow hL.below)).mono ?_;rintro e w1 ⟨rfl,hb⟩;replace hL:=hL.grow hb;clear hb;dsimp only))
 (try simp only[Exit.inBlock,Exit.then]);refine rt1 ?_
 exact⟨rfl,hL.below⟩
def held (g:Gu) (l:List Int) (v:Vl) (site:Int):Bool:=if v.kind=1 then inSpan g.span v.n else if v.kind=2 then (v.n==1&&g.tr || v.n==0&&g.fa) else if v.kind=3 then hasI l site else g.null
def lostI (l m:List Int):Bool:=anyN (fun k=>!hasI m (l.getD k 0)) l.length
def insideG (g h:Gu) (l m:List Int):Bool:=(!g.null || h.null)&&(!g.tr || h.tr)&&(!g.fa || h.fa)&&inside g.span h.span && !lostI l m
theorem ginside_any (g h:Gu) (l m:List Int) (w:World) (hl:IntsAt w g.s l) (hm:IntsAt w h.s m):
  Calls Tryz.prog 150 #[g.v,h.v] w fun e w'=>e=.returned (.bool (insideG g h l m))∧Below w.heap.size w w':=by
 obtain⟨gl,⟨gn,glo,ghi⟩,gt,gf,gs⟩:=g
 obtain⟨hl',⟨hn,hlo,hhi⟩,ht,hf,hs⟩:=h
 dsimp only at hl hm
 have HS:=Lib.hid (fun w'=>inside_any ⟨gn,glo,ghi⟩ ⟨hn,hlo,hhi⟩ w')
 have HL:=Lib.hid hl
 have HM:=Lib.hid hm
 clear hl hm
 have hL:=Loc.start w
 go_enter Tryz.func150,Tryz.ntmps150
 go_step
 go_step
 go_step
 ((with_reducible refine lbx hL ?_);clear hL;intro b2 w1 hL)
 ((with_reducible refine lbx hL ?_);clear hL;intro b3 w1 hL)
 go_upto_region 1 with(first|(with_reducible first|refine lld hL ?_|((first|refine lbx hL ?_|refine lal hL ?_|refine lbs hL ?_);clear hL;intro bl w1 hL)|(refine lst' hL ?_;clear hL;intro w1 hL)))
 have hcl:=containsInts gs l (fun k=>!hasI m (l.getD k 0)) 189 (.pointer (some ⟨b3,0,none⟩)) _ (HL.out.grow hL.below) ⟨enterI,fun k _ w2 hb2=>inside1_any hs m (l.getD k 0) b3 w2 ((hL.readsG (b:=b3) (Tv:=37) (off:=6) (v:=hs.v) cIn (Reads.cell tInts rfl)).grow hb2) ((HM.out.grow hL.below).grow hb2)⟩
 rw[show anyN (fun k=>!hasI m (l.getD k 0)) l.length=lostI l m from rfl]at hcl
 have HF:=Lib.hid (show insideG ⟨gl,⟨gn,glo,ghi⟩,gt,gf,gs⟩ ⟨hl',⟨hn,hlo,hhi⟩,ht,hf,hs⟩ l m=((!gl || hl')&&(!gt || ht)&&(!gf || hf)&&inside ⟨gn,glo,ghi⟩ ⟨hn,hlo,hhi⟩ && !lostI l m) from rfl)
 generalize lostI l m=lost at hcl HF
 generalize inside ⟨gn,glo,ghi⟩ ⟨hn,hlo,hhi⟩=ins at HS HF
 have HCL:=Lib.hid hcl
 clear hcl
 go_upto_region 2 with(first|(with_reducible first|refine lld hL ?_|((first|refine lbx hL ?_|refine lal hL ?_|refine lbs hL ?_);clear hL;intro bl w1 hL)|(refine lst' hL ?_;clear hL;intro w1 hL))|(go_at_call 186;((with_reducible refine(HCL.out).mono ?_);rintro e w1 ⟨rfl,hb⟩;replace hL:=hL.grow hb;clear hb;dsimp only)))
 refine seq_begin [10,11,12,13,14,15,16,17,18,19,20,21,22,23,24,25,26,27,28,29,30,31,32,33,34,35,36,37,38,39,40,41,42,43,44,45,4] ?_
 refine dv0 ?_
 refine dv1 0 ?_
 refine dv1 1 ?_
 refine dv1 2 ?_
 refine dg0 3 ?_
 refine dg1 3 4 ?_
 refine dpo 3 5 ?_
 refine dv1 6 ?_
 refine dg0 7 ?_
 refine dg1 7 8 ?_
 refine dg1 7 9 ?_
 refine dg1 7 10 ?_
 refine dc0 11 ?_
 refine dc1 11 12 ?_
 refine dgpo 7 11 13 ?_
 refine dpa 7 14 ?_
 refine dv1 15 ?_
 refine dg0 16 ?_
 refine dg1 16 17 ?_
 refine dg1 16 18 ?_
 refine dg1 16 19 ?_
 refine dc0 20 ?_
 refine dc1 20 21 ?_
 refine dgpo 16 20 22 ?_
 refine dpa 16 23 ?_
 refine dv1 24 ?_
 refine dg0 25 ?_
 refine dg1 25 26 ?_
 refine dg0 25 ?_
 refine dg1 25 28 ?_
 refine' draw_guard (j:=25) rfl rfl rfl (by decide) (by simp) ?_ ?_;rotate_left
 ·intro hcs;simp only[Bool.and_eq_true,beqT,beqF]at hcs;intro g w hb V;replace hL:=hL.grow hb;have d27:=yv V 27;simp only[hcs,beq_self_eq_true,Bool.and_self,Bool.true_and,Bool.and_true,cnd_true]at d27;have d29:=yv V 29;simp only[hcs,beq_self_eq_true,Bool.and_self,Bool.true_and,Bool.and_true,cnd_true]at d29;clear V;simp only[fillD,fLa,fLb,sTa,sTb];simp only[d27,d29]
  go_wp2_with (go_at_call 190;refine(HS.out _).mono ?_;rintro e w3 ⟨rfl,hb3⟩;dsimp only)
  exact⟨rfl,_,rfl,(by assumption),rfl⟩
 simp only[apN,apC]
 refine dpa 25 30 ?_
 refine dv1 31 ?_
 refine dg0 32 ?_
 refine dg1 32 33 ?_
 refine dpa 32 34 ?_
 refine dv1 35 ?_
 refine dns hL ?_
 clear hL;intro w2 hL;simp only[fillX,sTa,sTb]
 go_wp2_with (first|(with_reducible first|refine lld hL ?_|((first|refine lbx hL ?_|refine lal hL ?_|refine lbs hL ?_);clear hL;intro bl w1 hL)|(refine lst' hL ?_;clear hL;intro w1 hL)))
 (try simp only[Exit.inBlock,Exit.then]);refine rt1 ?_
 exact⟨by rw[HF.out];rfl,hL.below⟩
theorem field_span (s:Span) (w:World):(Instr.field 106 (.agg #[.bool s.none,.int .i64 s.lo,.int .i64 s.hi]) 0).run Tryz.prog w=.ok (.bool s.none) w:=by
 obtain⟨a,b,c⟩:=s
 first|with_unfolding_all rfl|kernel_rfl
theorem wp_field_span {ops:Array Oper}{Q:Exit→Act→World→Prop}{act:Act}{w:World}{rest:List Oper}{d:Option Tmp}{ty:TypeId}{pos:String}{after:Array Edge}{x:Operand}{s:Span}(ha:act.eval x=s.v)
  (h:wpList Tryz.prog ops Q rest (act.put d (.bool s.none)) w):wpList Tryz.prog ops Q (⟨d,.field 106 x 0,ty,pos,after,none⟩::rest) act w:=
 wpList_val (w':=w) rfl (by
  simp only[execOp]
  rw[ha]
  rw[Sem.run_bind,field_span]
  rfl) h
def commonI (l m:List Int):Bool:=anyN (fun k=>hasI m (l.getD k 0)) l.length
def maySame (g h:Gu) (l m:List Int):Bool:=commonI l m || g.null&&h.null || g.tr&&h.tr || g.fa&&h.fa || !(common g.span h.span).none
def notSame (g h:Gu) (l m:List Int):Bool:=!(maySame g h l m&&oneG g&&oneG h)
theorem gsame_any (g h:Gu) (l m:List Int) (w:World) (hl:IntsAt w g.s l) (hm:IntsAt w h.s m) (n1:l.length≤1000000) (n2:m.length≤1000000):
  Calls Tryz.prog 205 #[g.v,h.v] w fun e w'=>e=.returned (.tuple #[.bool (maySame g h l m),.bool (notSame g h l m)])∧Below w.heap.size w w':=by
 have hg1:g.s.n≤1000000:=by rw[hl.n];exact n1
 have hh1:h.s.n≤1000000:=by rw[hm.n];exact n2
 have HO1:=Lib.hid (fun w'=>gone_any g hg1 w')
 have HO2:=Lib.hid (fun w'=>gone_any h hh1 w')
 have HS:=Lib.hid (fun w'=>common_any g.span h.span w')
 have HF:=Lib.hid (show maySame g h l m=(commonI l m || g.null&&h.null || g.tr&&h.tr || g.fa&&h.fa || !(common g.span h.span).none) from rfl)
 have HN:=Lib.hid (show notSame g h l m=!(maySame g h l m&&oneG g&&oneG h) from rfl)
 clear hg1 hh1 n1 n2
 obtain⟨gl,⟨gn,glo,ghi⟩,gt,gf,gs⟩:=g
 obtain⟨hl',⟨hn,hlo,hhi⟩,ht,hf,hs⟩:=h
 dsimp only at hl hm HF HN HS
 generalize common ⟨gn,glo,ghi⟩ ⟨hn,hlo,hhi⟩=cs at HF HS
 obtain⟨cn,clo,chi⟩:=cs
 dsimp only at HF HS
 have HL:=Lib.hid hl
 have HM:=Lib.hid hm
 clear hl hm
 have hL:=Loc.start w
 go_enter Tryz.func205,Tryz.ntmps205
 go_step
 go_step
 go_step
 ((with_reducible refine lbx hL ?_);clear hL;intro b2 w1 hL)
 ((with_reducible refine lbx hL ?_);clear hL;intro b3 w1 hL)
 go_upto_region 1 with(first|(with_reducible first|refine lld hL ?_|((first|refine lbx hL ?_|refine lal hL ?_|refine lbs hL ?_);clear hL;intro bl w1 hL)|(refine lst' hL ?_;clear hL;intro w1 hL)))
 have hcl:=containsInts gs l (fun k=>hasI m (l.getD k 0)) 232 (.pointer (some ⟨b3,0,none⟩)) _ (HL.out.grow hL.below) ⟨enterS,fun k _ w2 hb2=>same1_any hs m (l.getD k 0) b3 w2 ((hL.readsG (b:=b3) (Tv:=37) (off:=6) (v:=hs.v) cIn (Reads.cell tInts rfl)).grow hb2) ((HM.out.grow hL.below).grow hb2)⟩
 rw[show anyN (fun k=>hasI m (l.getD k 0)) l.length=commonI l m from rfl]at hcl
 generalize commonI l m=lost at hcl HF
 have HCL:=Lib.hid hcl
 clear hcl
 obtain⟨gp,gk,gc⟩:=gs
 obtain⟨hp,hk,hc⟩:=hs
 dsimp only[Gu.v]at HO1 HO2
 go_upto_region 2 with(first|(with_reducible first|refine lld hL ?_|((first|refine lbx hL ?_|refine lal hL ?_|refine lbs hL ?_);clear hL;intro bl w1 hL)|(refine lst' hL ?_;clear hL;intro w1 hL))|(go_at_call 186;((with_reducible refine(HCL.out).mono ?_);rintro e w1 ⟨rfl,hb⟩;replace hL:=hL.grow hb;clear hb;dsimp only)))
 refine seq_begin [12,13,14,15,16,17,18,19,20,21,22,23,24,25,26,27,28,29,30,31,32,33,34,35,36,37,38,39,40,41,42,43,44,45,7] ?_
 refine dv0 ?_
 refine dv1 0 ?_
 refine dg0 1 ?_
 refine dg1 1 2 ?_
 refine dg1 1 3 ?_
 refine dc0 4 ?_
 refine dc1 4 5 ?_
 refine dgpa 1 4 6 ?_
 refine dpo 1 7 ?_
 refine dv1 8 ?_
 refine dg0 9 ?_
 refine dg1 9 10 ?_
 refine dg1 9 11 ?_
 refine dc0 12 ?_
 refine dc1 12 13 ?_
 refine dgpa 9 12 14 ?_
 refine dpo 9 15 ?_
 refine dv1 16 ?_
 refine dg0 17 ?_
 refine dg1 17 18 ?_
 refine dg1 17 19 ?_
 refine dc0 20 ?_
 refine dc1 20 21 ?_
 refine dgpa 17 20 22 ?_
 refine dpo 17 23 ?_
 refine dv1 24 ?_
 refine dg0 25 ?_
 refine dg1 25 26 ?_
 refine dg0 25 ?_
 refine dg1 25 28 ?_
 refine' draw_guard (j:=25) rfl rfl rfl (by decide) (by simp) ?_ ?_;rotate_left
 ·intro hcs;simp only[Bool.and_eq_true,beqT,beqF]at hcs;intro g w hb V;replace hL:=hL.grow hb;have d27:=yv V 27;simp only[hcs,beq_self_eq_true,Bool.and_self,Bool.true_and,Bool.and_true,cnd_true]at d27;have d29:=yv V 29;simp only[hcs,beq_self_eq_true,Bool.and_self,Bool.true_and,Bool.and_true,cnd_true]at d29;clear V;simp only[fillD,fLa,fLb,sTa,sTb];simp only[d27,d29]
  go_wp2_with (go_at_call 203;refine(HS.out _).mono ?_;rintro e w3 ⟨rfl,hb3⟩;dsimp only)
  exact⟨rfl,_,rfl,(by assumption),rfl⟩
 simp only[apN,apC]
 refine' draw_guard (j:=25) rfl rfl rfl (by decide) (by simp) ?_ ?_;rotate_left
 ·intro hcs;simp only[Bool.and_eq_true,beqT,beqF]at hcs;intro g w hb V;replace hL:=hL.grow hb;have d30:=yv V 30;simp only[hcs,beq_self_eq_true,Bool.and_self,Bool.true_and,Bool.and_true,cnd_true]at d30;clear V;simp only[fillD,fLa,fLb,sTa,sTb];simp only[d30]
  refine wp_field_span (s:=⟨cn,clo,chi⟩) rfl ?_;go_wp2
  exact cY
 simp only[apN,apC]
 refine dg1 25 31 ?_
 refine dpo 25 32 ?_
 refine dv1 33 ?_
 refine dns hL ?_
 clear hL;intro w2 hL;simp only[fillX,sTa,sTb]
 rw[← HF.out]
 generalize hyes:maySame _ _ l m=yes at HN ⊢
 have HY:=Lib.hid hyes
 clear hyes
 generalize oneG _=o1 at HO1 HN
 generalize oneG _=o2 at HO2 HN
 go_upto_region 3 with(first|(with_reducible first|refine lld hL ?_|((first|refine lbx hL ?_|refine lal hL ?_|refine lbs hL ?_);clear hL;intro bl w1 hL)|(refine lst' hL ?_;clear hL;intro w1 hL)))
 refine seq_begin [46,47,48,49,50,51,52,53,54,55,56,4,5] ?_
 refine dv0 ?_
 refine dv0 ?_
 refine dv1 1 ?_
 refine dg0 2 ?_
 refine' draw_guard (j:=2) rfl rfl rfl (by decide) (by simp) ?_ ?_;rotate_left
 ·intro hcs;simp only[Bool.and_eq_true,beqT,beqF]at hcs;intro g w hb V;replace hL:=hL.grow hb;have d3:=yv V 3;simp only[hcs,beq_self_eq_true,Bool.and_self,Bool.true_and,Bool.and_true,cnd_true]at d3;clear V;simp only[fillD,fLa,fLb,sTa,sTb];simp only[d3]
  go_wp2_with (go_at_call 233;refine(HO1.out _).mono ?_;rintro e w3 ⟨rfl,hb3⟩;dsimp only)
  exact⟨rfl,_,rfl,(by assumption),rfl⟩
 simp only[apN,apC]
 refine dpa 2 4 ?_
 refine dv1 5 ?_
 refine dg0 6 ?_
 refine' draw_guard (j:=6) rfl rfl rfl (by decide) (by simp) ?_ ?_;rotate_left
 ·intro hcs;simp only[Bool.and_eq_true,beqT,beqF]at hcs;intro g w hb V;replace hL:=hL.grow hb;have d7:=yv V 7;simp only[hcs,beq_self_eq_true,Bool.and_self,Bool.true_and,Bool.and_true,cnd_true]at d7;clear V;simp only[fillD,fLa,fLb,sTa,sTb];simp only[d7]
  go_wp2_with (go_at_call 233;refine(HO2.out _).mono ?_;rintro e w3 ⟨rfl,hb3⟩;dsimp only)
  exact⟨rfl,_,rfl,(by assumption),rfl⟩
 simp only[apN,apC]
 refine dpa 6 8 ?_
 refine dv1 9 ?_
 refine dv1 0 ?_
 refine dv1 10 ?_
 refine dns hL ?_
 clear hL;intro w2 hL;simp only[fillX,sTa,sTb]
 go_wp2_with (first|(with_reducible first|refine lld hL ?_|((first|refine lbx hL ?_|refine lal hL ?_|refine lbs hL ?_);clear hL;intro bl w1 hL)|(refine lst' hL ?_;clear hL;intro w1 hL)))
 (try simp only[Exit.inBlock,Exit.then]);refine rt2 ?_
 exact⟨ret_two HY.out.symm (by rw[HN.out];cases yes<;>cases o1<;>cases o2<;>rfl),hL.below⟩
def twoG (k:Int) (g h:Gu):Gu:=if g.span.none || h.span.none then nothingG else if k=8 then ⟨false,noSpan,decide (g.span.lo<h.span.hi),decide (h.span.lo≤g.span.hi),nilSl⟩ else ⟨false,made k g.span h.span,false,false,nilSl⟩
theorem twoG_s (k:Int) (g h:Gu):(twoG k g h).s=nilSl:=by
 unfold twoG
 split
 ·rfl
 ·split<;>rfl
theorem two_any (k:Int) (hk:k=5∨k=6∨k=7∨k=8) (g h:Gu) (h1:Ends g.span) (h2:Ends h.span) (w:World):Calls Tryz.prog 206 #[.int .i64 k,g.v,h.v] w fun e w'=>e=.returned (twoG k g h).v∧Below w.heap.size w w':=by
 cases hn:(g.span.none || h.span.none) with
 | true=>
  rw[show twoG k g h=nothingG from if_pos hn]
  exact two_nil k g h hn w
 | false=>
  by_cases h8:k=8
  ·subst h8
   rw[show twoG 8 g h=_ from (if_neg (by rw[hn];decide)).trans (if_pos rfl)]
   exact two_less g h hn w
  ·rw[show twoG k g h=_ from (if_neg (by rw[hn];decide)).trans (if_neg h8)]
   exact two_made k (by omega) g h h1 h2 hn w
structure Res where
 null:Bool
 span:Span
 tr:Bool
 fa:Bool
 l:List Int
abbrev Res.gu (r:Res) (s:Sl):Gu:=⟨r.null,r.span,r.tr,r.fa,s⟩
abbrev nilR:Res:=⟨false,noSpan,false,false,[]⟩
def Gu.res (g:Gu) (l:List Int):Res:=⟨g.null,g.span,g.tr,g.fa,l⟩
def madeG (k:Int) (g h:Gu) (l m:List Int):Res × Bool:=
 if emptyG g || (!(k==10 || k==4)&&emptyG h) then (nilR,false)
 else if k=4 then (⟨g.null,both g.span noSpan,g.tr,g.fa,mixS l []⟩,false)
 else if k=10 then (⟨false,noSpan,noG g,yesG g,[]⟩,false)
 else if k=9 then (⟨false,noSpan,maySame g h l m,notSame g h l m,[]⟩,false)
 else ((twoG k g h).res [],otherG g || otherG h)
theorem enterB:∀ args w,(callFunc 60 args).run Tryz.prog w=.ok (.enter 60 args) w:=fun args w=>by kernel_rfl
theorem made_nil (k:Int) (g h:Gu) (hz:(emptyG g || (!(k==10 || k==4)&&emptyG h))=true) (w:World):
  Calls Tryz.prog 165 #[.int .i64 k,g.v,h.v] w fun e w'=>e=.returned (.tuple #[nothingG.v,.bool false])∧Below w.heap.size w w':=by
 have HE1:=Lib.hid (fun w'=>empty_any g w')
 have HE2:=Lib.hid (fun w'=>empty_any h w')
 generalize emptyG g=eg at HE1 hz
 generalize emptyG h=eh at HE2 hz
 obtain⟨gl,⟨gn,glo,ghi⟩,gt,gf,⟨gp,gk,gc⟩⟩:=g
 obtain⟨hl',⟨hn,hlo,hhi⟩,ht,hf,⟨hp,hk,hc⟩⟩:=h
 have hL:=Loc.start w
 go_enter Tryz.func165,Tryz.ntmps165
 go_upto_region 1 with(first|(with_reducible first|refine lld hL ?_|((first|refine lbx hL ?_|refine lal hL ?_|refine lbs hL ?_);clear hL;intro bl w1 hL)|(refine lst' hL ?_;clear hL;intro w1 hL)))
 refine seq_begin [11,12,13,14,15,16,8] ?_
 refine dv0 ?_
 refine dv1 0 ?_
 refine dv1 1 ?_
 refine dg0 2 ?_
 refine dg1 2 3 ?_
 refine dpo 2 4 ?_
 refine dv1 5 ?_
 refine dns hL ?_
 clear hL;intro w2 hL;simp only[fillX,sTa,sTb]
 generalize (k==10 || k==4)=al at hz ⊢
 cases eg with
 | true=>
  clear hz
  go_wp2_with (first|(with_reducible first|refine lld hL ?_|((first|refine lbx hL ?_|refine lal hL ?_|refine lbs hL ?_);clear hL;intro bl w1 hL)|(refine lst' hL ?_;clear hL;intro w1 hL))|(go_at_call 147;(with_reducible refine(HE1.out _).mono ?_);rintro e w1 ⟨rfl,hb⟩;replace hL:=hL.grow hb;clear hb;dsimp only)|(go_at_call 136;refine(nothing_any _).mono ?_;rintro e w1 ⟨rfl,hb⟩;replace hL:=hL.grow hb;clear hb;dsimp only))
  (try simp only[Exit.inBlock,Exit.then]);refine rt2 ?_
  exact⟨rfl,hL.below⟩
 | false=>
  obtain⟨rfl,rfl⟩:al=false∧eh=true:=by
   cases al<;>cases eh<;>simp_all
  clear hz
  go_wp2_with (first|(with_reducible first|refine lld hL ?_|((first|refine lbx hL ?_|refine lal hL ?_|refine lbs hL ?_);clear hL;intro bl w1 hL)|(refine lst' hL ?_;clear hL;intro w1 hL))|(go_at_call 147;(with_reducible refine(HE1.out _).mono ?_);rintro e w1 ⟨rfl,hb⟩;replace hL:=hL.grow hb;clear hb;dsimp only)|(go_at_call 147;(with_reducible refine(HE2.out _).mono ?_);rintro e w1 ⟨rfl,hb⟩;replace hL:=hL.grow hb;clear hb;dsimp only)|(go_at_call 136;refine(nothing_any _).mono ?_;rintro e w1 ⟨rfl,hb⟩;replace hL:=hL.grow hb;clear hb;dsimp only))
  (try simp only[Exit.inBlock,Exit.then]);refine rt2 ?_
  exact⟨rfl,hL.below⟩
theorem made_copy (g h:Gu) (l:List Int) (w:World) (hl:IntsAt w g.s l) (hlen:l.length≤1000000) (hz:emptyG g=false):
  Calls Tryz.prog 165 #[.int .i64 4,g.v,h.v] w fun e w'=>∃ r:Sl,e=.returned (.tuple #[Gu.v ⟨g.null,both g.span noSpan,g.tr,g.fa,r⟩,.bool false])∧OwnI w.heap.size w' r (mixS l [])∧Below w.heap.size w w':=by
 have HE1:=Lib.hid (fun w'=>empty_any g w')
 rw[hz]at HE1
 have HB:=Lib.hid (fun w' (hb:Below w.heap.size w w')=>gboth_any 60 both enterB both_any g nothingG l [] w' (hl.grow hb) (IntsAt.nil w') (by simp;omega))
 clear hl hlen hz
 obtain⟨gl,⟨gn,glo,ghi⟩,gt,gf,⟨gp,gk,gc⟩⟩:=g
 obtain⟨hl',⟨hn,hlo,hhi⟩,ht,hf,⟨hp,hk,hc⟩⟩:=h
 simp only[nothingG,Bool.or_false]at HB
 generalize mixS l []=ml at HB ⊢
 generalize hbs:both ⟨gn,glo,ghi⟩ noSpan=bs at HB ⊢
 clear hbs
 obtain⟨bn,blo,bhi⟩:=bs
 have hL:=Loc.start w
 go_enter Tryz.func165,Tryz.ntmps165
 go_step
 go_step
 go_step
 ((with_reducible refine lbx hL ?_);clear hL;intro b4 w1 hL)
 ((with_reducible refine lbx hL ?_);clear hL;intro b5 w1 hL)
 ((with_reducible refine lal hL ?_);clear hL;intro b6 w1 hL)
 go_upto_region 6 with(first|(with_reducible first|refine lld hL ?_|((first|refine lbx hL ?_|refine lal hL ?_|refine lbs hL ?_);clear hL;intro bl w1 hL)|(refine lst' hL ?_;clear hL;intro w1 hL))|(go_at_call 147;(with_reducible refine(HE1.out _).mono ?_);rintro e w1 ⟨rfl,hb⟩;replace hL:=hL.grow hb;clear hb;dsimp only))
 refine draw_begin [31,32,33] ?_
 refine dv0 ?_
 apply draw_val
 ·intro g w hb V;replace hL:=hL.grow hb;clear V;simp only[fillD,fLa,fLb,sTa,sTb]
  go_wp2_with (go_at_call 136;refine(nothing_any _).mono ?_;rintro e w3 ⟨rfl,hb3⟩;dsimp only)
  exact⟨rfl,_,rfl,(by assumption),rfl⟩
 simp only[apN,apC]
 refine draw_next (GuR w1.heap.size gl ⟨bn,blo,bhi⟩ gt gf ml) GuR.stable ?_ ?_
 ·intro g w hb V;replace hL:=hL.grow hb;have d0:=yv V 0;have d1:=yv V 1;clear V;simp only[fillD,fLa,fLb,sTa,sTb];simp only[d0,d1]
  go_wp2_with (go_at_call 104;refine(HB.out _ hL.below).mono ?_;rintro e w3 ⟨r,rfl,⟨R,hr,ho⟩,hb3⟩;dsimp only)
  exact⟨rfl,_,rfl,hb3,r,R,rfl,hr,ho.mono hb.size⟩
 simp only[apN,apC]
 refine draw_end hL (by kernel_rfl) (by kernel_rfl) ?_
 intro g w2 hb hR;simp only[List.length_cons,List.length_nil,Nat.reduceAdd]at hR
 have e0:=yv hR 0
 have e1:=yv hR 1
 have e2:(GuR w1.heap.size gl ⟨bn,blo,bhi⟩ gt gf ml) (g 33) w2:=yr hR 2
 obtain⟨⟨x2,y2,z2⟩,R2,e2,i2,o2⟩:=e2
 clear hR;simp only[fillD,fLa,fLb,sTa,sTb]
 simp only[e0,e1,e2]
 clear e0 e1 e2
 replace hL:=hL.gainTail hb o2
 simp only[List.cons_append,List.nil_append]at hL
 clear hb
 clear o2
 go_wp2_with (first|(with_reducible first|refine lld hL ?_|((first|refine lbx hL ?_|refine lal hL ?_|refine lbs hL ?_);clear hL;intro bl w1 hL)|(refine lst' hL ?_;clear hL;intro w1 hL)))
 (try simp only[Exit.inBlock,Exit.then]);refine rt2 ?_
 exact⟨⟨x2,y2,z2⟩,rfl,⟨R2,i2,hL.ownOf (List.sublist_append_right [_,_,_] _)⟩,hL.below⟩
theorem made_not (g h:Gu) (w:World) (hz:emptyG g=false):
  Calls Tryz.prog 165 #[.int .i64 10,g.v,h.v] w fun e w'=>e=.returned (.tuple #[Gu.v ⟨false,noSpan,noG g,yesG g,nilSl⟩,.bool false])∧Below w.heap.size w w':=by
 have HE1:=Lib.hid (fun w'=>empty_any g w')
 rw[hz]at HE1
 have HC:=Lib.hid (fun w'=>gcounts_any g w')
 clear hz
 generalize yesG g=y at HC ⊢
 generalize noG g=n at HC ⊢
 obtain⟨gl,⟨gn,glo,ghi⟩,gt,gf,⟨gp,gk,gc⟩⟩:=g
 obtain⟨hl',⟨hn,hlo,hhi⟩,ht,hf,⟨hp,hk,hc⟩⟩:=h
 have hL:=Loc.start w
 go_enter Tryz.func165,Tryz.ntmps165
 go_wp2_with (first|(with_reducible first|refine lld hL ?_|((first|refine lbx hL ?_|refine lal hL ?_|refine lbs hL ?_);clear hL;intro bl w1 hL)|(refine lst' hL ?_;clear hL;intro w1 hL))|(go_at_call 147;(with_reducible refine(HE1.out _).mono ?_);rintro e w1 ⟨rfl,hb⟩;replace hL:=hL.grow hb;clear hb;dsimp only)|(go_at_call 158;refine(HC.out _).mono ?_;rintro e w1 ⟨rfl,hb⟩;replace hL:=hL.grow hb;clear hb;dsimp only)|(go_at_call 204;refine(truths_any _ _ _).mono ?_;rintro e w1 ⟨rfl,hb⟩;replace hL:=hL.grow hb;clear hb;dsimp only))
 (try simp only[Exit.inBlock,Exit.then]);refine rt2 ?_
 exact⟨rfl,hL.below⟩
theorem made_same (g h:Gu) (l m:List Int) (w:World) (hl:IntsAt w g.s l) (hm:IntsAt w h.s m) (n1:l.length≤1000000) (n2:m.length≤1000000) (hz:emptyG g=false) (hz2:emptyG h=false):
  Calls Tryz.prog 165 #[.int .i64 9,g.v,h.v] w fun e w'=>e=.returned (.tuple #[Gu.v ⟨false,noSpan,maySame g h l m,notSame g h l m,nilSl⟩,.bool false])∧Below w.heap.size w w':=by
 have HE1:=Lib.hid (fun w'=>empty_any g w')
 have HE2:=Lib.hid (fun w'=>empty_any h w')
 rw[hz]at HE1
 rw[hz2]at HE2
 have HC:=Lib.hid (fun w' (hb:Below w.heap.size w w')=>gsame_any g h l m w' (hl.grow hb) (hm.grow hb) n1 n2)
 clear hz hz2 hl hm n1 n2
 generalize maySame g h l m=y at HC ⊢
 generalize notSame g h l m=n at HC ⊢
 obtain⟨gl,⟨gn,glo,ghi⟩,gt,gf,⟨gp,gk,gc⟩⟩:=g
 obtain⟨hl',⟨hn,hlo,hhi⟩,ht,hf,⟨hp,hk,hc⟩⟩:=h
 have hL:=Loc.start w
 go_enter Tryz.func165,Tryz.ntmps165
 go_wp2_with (first|(with_reducible first|refine lld hL ?_|((first|refine lbx hL ?_|refine lal hL ?_|refine lbs hL ?_);clear hL;intro bl w1 hL)|(refine lst' hL ?_;clear hL;intro w1 hL))|(go_at_call 147;(with_reducible refine(HE1.out _).mono ?_);rintro e w1 ⟨rfl,hb⟩;replace hL:=hL.grow hb;clear hb;dsimp only)|(go_at_call 147;(with_reducible refine(HE2.out _).mono ?_);rintro e w1 ⟨rfl,hb⟩;replace hL:=hL.grow hb;clear hb;dsimp only)|(go_at_call 205;refine(HC.out _ hL.below).mono ?_;rintro e w1 ⟨rfl,hb⟩;replace hL:=hL.grow hb;clear hb;dsimp only)|(go_at_call 204;refine(truths_any _ _ _).mono ?_;rintro e w1 ⟨rfl,hb⟩;replace hL:=hL.grow hb;clear hb;dsimp only))
 (try simp only[Exit.inBlock,Exit.then]);refine rt2 ?_
 exact⟨rfl,hL.below⟩
theorem made_two (k:Int) (hk:k=5∨k=6∨k=7∨k=8) (g h:Gu) (h1:Ends g.span) (h2:Ends h.span) (w:World) (hz:emptyG g=false) (hz2:emptyG h=false):
  Calls Tryz.prog 165 #[.int .i64 k,g.v,h.v] w fun e w'=>e=.returned (.tuple #[(twoG k g h).v,.bool (otherG g || otherG h)])∧Below w.heap.size w w':=by
 have HE1:=Lib.hid (fun w'=>empty_any g w')
 have HE2:=Lib.hid (fun w'=>empty_any h w')
 rw[hz]at HE1
 rw[hz2]at HE2
 have HC:=Lib.hid (fun w'=>two_any k hk g h h1 h2 w')
 have HO1:=Lib.hid (fun w'=>other_any g w')
 have HO2:=Lib.hid (fun w'=>other_any h w')
 have k4:(k==4)=false:=beq_eq_false_iff_ne.2 (by omega)
 have k9:(k==9)=false:=beq_eq_false_iff_ne.2 (by omega)
 have k10:(k==10)=false:=beq_eq_false_iff_ne.2 (by omega)
 clear hz hz2 h1 h2 hk
 generalize twoG k g h=t at HC ⊢
 generalize otherG g=og at HO1 ⊢
 generalize otherG h=oh at HO2 ⊢
 obtain⟨tl,⟨tn,tlo,thi⟩,tt,tf,⟨tp,tk,tc⟩⟩:=t
 obtain⟨gl,⟨gn,glo,ghi⟩,gt,gf,⟨gp,gk,gc⟩⟩:=g
 obtain⟨hl',⟨hn,hlo,hhi⟩,ht,hf,⟨hp,hk,hc⟩⟩:=h
 have hL:=Loc.start w
 go_enter Tryz.func165,Tryz.ntmps165
 go_upto_region 12 with(first|(with_reducible first|refine lld hL ?_|((first|refine lbx hL ?_|refine lal hL ?_|refine lbs hL ?_);clear hL;intro bl w1 hL)|(refine lst' hL ?_;clear hL;intro w1 hL))|(go_at_call 147;(with_reducible refine(HE1.out _).mono ?_);rintro e w1 ⟨rfl,hb⟩;replace hL:=hL.grow hb;clear hb;dsimp only)|(go_at_call 147;(with_reducible refine(HE2.out _).mono ?_);rintro e w1 ⟨rfl,hb⟩;replace hL:=hL.grow hb;clear hb;dsimp only))
 refine draw_begin [52,53,54,55,56,57,58,59,60,61] ?_
 refine dv0 ?_
 refine dv0 ?_
 refine dv0 ?_
 apply draw_val
 ·intro g w hb V;replace hL:=hL.grow hb;have d0:=yv V 0;have d1:=yv V 1;have d2:=yv V 2;clear V;simp only[fillD,fLa,fLb,sTa,sTb];simp only[d0,d1,d2]
  go_wp2_with (go_at_call 206;refine(HC.out _).mono ?_;rintro e w3 ⟨rfl,hb3⟩;dsimp only)
  exact⟨rfl,_,rfl,(by assumption),rfl⟩
 simp only[apN,apC]
 refine dv0 ?_
 apply draw_val
 ·intro g w hb V;replace hL:=hL.grow hb;have d4:=yv V 4;clear V;simp only[fillD,fLa,fLb,sTa,sTb];simp only[d4]
  go_wp2_with (go_at_call 207;(with_reducible refine(HO1.out _).mono ?_);rintro e w3 ⟨rfl,hb3⟩;dsimp only)
  exact⟨rfl,_,rfl,(by assumption),rfl⟩
 simp only[apN,apC]
 refine dv1 5 ?_
 refine dg0 6 ?_
 refine' draw_guard (j:=6) rfl rfl rfl (by decide) (by simp) ?_ ?_;rotate_left
 ·intro hcs;simp only[Bool.and_eq_true,beqT,beqF]at hcs;intro g w hb V;replace hL:=hL.grow hb;have d7:=yv V 7;simp only[hcs,beq_self_eq_true,Bool.and_self,Bool.true_and,Bool.and_true,cnd_true]at d7;clear V;simp only[fillD,fLa,fLb,sTa,sTb];simp only[d7]
  go_wp2_with (go_at_call 207;(with_reducible refine(HO2.out _).mono ?_);rintro e w3 ⟨rfl,hb3⟩;dsimp only)
  exact⟨rfl,_,rfl,(by assumption),rfl⟩
 simp only[apN,apC]
 refine dpo 6 8 ?_
 refine draw_end1 9 hL (by kernel_rfl) (by kernel_rfl) (fun _ _ _ _ _ h=>h) ?_ ?_
 ·(refine late_ok rfl rfl ?_;intro g w hb V;(try simp[depsOf,List.filter_cons,Region.binds,AllR,RAt]at V);simp only[fillD,List.foldl_cons,List.foldl_nil,List.set_cons_succ,List.set_cons_zero];(try simp only[V]);exact⟨_,.inl ⟨rfl,fun w=>(by go_simp<;>(try (split<;>(rename_i hs;simp[hs,cnd]))))⟩,rfl⟩)
 intro g w2 hb hR;simp only[List.length_cons,List.length_nil,Nat.reduceAdd]at hR
 have e0:=yv hR 0
 have e1:=yv hR 1
 have e2:=yv hR 2
 have e3:=yv hR 3
 have e4:=yv hR 4
 have e5:=yv hR 5
 have e6:=yv hR 6
 have e7:=yv hR 7
 have e8:=yv hR 8
 have e9:=yv hR 9
 clear hR;simp only[fillD,fLa,fLb,sTa,sTb]
 simp only[e0,e1,e2,e3,e4,e5,e6,e7,e8,e9]
 clear e0 e1 e2 e3 e4 e5 e6 e7 e8 e9
 replace hL:=hL.grow hb
 clear hb
 go_wp2_with (first|(with_reducible first|refine lld hL ?_|((first|refine lbx hL ?_|refine lal hL ?_|refine lbs hL ?_);clear hL;intro bl w1 hL)|(refine lst' hL ?_;clear hL;intro w1 hL)))
 (try simp only[Exit.inBlock,Exit.then]);refine rt2 ?_
 exact⟨rfl,hL.below⟩
theorem twoG_made {k:Int}(h8:k≠8) (g h:Gu):twoG k g h=⟨false,made k g.span h.span,false,false,nilSl⟩:=by
 unfold twoG
 by_cases hn:(g.span.none || h.span.none)=true
 ·rw[if_pos hn]
  unfold made
  rw[if_pos hn]
 ·rw[if_neg hn,if_neg h8]
theorem anyN_succ (q:Nat→Bool) (n:Nat):anyN q (n+1)=(anyN q n || q n):=by
 simp[anyN,List.range_succ]
def rNotSame (g h:Gu):Bool:=decide (singleG g<0) || singleG g != singleG h || !(g.span.none==h.span.none&&g.span.lo==h.span.lo&&g.span.hi==h.span.hi)
theorem rDoSpan_none (k:Int) (s t:Span) (hz:(s.none || t.none)=true) (w:World):Calls Tryz.prog 124 #[.int .i64 k,s.v,t.v] w fun e w'=>e=.returned noSpan.v∧Below w.heap.size w w':=by
 obtain⟨sn,slo,shi⟩:=s
 obtain⟨tn,tlo,thi⟩:=t
 dsimp only at hz
 have hL:=Loc.start w
 go_enter Tryz.func124,Tryz.ntmps124
 cases sn with
 | true=>
  clear hz
  go_wp2_with (first|(with_reducible first|refine lld hL ?_|((first|refine lbx hL ?_|refine lal hL ?_|refine lbs hL ?_);clear hL;intro bl w1 hL)|(refine lst' hL ?_;clear hL;intro w1 hL)))
  (try simp only[Exit.inBlock,Exit.then]);refine rt1 ?_
  exact⟨rfl,hL.below⟩
 | false=>
  obtain rfl:tn=true:=by simpa using hz
  clear hz
  go_wp2_with (first|(with_reducible first|refine lld hL ?_|((first|refine lbx hL ?_|refine lal hL ?_|refine lbs hL ?_);clear hL;intro bl w1 hL)|(refine lst' hL ?_;clear hL;intro w1 hL)))
  (try simp only[Exit.inBlock,Exit.then]);refine rt1 ?_
  exact⟨rfl,hL.below⟩
theorem rDoSpan_any (k:Int) (hk:k=5∨k=6∨k=7) (s t:Span) (hs:checkSpan s=0) (ht:checkSpan t=0) (w:World):Calls Tryz.prog 124 #[.int .i64 k,s.v,t.v] w fun e w'=>e=.returned (made k s t).v∧Below w.heap.size w w':=by
 by_cases hz:(s.none || t.none)=true
 ·rw[show made k s t=noSpan from if_pos hz]
  exact rDoSpan_none k s t hz w
 ·obtain⟨h1,h2⟩:s.none=false∧t.none=false:=by simpa using hz
  rcases hk with rfl|rfl|rfl
  ·exact rDo_5 s t hs ht h1 h2 w
  ·exact rDo_6 s t hs ht h1 h2 w
  ·exact rDo_7 s t hs ht h1 h2 w
theorem rdo_nil (k:Int) (g h:Gu) (hz:(emptyG g || (!(k==10 || k==4)&&emptyG h))=true) (w:World):
  Calls Tryz.prog 82 #[.int .i64 k,g.v,h.v] w fun e w'=>e=.returned (.tuple #[nothingG.v,.bool false])∧Below w.heap.size w w':=by
 have HE1:=Lib.hid (fun w'=>rIsNothing_any g w')
 have HE2:=Lib.hid (fun w'=>rIsNothing_any h w')
 generalize emptyG g=eg at HE1 hz
 generalize emptyG h=eh at HE2 hz
 obtain⟨gl,⟨gn,glo,ghi⟩,gt,gf,⟨gp,gk,gc⟩⟩:=g
 obtain⟨hl',⟨hn,hlo,hhi⟩,ht,hf,⟨hp,hk,hc⟩⟩:=h
 have hL:=Loc.start w
 go_enter Tryz.func82,Tryz.ntmps82
 cases eg with
 | true=>
  clear hz
  go_wp2_with (first|(with_reducible first|refine lld hL ?_|((first|refine lbx hL ?_|refine lal hL ?_|refine lbs hL ?_);clear hL;intro bl w1 hL)|(refine lst' hL ?_;clear hL;intro w1 hL))|(go_at_call 83;(with_reducible refine(HE1.out _).mono ?_);rintro e w1 ⟨rfl,hb⟩;replace hL:=hL.grow hb;clear hb;dsimp only)|(go_at_call 78;refine(rNothing_any _).mono ?_;rintro e w1 ⟨rfl,hb⟩;replace hL:=hL.grow hb;clear hb;dsimp only))
  (try simp only[Exit.inBlock,Exit.then]);refine rt2 ?_
  exact⟨rfl,hL.below⟩
 | false=>
  obtain⟨h4,h10,rfl⟩:k≠4∧k≠10∧eh=true:=by
   simp at hz
   exact⟨hz.1.2,hz.1.1,hz.2⟩
  have k4:(k != 4)=true:=by simpa using h4
  have k10:(k != 10)=true:=by simpa using h10
  clear hz h4 h10
  go_wp2_with (first|(with_reducible first|refine lld hL ?_|((first|refine lbx hL ?_|refine lal hL ?_|refine lbs hL ?_);clear hL;intro bl w1 hL)|(refine lst' hL ?_;clear hL;intro w1 hL))|(go_at_call 83;(with_reducible refine(HE1.out _).mono ?_);rintro e w1 ⟨rfl,hb⟩;replace hL:=hL.grow hb;clear hb;dsimp only)|(go_at_call 83;(with_reducible refine(HE2.out _).mono ?_);rintro e w1 ⟨rfl,hb⟩;replace hL:=hL.grow hb;clear hb;dsimp only)|(go_at_call 78;refine(rNothing_any _).mono ?_;rintro e w1 ⟨rfl,hb⟩;replace hL:=hL.grow hb;clear hb;dsimp only))
  (try simp only[Exit.inBlock,Exit.then]);refine rt2 ?_
  exact⟨rfl,hL.below⟩
theorem rdo_copy (g h:Gu) (w:World) (hz:emptyG g=false):
  Calls Tryz.prog 82 #[.int .i64 4,g.v,h.v] w fun e w'=>e=.returned (.tuple #[g.v,.bool false])∧Below w.heap.size w w':=by
 have HE1:=Lib.hid (fun w'=>rIsNothing_any g w')
 rw[hz]at HE1
 clear hz
 obtain⟨gl,⟨gn,glo,ghi⟩,gt,gf,⟨gp,gk,gc⟩⟩:=g
 obtain⟨hl',⟨hn,hlo,hhi⟩,ht,hf,⟨hp,hk,hc⟩⟩:=h
 have hL:=Loc.start w
 go_enter Tryz.func82,Tryz.ntmps82
 go_wp2_with (first|(with_reducible first|refine lld hL ?_|((first|refine lbx hL ?_|refine lal hL ?_|refine lbs hL ?_);clear hL;intro bl w1 hL)|(refine lst' hL ?_;clear hL;intro w1 hL))|(go_at_call 83;(with_reducible refine(HE1.out _).mono ?_);rintro e w1 ⟨rfl,hb⟩;replace hL:=hL.grow hb;clear hb;dsimp only)|(go_at_call 78;refine(rNothing_any _).mono ?_;rintro e w1 ⟨rfl,hb⟩;replace hL:=hL.grow hb;clear hb;dsimp only))
 (try simp only[Exit.inBlock,Exit.then]);refine rt2 ?_
 exact⟨rfl,hL.below⟩
theorem rdo_not (g h:Gu) (w:World) (hz:emptyG g=false):
  Calls Tryz.prog 82 #[.int .i64 10,g.v,h.v] w fun e w'=>e=.returned (.tuple #[Gu.v ⟨false,noSpan,noG g,yesG g,nilSl⟩,.bool false])∧Below w.heap.size w w':=by
 have HE1:=Lib.hid (fun w'=>rIsNothing_any g w')
 rw[hz]at HE1
 have HC:=Lib.hid (fun w'=>rTruthOf_any g w')
 clear hz
 generalize yesG g=y at HC ⊢
 generalize noG g=n at HC ⊢
 obtain⟨gl,⟨gn,glo,ghi⟩,gt,gf,⟨gp,gk,gc⟩⟩:=g
 obtain⟨hl',⟨hn,hlo,hhi⟩,ht,hf,⟨hp,hk,hc⟩⟩:=h
 have hL:=Loc.start w
 go_enter Tryz.func82,Tryz.ntmps82
 go_wp2_with (first|(with_reducible first|refine lld hL ?_|((first|refine lbx hL ?_|refine lal hL ?_|refine lbs hL ?_);clear hL;intro bl w1 hL)|(refine lst' hL ?_;clear hL;intro w1 hL))|(go_at_call 83;(with_reducible refine(HE1.out _).mono ?_);rintro e w1 ⟨rfl,hb⟩;replace hL:=hL.grow hb;clear hb;dsimp only)|(go_at_call 78;refine(rNothing_any _).mono ?_;rintro e w1 ⟨rfl,hb⟩;replace hL:=hL.grow hb;clear hb;dsimp only)|(go_at_call 79;refine(HC.out _).mono ?_;rintro e w1 ⟨rfl,hb⟩;replace hL:=hL.grow hb;clear hb;dsimp only))
 (try simp only[Exit.inBlock,Exit.then]);refine rt2 ?_
 exact⟨rfl,hL.below⟩
theorem rdo_span (k:Int) (hk:k=5∨k=6∨k=7) (g h:Gu) (h1:checkSpan g.span=0) (h2:checkSpan h.span=0) (w:World) (hz:emptyG g=false) (hz2:emptyG h=false):
  Calls Tryz.prog 82 #[.int .i64 k,g.v,h.v] w fun e w'=>e=.returned (.tuple #[(twoG k g h).v,.bool (otherG g || otherG h)])∧Below w.heap.size w w':=by
 have HE1:=Lib.hid (fun w'=>rIsNothing_any g w')
 have HE2:=Lib.hid (fun w'=>rIsNothing_any h w')
 rw[hz]at HE1
 rw[hz2]at HE2
 have HC:=Lib.hid (fun w'=>rDoSpan_any k hk g.span h.span h1 h2 w')
 have HO1:=Lib.hid (fun w'=>rNoNumber_any g w')
 have HO2:=Lib.hid (fun w'=>rNoNumber_any h w')
 have k4:(k==4)=false:=beq_eq_false_iff_ne.2 (by omega)
 have k9:(k==9)=false:=beq_eq_false_iff_ne.2 (by omega)
 have k8:(k==8)=false:=beq_eq_false_iff_ne.2 (by omega)
 have k10:(k==10)=false:=beq_eq_false_iff_ne.2 (by omega)
 have m4:(k != 4)=true:=by simpa using (show k≠4 by omega)
 have m10:(k != 10)=true:=by simpa using (show k≠10 by omega)
 rw[twoG_made (by omega)]
 clear hz hz2 h1 h2 hk
 generalize made k g.span h.span=t at HC ⊢
 generalize otherG g=og at HO1 ⊢
 generalize otherG h=oh at HO2 ⊢
 obtain⟨tn,tlo,thi⟩:=t
 obtain⟨gl,⟨gn,glo,ghi⟩,gt,gf,⟨gp,gk,gc⟩⟩:=g
 obtain⟨hl',⟨hn,hlo,hhi⟩,ht,hf,⟨hp,hk,hc⟩⟩:=h
 have hL:=Loc.start w
 go_enter Tryz.func82,Tryz.ntmps82
 go_upto_region 26 with(first|(with_reducible first|refine lld hL ?_|((first|refine lbx hL ?_|refine lal hL ?_|refine lbs hL ?_);clear hL;intro bl w1 hL)|(refine lst' hL ?_;clear hL;intro w1 hL))|(go_at_call 83;(with_reducible refine(HE1.out _).mono ?_);rintro e w1 ⟨rfl,hb⟩;replace hL:=hL.grow hb;clear hb;dsimp only)|(go_at_call 83;(with_reducible refine(HE2.out _).mono ?_);rintro e w1 ⟨rfl,hb⟩;replace hL:=hL.grow hb;clear hb;dsimp only)|(go_at_call 78;refine(rNothing_any _).mono ?_;rintro e w1 ⟨rfl,hb⟩;replace hL:=hL.grow hb;clear hb;dsimp only)|(go_at_call 124;refine(HC.out _).mono ?_;rintro e w1 ⟨rfl,hb⟩;replace hL:=hL.grow hb;clear hb;dsimp only))
 refine draw_begin [161,162,163,164,165,166,167] ?_
 refine dv0 ?_
 refine dv0 ?_
 apply draw_val
 ·intro g w hb V;replace hL:=hL.grow hb;have d1:=yv V 1;clear V;simp only[fillD,fLa,fLb,sTa,sTb];simp only[d1]
  go_wp2_with (go_at_call 123;(with_reducible refine(HO1.out _).mono ?_);rintro e w3 ⟨rfl,hb3⟩;dsimp only)
  exact⟨rfl,_,rfl,(by assumption),rfl⟩
 simp only[apN,apC]
 refine dv1 2 ?_
 refine dg0 3 ?_
 refine' draw_guard (j:=3) rfl rfl rfl (by decide) (by simp) ?_ ?_;rotate_left
 ·intro hcs;simp only[Bool.and_eq_true,beqT,beqF]at hcs;intro g w hb V;replace hL:=hL.grow hb;have d4:=yv V 4;simp only[hcs,beq_self_eq_true,Bool.and_self,Bool.true_and,Bool.and_true,cnd_true]at d4;clear V;simp only[fillD,fLa,fLb,sTa,sTb];simp only[d4]
  go_wp2_with (go_at_call 123;(with_reducible refine(HO2.out _).mono ?_);rintro e w3 ⟨rfl,hb3⟩;dsimp only)
  exact⟨rfl,_,rfl,(by assumption),rfl⟩
 simp only[apN,apC]
 refine dpo 3 5 ?_
 refine draw_end1 6 hL (by kernel_rfl) (by kernel_rfl) (fun _ _ _ _ _ h=>h) ?_ ?_
 ·(refine late_ok rfl rfl ?_;intro g w hb V;(try simp[depsOf,List.filter_cons,Region.binds,AllR,RAt]at V);simp only[fillD,List.foldl_cons,List.foldl_nil,List.set_cons_succ,List.set_cons_zero];(try simp only[V]);exact⟨_,.inl ⟨rfl,fun w=>(by go_simp<;>(try (split<;>(rename_i hs;simp[hs,cnd]))))⟩,rfl⟩)
 intro g w2 hb hR;simp only[List.length_cons,List.length_nil,Nat.reduceAdd]at hR
 have e0:=yv hR 0
 have e1:=yv hR 1
 have e2:=yv hR 2
 have e3:=yv hR 3
 have e4:=yv hR 4
 have e5:=yv hR 5
 have e6:=yv hR 6
 clear hR;simp only[fillD,fLa,fLb,sTa,sTb]
 simp only[e0,e1,e2,e3,e4,e5,e6]
 clear e0 e1 e2 e3 e4 e5 e6
 replace hL:=hL.grow hb
 clear hb
 go_wp2_with (first|(with_reducible first|refine lld hL ?_|((first|refine lbx hL ?_|refine lal hL ?_|refine lbs hL ?_);clear hL;intro bl w1 hL)|(refine lst' hL ?_;clear hL;intro w1 hL)))
 (try simp only[Exit.inBlock,Exit.then]);refine rt2 ?_
 exact⟨rfl,hL.below⟩
theorem rdo_less (g h:Gu) (w:World) (hz:emptyG g=false) (hz2:emptyG h=false):
  Calls Tryz.prog 82 #[.int .i64 8,g.v,h.v] w fun e w'=>e=.returned (.tuple #[(twoG 8 g h).v,.bool (otherG g || otherG h)])∧Below w.heap.size w w':=by
 have HE1:=Lib.hid (fun w'=>rIsNothing_any g w')
 have HE2:=Lib.hid (fun w'=>rIsNothing_any h w')
 rw[hz]at HE1
 rw[hz2]at HE2
 have HO1:=Lib.hid (fun w'=>rNoNumber_any g w')
 have HO2:=Lib.hid (fun w'=>rNoNumber_any h w')
 clear hz hz2
 generalize otherG g=og at HO1 ⊢
 generalize otherG h=oh at HO2 ⊢
 unfold twoG
 obtain⟨gl,⟨gn,glo,ghi⟩,gt,gf,⟨gp,gk,gc⟩⟩:=g
 obtain⟨hl',⟨hn,hlo,hhi⟩,ht,hf,⟨hp,hk,hc⟩⟩:=h
 dsimp only
 generalize ha:decide (glo<hhi)=a
 generalize hb:decide (hlo≤ghi)=b
 have HA:=Lib.hid ha
 have HB:=Lib.hid hb
 clear ha hb
 cases gn<;>cases hn
 all_goals
  have hL:=Loc.start w
  go_enter Tryz.func82,Tryz.ntmps82
  go_upto_region 24 with(first|(with_reducible first|refine lld hL ?_|((first|refine lbx hL ?_|refine lal hL ?_|refine lbs hL ?_);clear hL;intro bl w1 hL)|(refine lst' hL ?_;clear hL;intro w1 hL))|(go_at_call 83;(with_reducible refine(HE1.out _).mono ?_);rintro e w1 ⟨rfl,hb⟩;replace hL:=hL.grow hb;clear hb;dsimp only)|(go_at_call 83;(with_reducible refine(HE2.out _).mono ?_);rintro e w1 ⟨rfl,hb⟩;replace hL:=hL.grow hb;clear hb;dsimp only)|(go_at_call 78;refine(rNothing_any _).mono ?_;rintro e w1 ⟨rfl,hb⟩;replace hL:=hL.grow hb;clear hb;dsimp only))
  refine draw_begin [147,148,149,150,151,152,153] ?_
  refine dv0 ?_
  refine dv0 ?_
  apply draw_val
  ·intro g w hb V;replace hL:=hL.grow hb;have d1:=yv V 1;clear V;simp only[fillD,fLa,fLb,sTa,sTb];simp only[d1]
   go_wp2_with (go_at_call 123;(with_reducible refine(HO1.out _).mono ?_);rintro e w3 ⟨rfl,hb3⟩;dsimp only)
   exact⟨rfl,_,rfl,(by assumption),rfl⟩
  simp only[apN,apC]
  refine dv1 2 ?_
  refine dg0 3 ?_
  refine' draw_guard (j:=3) rfl rfl rfl (by decide) (by simp) ?_ ?_;rotate_left
  ·intro hcs;simp only[Bool.and_eq_true,beqT,beqF]at hcs;intro g w hb V;replace hL:=hL.grow hb;have d4:=yv V 4;simp only[hcs,beq_self_eq_true,Bool.and_self,Bool.true_and,Bool.and_true,cnd_true]at d4;clear V;simp only[fillD,fLa,fLb,sTa,sTb];simp only[d4]
   go_wp2_with (go_at_call 123;(with_reducible refine(HO2.out _).mono ?_);rintro e w3 ⟨rfl,hb3⟩;dsimp only)
   exact⟨rfl,_,rfl,(by assumption),rfl⟩
  simp only[apN,apC]
  refine dpo 3 5 ?_
  refine draw_end1 6 hL (by kernel_rfl) (by kernel_rfl) (fun _ _ _ _ _ h=>h) ?_ ?_
  ·(refine late_ok rfl rfl ?_;intro g w hb V;(try simp[depsOf,List.filter_cons,Region.binds,AllR,RAt]at V);simp only[fillD,List.foldl_cons,List.foldl_nil,List.set_cons_succ,List.set_cons_zero];(try simp only[V]);exact⟨_,.inl ⟨rfl,fun w=>(by go_simp<;>(try (split<;>(rename_i hs;simp[hs,cnd]))))⟩,rfl⟩)
  intro g w2 hb hR;simp only[List.length_cons,List.length_nil,Nat.reduceAdd]at hR
  have e0:=yv hR 0
  have e1:=yv hR 1
  have e2:=yv hR 2
  have e3:=yv hR 3
  have e4:=yv hR 4
  have e5:=yv hR 5
  have e6:=yv hR 6
  clear hR;simp only[fillD,fLa,fLb,sTa,sTb]
  simp only[e0,e1,e2,e3,e4,e5,e6]
  clear e0 e1 e2 e3 e4 e5 e6
  replace hL:=hL.grow hb
  clear hb
  go_wp2_with (first|(with_reducible first|refine lld hL ?_|((first|refine lbx hL ?_|refine lal hL ?_|refine lbs hL ?_);clear hL;intro bl w1 hL)|(refine lst' hL ?_;clear hL;intro w1 hL)))
  (try simp only[Exit.inBlock,Exit.then]);refine rt2 ?_
  first
  | exact⟨rfl,hL.below⟩
  | exact⟨by rw[← HA.out,← HB.out];rfl,hL.below⟩
theorem rdo_same (g h:Gu) (l m:List Int) (w:World) (hl:IntsAt w g.s l) (hm:IntsAt w h.s m) (hz:emptyG g=false) (hz2:emptyG h=false):
  Calls Tryz.prog 82 #[.int .i64 9,g.v,h.v] w fun e w'=>e=.returned (.tuple #[Gu.v ⟨false,noSpan,maySame g h l m,rNotSame g h,nilSl⟩,.bool false])∧Below w.heap.size w w':=by
 have HE1:=Lib.hid (fun w'=>rIsNothing_any g w')
 have HE2:=Lib.hid (fun w'=>rIsNothing_any h w')
 rw[hz]at HE1
 rw[hz2]at HE2
 have HS1:=Lib.hid (fun w'=>rSingle_any g w')
 have HS2:=Lib.hid (fun w'=>rSingle_any h w')
 have HM:=Lib.hid (fun w'=>rMeet_any g.span h.span w')
 have HF:=Lib.hid (show maySame g h l m=(commonI l m || g.null&&h.null || g.tr&&h.tr || g.fa&&h.fa || !(common g.span h.span).none) from rfl)
 have HN:=Lib.hid (show rNotSame g h=(decide (singleG g<0) || singleG g != singleG h || !(g.span.none==h.span.none&&g.span.lo==h.span.lo&&g.span.hi==h.span.hi)) from rfl)
 clear hz hz2
 generalize singleG g=s1 at HS1 HN
 generalize singleG h=s2 at HS2 HN
 generalize hms:maySame g h l m=ms at HF ⊢
 generalize hns:rNotSame g h=ns at HN ⊢
 clear hms hns
 obtain⟨b,o,hpp,hcc⟩:=hl.reads tInt
 have hnn:=hl.n
 have hm64:=hl.m
 have HI:=Lib.hid (fun x w' (hb:Below w.heap.size w w')=>rHas_any h.s m x w' (hm.grow hb))
 obtain⟨gl,⟨gn,glo,ghi⟩,gt,gf,⟨gp,gk,gc⟩⟩:=g
 obtain⟨hl',⟨hn,hlo,hhi⟩,ht,hf,⟨hp,hk,hc⟩⟩:=h
 dsimp only at hnn hpp hcc hm64 HF HN HM
 subst hnn
 have HP:=Lib.hid hpp
 have HC:=Lib.hid hcc
 clear hl hm hpp hcc
 generalize common ⟨gn,glo,ghi⟩ ⟨hn,hlo,hhi⟩=cs at HF HM
 obtain⟨cn,clo,chi⟩:=cs
 have HQ0:=Lib.hid (show commonI l m=anyN (fun k=>hasI m (l.getD k 0)) l.length from rfl)
 have hL:=Loc.start w
 go_enter Tryz.func82,Tryz.ntmps82
 go_step
 go_step
 go_step
 ((with_reducible refine lbx hL ?_);clear hL;intro b4 w1 hL)
 ((with_reducible refine lbx hL ?_);clear hL;intro b5 w1 hL)
 ((with_reducible refine lal hL ?_);clear hL;intro b6 w1 hL)
 go_upto_region 1 with(first|(with_reducible first|refine lld hL ?_|((first|refine lbx hL ?_|refine lal hL ?_|refine lbs hL ?_);clear hL;intro bl w1 hL)|(refine lst' hL ?_;clear hL;intro w1 hL)))
 go_upto_region 2 with(first|((with_reducible refine lal hL ?_);clear hL;intro b8 w1 hL)|(with_reducible first|refine lld hL ?_|((first|refine lbx hL ?_|refine lal hL ?_|refine lbs hL ?_);clear hL;intro bl w1 hL)|(refine lst' hL ?_;clear hL;intro w1 hL))|(go_at_call 78;refine(rNothing_any _).mono ?_;rintro e w1 ⟨rfl,hb⟩;replace hL:=hL.grow hb;clear hb;dsimp only))
 go_wp2_with (first|(with_reducible first|refine lld hL ?_|((first|refine lbx hL ?_|refine lal hL ?_|refine lbs hL ?_);clear hL;intro bl w1 hL)|(refine lst' hL ?_;clear hL;intro w1 hL))|(go_at_call 83;(with_reducible refine(HE1.out _).mono ?_);rintro e w1 ⟨rfl,hb⟩;replace hL:=hL.grow hb;clear hb;dsimp only)|(go_at_call 83;(with_reducible refine(HE2.out _).mono ?_);rintro e w1 ⟨rfl,hb⟩;replace hL:=hL.grow hb;clear hb;dsimp only))
 go_loopw [11,12] (fun c d wr=>∃ k:Nat,k≤l.length∧c=.bool (anyN (fun k=>hasI m (l.getD k 0)) k)∧d=.int .i64 k∧Loc w wr [(b8,108,[.bool false,.bool true,.int .i64 0,.int .i64 0,.bool false,.bool false,.slice none 0 0]),(b6,108,[.bool false,.bool false,.int .i64 0,.int .i64 0,.bool false,.bool false,.slice none 0 0]),(b5,108,[.bool hl',.bool hn,.int .i64 hlo,.int .i64 hhi,.bool ht,.bool hf,.slice hp hk hc]),(b4,108,[.bool gl,.bool gn,.int .i64 glo,.int .i64 ghi,.bool gt,.bool gf,.slice gp l.length gc])] []) (fun _ d _=>l.length - (intOf d).toNat)
 case atStart=>exact⟨0,Nat.zero_le _,rfl,rfl,hL⟩
 case round=>
  obtain⟨k,hk,rfl,rfl,hL⟩:=hrel
  by_cases hlt:k<l.length
  ·have HP2:=Lib.hid (HP.out (by omega))
   have hr:=HC.out k hlt
   have hs:=anyN_succ (fun k=>hasI m (l.getD k 0)) k
   try dsimp only at hs
   generalize anyN (fun k=>hasI m (l.getD k 0)) k=x at hs ⊢
   generalize l.getD k 0=y at hr hs
   generalize hz:hasI m y=z at hs
   have HZ:=Lib.hid (fun w' (hb:Below w.heap.size w w')=>hz▸HI.out y w' hb)
   have HS:=Lib.hid hs
   have HR1:=Lib.hid hr
   clear hr hs hz
   go_upto_region 16 with(first|(with_reducible first|refine lld hL ?_|((first|refine lbx hL ?_|refine lal hL ?_|refine lbs hL ?_);clear hL;intro bl w1 hL)|(refine lst' hL ?_;clear hL;intro w1 hL)))
   refine draw_begin [54,55,56,57,58,59,60,61,62,63,64,11] ?_
   refine' draw_valU [(11,11)] 0 rfl (by kernel_rfl) ?_ ?_;rotate_left
   ·intro g w hb V hun;replace hL:=hL.grow hb;simp[AllU]at hun;clear V;simp only[fillD,fLa,fLb,sTa,sTb];simp only[hun]
    go_wp2
    exact cY
   simp only[apN,apC]
   refine dv1 0 ?_
   refine dg0 1 ?_
   refine dg1 1 2 ?_
   refine dg0 1 ?_
   refine dg1 1 4 ?_
   refine dg0 1 ?_
   refine' draw_guard (j:=1) rfl rfl rfl (by decide) (by simp) ?_ ?_;rotate_left
   ·intro hcs;simp only[Bool.and_eq_true,beqT,beqF]at hcs;intro g w hb V;replace hL:=hL.grow hb;have d5:=yv V 5;simp only[hcs,beq_self_eq_true,Bool.and_self,Bool.true_and,Bool.and_true,cnd_true]at d5;have d6:=yv V 6;simp only[hcs,beq_self_eq_true,Bool.and_self,Bool.true_and,Bool.and_true,cnd_true]at d6;clear V;simp only[fillD,fLa,fLb,sTa,sTb];simp only[d5,d6]
    (simp only[HP2.out];go_wp2)
    exact cY
   simp only[apN,apC]
   refine' draw_guard (j:=1) rfl rfl rfl (by decide) (by simp) ?_ ?_;rotate_left
   ·intro hcs;simp only[Bool.and_eq_true,beqT,beqF]at hcs;intro g w hb V;replace hL:=hL.grow hb;have d7:=yv V 7;simp only[hcs,beq_self_eq_true,Bool.and_self,Bool.true_and,Bool.and_true,cnd_true]at d7;clear V;simp only[fillD,fLa,fLb,sTa,sTb];simp only[d7]
    refine loc_loadB HR1.out hL rfl rfl ?_
    exact cY
   simp only[apN,apC]
   refine' draw_guard (j:=1) rfl rfl rfl (by decide) (by simp) ?_ ?_;rotate_left
   ·intro hcs;simp only[Bool.and_eq_true,beqT,beqF]at hcs;intro g w hb V;replace hL:=hL.grow hb;have d3:=yv V 3;simp only[hcs,beq_self_eq_true,Bool.and_self,Bool.true_and,Bool.and_true,cnd_true]at d3;have d8:=yv V 8;simp only[hcs,beq_self_eq_true,Bool.and_self,Bool.true_and,Bool.and_true,cnd_true]at d8;clear V;simp only[fillD,fLa,fLb,sTa,sTb];simp only[d3,d8]
    go_wp2_with (go_at_call 120;refine(HZ.out _ hL.below).mono ?_;rintro e w3 ⟨rfl,hb3⟩;dsimp only)
    exact⟨rfl,_,rfl,hb3,rfl⟩
   simp only[apN,apC]
   refine dpo 1 9 ?_
   refine dv1 10 ?_
   refine dnd hL ?_
   clear hL;intro w2 hL;simp only[fillX,sTa,sTb]
   simp only[beq_true,beq_false,Bool.not_and,Bool.not_or,Bool.not_not]
   generalize (x || z)=y2 at HS ⊢
   go_wp2_with (first|(with_reducible first|refine lld hL ?_|((first|refine lbx hL ?_|refine lal hL ?_|refine lbs hL ?_);clear hL;intro bl w1 hL)|(refine lst' hL ?_;clear hL;intro w1 hL)))
   go_roundw
   case rel=>exact⟨k+1,by omega,by rw[HS.out],by go_num,hL⟩
   case measure=>simp[intOf];omega
  ·obtain rfl:k=l.length:=by omega
   rw[← HQ0.out]
   generalize commonI l m=co at HF ⊢
   clear HQ0 HP HC HI
   go_upto_region 17 with(first|(with_reducible first|refine lld hL ?_|((first|refine lbx hL ?_|refine lal hL ?_|refine lbs hL ?_);clear hL;intro bl w1 hL)|(refine lst' hL ?_;clear hL;intro w1 hL)))
   refine seq_begin [65,66,67,68,69,70,71,72,73,74,75,76,77,78,79,80,81,82,83,84,85,86,87,88,89,90,91,92,93,94,95,96,97,98,99] ?_
   refine dv0 ?_
   refine dv1 0 ?_
   refine dg0 1 ?_
   refine dg1 1 2 ?_
   refine dg1 1 3 ?_
   refine dc0 4 ?_
   refine dc1 4 5 ?_
   refine dgpa 1 4 6 ?_
   refine dpo 1 7 ?_
   refine dv1 8 ?_
   refine dg0 9 ?_
   refine dg1 9 10 ?_
   refine dg1 9 11 ?_
   refine dc0 12 ?_
   refine dc1 12 13 ?_
   refine dgpa 9 12 14 ?_
   refine dpo 9 15 ?_
   refine dv1 16 ?_
   refine dg0 17 ?_
   refine dg1 17 18 ?_
   refine dg1 17 19 ?_
   refine dc0 20 ?_
   refine dc1 20 21 ?_
   refine dgpa 17 20 22 ?_
   refine dpo 17 23 ?_
   refine dv1 24 ?_
   refine dg0 25 ?_
   refine dg1 25 26 ?_
   refine dg0 25 ?_
   refine dg1 25 28 ?_
   refine' draw_guard (j:=25) rfl rfl rfl (by decide) (by simp) ?_ ?_;rotate_left
   ·intro hcs;simp only[Bool.and_eq_true,beqT,beqF]at hcs;intro g w hb V;replace hL:=hL.grow hb;have d27:=yv V 27;simp only[hcs,beq_self_eq_true,Bool.and_self,Bool.true_and,Bool.and_true,cnd_true]at d27;have d29:=yv V 29;simp only[hcs,beq_self_eq_true,Bool.and_self,Bool.true_and,Bool.and_true,cnd_true]at d29;clear V;simp only[fillD,fLa,fLb,sTa,sTb];simp only[d27,d29]
    go_wp2_with (go_at_call 121;refine(HM.out _).mono ?_;rintro e w3 ⟨rfl,hb3⟩;dsimp only)
    exact⟨rfl,_,rfl,(by assumption),rfl⟩
   simp only[apN,apC]
   refine' draw_guard (j:=25) rfl rfl rfl (by decide) (by simp) ?_ ?_;rotate_left
   ·intro hcs;simp only[Bool.and_eq_true,beqT,beqF]at hcs;intro g w hb V;replace hL:=hL.grow hb;have d30:=yv V 30;simp only[hcs,beq_self_eq_true,Bool.and_self,Bool.true_and,Bool.and_true,cnd_true]at d30;clear V;simp only[fillD,fLa,fLb,sTa,sTb];simp only[d30]
    refine wp_field_span (s:=⟨cn,clo,chi⟩) rfl ?_;go_wp2
    exact cY
   simp only[apN,apC]
   refine dg1 25 31 ?_
   refine dpo 25 32 ?_
   refine dv0 ?_
   refine dns hL ?_
   clear hL;intro w2 hL;simp only[fillX,sTa,sTb]
   rw[← HF.out]
   go_upto_region 18 with(first|(with_reducible first|refine lld hL ?_|((first|refine lbx hL ?_|refine lal hL ?_|refine lbs hL ?_);clear hL;intro bl w1 hL)|(refine lst' hL ?_;clear hL;intro w1 hL)))
   refine draw_begin [100,101,102,103,104,105,106,107,108,109,110,111,112,113,114,115,116,117] ?_
   refine dv0 ?_
   apply draw_val
   ·intro g w hb V;replace hL:=hL.grow hb;have d0:=yv V 0;clear V;simp only[fillD,fLa,fLb,sTa,sTb];simp only[d0]
    go_wp2_with (go_at_call 122;(with_reducible refine(HS1.out _).mono ?_);rintro e w3 ⟨rfl,hb3⟩;dsimp only)
    exact⟨rfl,_,rfl,(by assumption),rfl⟩
   simp only[apN,apC]
   refine dv1 1 ?_
   refine dv1 2 ?_
   refine dg0 3 ?_
   refine' draw_guard (j:=3) rfl rfl rfl (by decide) (by simp) ?_ ?_;rotate_left
   ·intro hcs;simp only[Bool.and_eq_true,beqT,beqF]at hcs;intro g w hb V;replace hL:=hL.grow hb;have d4:=yv V 4;simp only[hcs,beq_self_eq_true,Bool.and_self,Bool.true_and,Bool.and_true,cnd_true]at d4;clear V;simp only[fillD,fLa,fLb,sTa,sTb];simp only[d4]
    go_wp2_with (go_at_call 122;(with_reducible refine(HS1.out _).mono ?_);rintro e w3 ⟨rfl,hb3⟩;dsimp only)
    exact⟨rfl,_,rfl,(by assumption),rfl⟩
   simp only[apN,apC]
   refine dg0 3 ?_
   refine' draw_guard (j:=3) rfl rfl rfl (by decide) (by simp) ?_ ?_;rotate_left
   ·intro hcs;simp only[Bool.and_eq_true,beqT,beqF]at hcs;intro g w hb V;replace hL:=hL.grow hb;have d6:=yv V 6;simp only[hcs,beq_self_eq_true,Bool.and_self,Bool.true_and,Bool.and_true,cnd_true]at d6;clear V;simp only[fillD,fLa,fLb,sTa,sTb];simp only[d6]
    go_wp2_with (go_at_call 122;(with_reducible refine(HS2.out _).mono ?_);rintro e w3 ⟨rfl,hb3⟩;dsimp only)
    exact⟨rfl,_,rfl,(by assumption),rfl⟩
   simp only[apN,apC]
   refine dg2 3 5 7 ?_
   refine dpo 3 8 ?_
   refine dv1 9 ?_
   refine dg0 10 ?_
   refine dg1 10 11 ?_
   refine dg0 10 ?_
   refine dg1 10 13 ?_
   refine' draw_guard (j:=10) rfl rfl rfl (by decide) (by simp) ?_ ?_;rotate_left
   ·intro hcs;simp only[Bool.and_eq_true,beqT,beqF]at hcs;intro g w hb V;replace hL:=hL.grow hb;have d12:=yv V 12;simp only[hcs,beq_self_eq_true,Bool.and_self,Bool.true_and,Bool.and_true,cnd_true]at d12;have d14:=yv V 14;simp only[hcs,beq_self_eq_true,Bool.and_self,Bool.true_and,Bool.and_true,cnd_true]at d14;clear V;simp only[fillD,fLa,fLb,sTa,sTb];simp only[d12,d14]
    refine wp_neq_span (a:=⟨gn,glo,ghi⟩) (b:=⟨hn,hlo,hhi⟩) rfl rfl rfl ?_;go_wp2
    exact cY
   simp only[apN,apC]
   refine dpo 10 15 ?_
   refine dv0 ?_
   refine dnd hL ?_
   clear hL;intro w2 hL;simp only[fillX,sTa,sTb]
   go_wp2_with (first|(with_reducible first|refine lld hL ?_|((first|refine lbx hL ?_|refine lal hL ?_|refine lbs hL ?_);clear hL;intro bl w1 hL)|(refine lst' hL ?_;clear hL;intro w1 hL)))
   (try simp only[Exit.inBlock,Exit.then]);refine rt2 ?_
   first
   | exact⟨by rw[HN.out];rfl,hL.below⟩
   | exact⟨by rw[HN.out];simp,hL.below⟩
def siteBadG (p:Pg) (is:Nat→Ins) (l:List Int):Bool:=anyN (fun k=>!isSite p is (l.getD k 0)) l.length
def rightG (p:Pg) (is:Nat→Ins) (g:Gu) (l:List Int):Int:=if checkSpan g.span≠0 then checkSpan g.span else if siteBadG p is l=true then 5 else if dropI l=true then 4 else 0
def unionTo (l m:List Int) (k:Nat):List Int:=((List.range k).map fun k:Nat=>(k:Int)).filter fun s=>hasI l s || hasI m s
theorem unionTo_next (l m:List Int) (k:Nat):unionTo l m (k+1)=unionTo l m k++(bif hasI l (k:Int) || hasI m (k:Int) then [(k:Int)] else []):=by
 unfold unionTo
 rw[List.range_succ,List.map_append,List.filter_append]
 cases h:hasI l (k:Int) || hasI m (k:Int)<;>simp[h]
theorem unionTo_le (l m:List Int) (k:Nat):(unionTo l m k).length≤k:=by
 unfold unionTo
 exact Nat.le_trans (List.length_filter_le _ _) (by simp)
theorem unionTo_60 (l m:List Int):unionTo l m 60=unionS l m:=rfl
theorem unionTo_0 (l m:List Int):unionTo l m 0=[]:=rfl
theorem rJoinGuess_any (wd:Bool) (f:Span→Span→Span) (hf:∀ (s t:Span) (w:World),Calls Tryz.prog 119 #[s.v,t.v,.bool wd] w fun e w'=>e=.returned (f s t).v∧Below w.heap.size w w')
  (g h:Gu) (l m:List Int) (w:World) (hl:IntsAt w g.s l) (hm:IntsAt w h.s m):
  Calls Tryz.prog 81 #[g.v,h.v,.bool wd] w fun e w'=>∃ r:Sl,e=.returned (Gu.v ⟨g.null || h.null,f g.span h.span,g.tr || h.tr,g.fa || h.fa,r⟩)∧OwnI w.heap.size w' r (unionS l m)∧Below w.heap.size w w':=by
 have HA:=Lib.hid (fun (x:Int) w' (hb:Below w.heap.size w w')=>rHas_any g.s l x w' (hl.grow hb))
 have HB:=Lib.hid (fun (x:Int) w' (hb:Below w.heap.size w w')=>rHas_any h.s m x w' (hm.grow hb))
 have HK:=Lib.hid (fun w'=>hf g.span h.span w')
 clear hl hm hf
 obtain⟨gl,⟨gn,glo,ghi⟩,gt,gf,⟨gp,gk,gc⟩⟩:=g
 obtain⟨hl',⟨hn,hlo,hhi⟩,ht,hf,⟨hp,hk,hc⟩⟩:=h
 dsimp only at HA HB HK
 generalize hfs:f ⟨gn,glo,ghi⟩ ⟨hn,hlo,hhi⟩=fs at HK ⊢
 obtain⟨fn,flo,fhi⟩:=fs
 clear hfs
 have HN:=Lib.hid (unionTo_next l m)
 have HLE:=Lib.hid (unionTo_le l m)
 have H0:=unionTo_0 l m
 rw[← unionTo_60]
 generalize unionTo l m=U at HN HLE H0 ⊢
 have H0':=Lib.hid H0
 clear H0
 have hL:=Loc.start w
 go_enter Tryz.func81,Tryz.ntmps81
 go_step
 go_step
 go_step
 ((with_reducible refine lbx hL ?_);clear hL;intro b3 w1 hL)
 ((with_reducible refine lbx hL ?_);clear hL;intro b4 w1 hL)
 ((with_reducible refine lal hL ?_);clear hL;intro b6 w1 hL)
 go_upto_region 1 with(first|(with_reducible first|refine lld hL ?_|((first|refine lbx hL ?_|refine lal hL ?_|refine lbs hL ?_);clear hL;intro bl w1 hL)|(refine lst' hL ?_;clear hL;intro w1 hL)))
 simp only[Act.put,List.setIfInBounds_toArray,List.set_cons_zero,List.set_cons_succ]
 refine draw_begin [9,10,11,12,13,14,15,16,17,18,19,20,21,22,23,24,25,26,27,28,29,30,31,32,33,7] ?_
 refine dv0 ?_
 refine dv1 0 ?_
 refine dv1 1 ?_
 refine dg0 2 ?_
 refine dg1 2 3 ?_
 refine dpo 2 4 ?_
 refine dv0 ?_
 refine dv1 6 ?_
 refine dv0 ?_
 refine dv1 8 ?_
 refine dv0 ?_
 apply draw_val
 ·intro g w hb V;replace hL:=hL.grow hb;have d7:=yv V 7;have d9:=yv V 9;have d10:=yv V 10;clear V;simp only[fillD,fLa,fLb,sTa,sTb];simp only[d7,d9,d10]
  go_wp2_with (go_at_call 119;((with_reducible refine(HK.out _).mono ?_);rintro e w3 ⟨rfl,hb3⟩;dsimp only))
  exact⟨rfl,_,rfl,hb3,rfl⟩
 simp only[apN,apC]
 refine dv0 ?_
 refine dv1 12 ?_
 refine dv1 13 ?_
 refine dg0 14 ?_
 refine dg1 14 15 ?_
 refine dpo 14 16 ?_
 refine dv0 ?_
 refine dv1 18 ?_
 refine dv1 19 ?_
 refine dg0 20 ?_
 refine dg1 20 21 ?_
 refine dpo 20 22 ?_
 refine dv4 5 11 17 23 ?_
 apply draw_ptr
 ·intro g w hb V;replace hL:=hL.grow hb;clear V;simp only[fillD,fLa,fLb,sTa,sTb]
  go_wp2
  exact⟨rfl,_,rfl,(Below.refl _ _).alloc (Nat.le_refl _) _,_,hb.size,rfl,heap_new _ _⟩
 simp only[apN,apC]
 refine draw_end hL (by kernel_rfl) (by kernel_rfl) ?_
 intro g w2 hb hR;simp only[List.length_cons,List.length_nil,Nat.reduceAdd]at hR
 have e0:=yv hR 0
 have e1:=yv hR 1
 have e2:=yv hR 2
 have e3:=yv hR 3
 have e4:=yv hR 4
 have e5:=yv hR 5
 have e6:=yv hR 6
 have e7:=yv hR 7
 have e8:=yv hR 8
 have e9:=yv hR 9
 have e10:=yv hR 10
 have e11:=yv hR 11
 have e12:=yv hR 12
 have e13:=yv hR 13
 have e14:=yv hR 14
 have e15:=yv hR 15
 have e16:=yv hR 16
 have e17:=yv hR 17
 have e18:=yv hR 18
 have e19:=yv hR 19
 have e20:=yv hR 20
 have e21:=yv hR 21
 have e22:=yv hR 22
 have e23:=yv hR 23
 have e24:=yv hR 24
 obtain⟨b25,p25,e25,c25⟩:=rat_ptr (allR_get hR (j:=25) (by decide)) rfl rfl
 clear hR;simp only[fillD,fLa,fLb,sTa,sTb]
 simp only[e0,e1,e2,e3,e4,e5,e6,e7,e8,e9,e10,e11,e12,e13,e14,e15,e16,e17,e18,e19,e20,e21,e22,e23,e24,e25]
 clear e0 e1 e2 e3 e4 e5 e6 e7 e8 e9 e10 e11 e12 e13 e14 e15 e16 e17 e18 e19 e20 e21 e22 e23 e24 e25
 replace hL:=hL.gain hb p25 c25
 clear p25 c25
 clear hb
 simp only[beq_true,beq_false,Bool.not_and,Bool.not_or,Bool.not_not]
 generalize h_nl:(gl || hl')=nl
 have HNL:=Lib.hid h_nl
 clear h_nl
 generalize h_tr:(gt || ht)=tr
 have HTR:=Lib.hid h_tr
 clear h_tr
 generalize h_fa:(gf || hf)=fa
 have HFA:=Lib.hid h_fa
 clear h_fa
 go_wp2_with (first|(with_reducible first|refine lld hL ?_|((first|refine lbx hL ?_|refine lal hL ?_|refine lbs hL ?_);clear hL;intro bl w1 hL)|(refine lst' hL ?_;clear hL;intro w1 hL)))
 go_loopw [8] (fun c wr=>∃ k:Nat,k≤60∧c=.int .i64 k∧∃ (p:Option Addr) (n cap:Nat) (R:List LBlk),RowS 3 1 p n cap ((U k).map (Value.int .i64)) R∧Loc w wr ([(b25,108,[.bool nl,.bool fn,.int .i64 flo,.int .i64 fhi,.bool tr,.bool fa,.slice p n cap]),(b6,108,[.bool false,.bool false,.int .i64 0,.int .i64 0,.bool false,.bool false,.slice none 0 0]),(b4,108,[.bool hl',.bool hn,.int .i64 hlo,.int .i64 hhi,.bool ht,.bool hf,.slice hp hk hc]),(b3,108,[.bool gl,.bool gn,.int .i64 glo,.int .i64 ghi,.bool gt,.bool gf,.slice gp gk gc])]++R) []) (fun c _=>60 - (intOf c).toNat)
 case atStart=>exact⟨0,Nat.zero_le _,rfl,none,0,0,[],by rw[H0'.out];exact RowS.nil,hL⟩
 case round=>
  obtain⟨k,hk,rfl,p,n,cap,R,hR,hL⟩:=hrel
  simp only[List.cons_append,List.nil_append]at hL
  rcases (show k=60∨k<60 by omega) with rfl|hlt
  ·go_wp2_with (first|(with_reducible first|refine lld hL ?_|((first|refine lbx hL ?_|refine lal hL ?_|refine lbs hL ?_);clear hL;intro bl w1 hL)|(refine lst' hL ?_;clear hL;intro w1 hL)))
   (try simp only[Exit.inBlock,Exit.then]);refine rt1 ?_
   exact⟨⟨p,n,cap⟩,by rw[HNL.out,HTR.out,HFA.out],⟨R,hR,hL.ownOf (List.sublist_append_right [_,_,_,_] _)⟩,hL.below⟩
  ·have HR:=Lib.hid hR
   have hu:=HN.out k
   have HLK:=Lib.hid (show n≤60 by
    have h1:=HLE.out k
    have h2:=HR.out.1
    simp at h2
    omega)
   clear hR
   go_upto_region 5 with(first|(with_reducible first|refine lld hL ?_|((first|refine lbx hL ?_|refine lal hL ?_|refine lbs hL ?_);clear hL;intro bl w1 hL)|(refine lst' hL ?_;clear hL;intro w1 hL)))
   generalize hA:hasI l (k:Int)=x at hu
   generalize hB:hasI m (k:Int)=y at hu
   have ha:=HA.out (k:Int)
   have hb:=HB.out (k:Int)
   rw[hA]at ha
   rw[hB]at hb
   have HA1:=Lib.hid ha
   have HB1:=Lib.hid hb
   have HU:=Lib.hid hu
   clear hA hB ha hb hu
   refine seq_begin [38,39,40,41,42,43,44,45,46,47] ?_
   refine dv0 ?_
   refine dv1 0 ?_
   refine dv0 ?_
   apply draw_val
   ·intro g w hb V;replace hL:=hL.grow hb;have d1:=yv V 1;have d2:=yv V 2;clear V;simp only[fillD,fLa,fLb,sTa,sTb];simp only[d1,d2]
    go_wp2_with (go_at_call 120;(with_reducible refine(HA1.out _ hL.below).mono ?_);rintro e w3 ⟨rfl,hb3⟩;dsimp only)
    exact⟨rfl,_,rfl,hb3,rfl⟩
   simp only[apN,apC]
   refine dv1 3 ?_
   refine dg0 4 ?_
   refine dg1 4 5 ?_
   refine dg0 4 ?_
   refine' draw_guard (j:=4) rfl rfl rfl (by decide) (by simp) ?_ ?_;rotate_left
   ·intro hcs;simp only[Bool.and_eq_true,beqT,beqF]at hcs;intro g w hb V;replace hL:=hL.grow hb;have d6:=yv V 6;simp only[hcs,beq_self_eq_true,Bool.and_self,Bool.true_and,Bool.and_true,cnd_true]at d6;have d7:=yv V 7;simp only[hcs,beq_self_eq_true,Bool.and_self,Bool.true_and,Bool.and_true,cnd_true]at d7;clear V;simp only[fillD,fLa,fLb,sTa,sTb];simp only[d6,d7]
    go_wp2_with (go_at_call 120;(with_reducible refine(HB1.out _ hL.below).mono ?_);rintro e w3 ⟨rfl,hb3⟩;dsimp only)
    exact⟨rfl,_,rfl,hb3,rfl⟩
   simp only[apN,apC]
   refine dpo 4 8 ?_
   refine dns hL ?_
   clear hL;intro w2 hL;simp only[fillX,sTa,sTb]
   simp only[beq_true,beq_false,Bool.not_and,Bool.not_or,Bool.not_not]
   generalize (x || y)=z at HU ⊢
   cases z with
   | true=>
    go_wp2_with (first|(at_builtin;refine loc_appendS (K:=_::_::_::_::_::[]) (R:=R) (news:=[.int .i64 (k:Int)]) HR.out hL rfl rfl rfl sInts bInt (by decide) rfl ?_ rfl ?_ ?_ ?_ ?_;(case refine_1=>exact fun _=>⟨⟨bl,0,none⟩,rfl,fun j u hj=>by rw[add_addr,Nat.zero_add];exact(hL.cell (b:=bl) cIn j).trans hj⟩);(case refine_2=>simp[Value.oneCell']);(case refine_3=>(have:=HLK.out;show n+1≤9223372036854775807;omega));(case refine_4=>(have:=HLK.out;omega));clear hL;intro p4 cap4 R4 w4 hR4 hL;simp only[List.cons_append,List.nil_append]at hL;have HR4:=Lib.hid hR4;clear hR4)|(with_reducible first|refine lld hL ?_|((first|refine lbx hL ?_|refine lal hL ?_|refine lbs hL ?_);clear hL;intro bl w1 hL)|(refine lst' hL ?_;clear hL;intro w1 hL)))
    go_roundw
    case rel=>exact⟨k+1,by omega,by go_num,p4,n+1,cap4,R4,by rw[HU.out,List.map_append];exact HR4.out,hL.drop (List.sublist_cons_self _ _) (fun _ h=>h)⟩
    case measure=>simp[intOf];omega
   | false=>
    have HX:=Lib.hid (HU.out.trans (List.append_nil _))
    clear HU
    go_wp2_with (first|(with_reducible first|refine lld hL ?_|((first|refine lbx hL ?_|refine lal hL ?_|refine lbs hL ?_);clear hL;intro bl w1 hL)|(refine lst' hL ?_;clear hL;intro w1 hL)))
    go_roundw
    case rel=>exact⟨k+1,by omega,by go_num,p,n,cap,R,by rw[HX.out];exact HR.out,hL⟩
    case measure=>simp[intOf];omega
structure RightGu (g:Gu) (l:List Int):Prop where
 span:checkSpan g.span=0
 n:g.s.n=l.length
 ins:inS l
 asc:ascS l
 le:l.length≤60
theorem fewS {l:List Int}(h1:inS l) (h2:ascS l):l.length≤60:=by
 have h3:=mix_union (m:=[]) h1 (fun x hx=>by cases hx)
 rw[mix_nil h2]at h3
 rw[h3,← unionTo_60]
 exact unionTo_le _ _ _
theorem RightGu.of {p:Pg}{is:Nat→Ins}{g:Gu}{l:List Int}(h:rightG p is g l=0) (hp:checkProg p is=0) (hn:g.s.n=l.length):RightGu g l:=by
 unfold rightG at h
 by_cases h1:checkSpan g.span=0
 ·rw[if_neg (by omega)]at h
  by_cases h2:siteBadG p is l=true
  ·rw[if_pos h2]at h;omega
  ·rw[if_neg h2]at h
   by_cases h3:dropI l=true
   ·rw[if_pos h3]at h;omega
   ·have ha:ascS l:=ascS_of (by simpa using h3)
    have hi:inS l:=by
     intro x hx
     obtain⟨k,hk,he⟩:=List.mem_iff_getElem.1 hx
     have h4:(!isSite p is (l.getD k 0))=false:=by
      cases h5:(!isSite p is (l.getD k 0)) with
      | false=>rfl
      | true=>exact absurd (anyN_yes (q:=fun k=>!isSite p is (l.getD k 0)) hk h5) h2
     rw[List.getD_eq_getElem?_getD,List.getElem?_eq_getElem hk]at h4
     simp only[Option.getD_some,he]at h4
     have hpn:p.n≤60:=by
      unfold checkProg at hp
      split at hp
      ·omega
      ·split at hp
       ·omega
       ·omega
     simp[isSite]at h4
     omega
    exact⟨h1,hn,hi,ha,fewS hi ha⟩
 ·rw[if_pos h1]at h
  exact absurd h h1
theorem both_none {s:Span}(h:checkSpan s=0):both s noSpan=s:=by
 obtain⟨_,_,h3⟩:=checkSpan_zero h
 obtain⟨n,lo,hi⟩:=s
 cases n with
 | true=>
  obtain⟨rfl,rfl⟩:=h3 rfl
  rfl
 | false=>rfl
theorem common_nil (l m:List Int) (h:l=[]):commonI l m=false:=by
 subst h
 rfl
theorem one_single (g:Gu):oneG g=true↔(g.s.n=0∧cnt4 g.null (!g.span.none) g.tr g.fa=1∧g.span.lo=g.span.hi):=by
 have h0:0≤cnt4 g.null g.tr g.fa (!g.span.none):=by
  unfold cnt4 cntB
  cases g.null<;>cases g.tr<;>cases g.fa<;>cases g.span.none<;>decide
 have h1:cnt4 g.null (!g.span.none) g.tr g.fa=cnt4 g.null g.tr g.fa (!g.span.none):=by
  unfold cnt4
  omega
 rw[h1]
 simp only[oneG,Bool.and_eq_true,beq_iff_eq]
 omega
theorem single_neg (g:Gu) (h:oneG g=false):singleG g=-1:=by
 have h1:=one_single g
 rw[h]at h1
 unfold singleG
 have:(cnt4 g.null (!g.span.none) g.tr g.fa != 1 || decide (0<g.s.n) || g.span.lo != g.span.hi)=true:=by
  simp only[Bool.or_eq_true,bne_iff_ne,decide_eq_true_eq,ne_eq]
  have h2:¬ (g.s.n=0∧cnt4 g.null (!g.span.none) g.tr g.fa=1∧g.span.lo=g.span.hi):=fun hh=>by
   have:=h1.2 hh
   cases this
  omega
 rw[this]
 rfl
theorem single_pos (g:Gu) (h:oneG g=true):singleG g=whichN (pick4 g.null (!g.span.none) g.tr g.fa) 4∧cnt4 g.null (!g.span.none) g.tr g.fa=1∧g.s.n=0∧g.span.lo=g.span.hi:=by
 obtain⟨h1,h2,h3⟩:=(one_single g).1 h
 refine⟨?_,h2,h1,h3⟩
 unfold singleG
 rw[h2,h1,h3]
 simp
theorem which_one {a b c d:Bool}(h:cnt4 a b c d=1):(a=true∧b=false∧c=false∧d=false∧whichN (pick4 a b c d) 4=0)∨(a=false∧b=true∧c=false∧d=false∧whichN (pick4 a b c d) 4=1)∨(a=false∧b=false∧c=true∧d=false∧whichN (pick4 a b c d) 4=2)∨(a=false∧b=false∧c=false∧d=true∧whichN (pick4 a b c d) 4=3):=by
 cases a<;>cases b<;>cases c<;>cases d<;>first|(exact absurd h (by decide))|(simp[whichN,pick4])
theorem same_eq {g h:Gu}{l m:List Int}(hg:RightGu g l) (hh:RightGu h m):notSame g h l m=rNotSame g h:=by
 unfold notSame rNotSame
 cases h1:oneG g with
 | false=>simp[single_neg g h1]
 | true=>
  obtain⟨s1,c1,n1,e1⟩:=single_pos g h1
  cases h2:oneG h with
  | false=>
   have:singleG h=-1:=single_neg h h2
   rcases which_one c1 with⟨_,_,_,_,hw⟩|⟨_,_,_,_,hw⟩|⟨_,_,_,_,hw⟩|⟨_,_,_,_,hw⟩<;>simp[this,s1,hw]
  | true=>
   obtain⟨s2,c2,n2,e2⟩:=single_pos h h2
   have hl:l=[]:=List.eq_nil_of_length_eq_zero (by rw[← hg.n];exact n1)
   rw[s1,s2]
   unfold maySame
   rw[common_nil l m hl]
   obtain⟨_,_,z1⟩:=checkSpan_zero hg.span
   obtain⟨_,_,z2⟩:=checkSpan_zero hh.span
   obtain⟨gl,⟨gn,glo,ghi⟩,gt,gf,gs⟩:=g
   obtain⟨hl',⟨hn,hlo,hhi⟩,ht,hf,hs⟩:=h
   dsimp only at *
   subst e1 e2
   rcases which_one c1 with⟨a1,a2,a3,a4,hw⟩|⟨a1,a2,a3,a4,hw⟩|⟨a1,a2,a3,a4,hw⟩|⟨a1,a2,a3,a4,hw⟩<;>
   rcases which_one c2 with⟨b1,b2,b3,b4,hv⟩|⟨b1,b2,b3,b4,hv⟩|⟨b1,b2,b3,b4,hv⟩|⟨b1,b2,b3,b4,hv⟩<;>
   (rw[hw,hv];simp only[Bool.not_eq_false',Bool.not_eq_true']at a2 b2;subst a1 a2 a3 a4 b1 b2 b3 b4;simp at z1 z2;simp[common,z1,z2])
   by_cases he:glo=hlo
   ·subst he;simp
   ·have h7:min glo hlo<max glo hlo:=by omega
    rw[if_pos h7]
    simp[he]
abbrev zeroG:Gu:=⟨false,zeroSpan,false,false,nilSl⟩
abbrev zeroD:Res:=⟨false,zeroSpan,false,false,[]⟩
theorem madeG_nil {k:Int}{g h:Gu}{l m:List Int}(hz:(emptyG g || (!(k==10 || k==4)&&emptyG h))=true):madeG k g h l m=(nilR,false):=if_pos hz
theorem full_of {k:Int}{g h:Gu}(hz:¬ (emptyG g || (!(k==10 || k==4)&&emptyG h))=true):emptyG g=false∧(k≠10→k≠4→emptyG h=false):=by
 cases h1:emptyG g<;>cases h2:emptyG h<;>simp_all
theorem kinds {k:Int}(hk:betw k 4 10=true):k=4∨k=10∨k=9∨k=8∨(k=5∨k=6∨k=7):=by
 simp[betw]at hk
 omega
theorem made_all (k:Int) (g h:Gu) (l m:List Int) (w:World) (hk:betw k 4 10=true) (hg:RightGu g l) (hh:RightGu h m) (hl:IntsAt w g.s l) (hm:IntsAt w h.s m):
  Calls Tryz.prog 165 #[.int .i64 k,g.v,h.v] w fun e w'=>∃ r:Sl,e=.returned (.tuple #[((madeG k g h l m).1.gu r).v,.bool (madeG k g h l m).2])∧OwnI w.heap.size w' r (madeG k g h l m).1.l∧Below w.heap.size w w':=by
 have n1:=hg.le
 have n2:=hh.le
 by_cases hz:(emptyG g || (!(k==10 || k==4)&&emptyG h))=true
 ·rw[madeG_nil hz]
  exact(made_nil k g h hz w).mono fun e w' ⟨h1,h2⟩=>⟨nilSl,h1,OwnI.nil,h2⟩
 ·obtain⟨z1,z2⟩:=full_of hz
  rcases kinds hk with rfl|rfl|rfl|rfl|hk3
  ·rw[show madeG 4 g h l m=_ from (if_neg hz).trans (if_pos rfl)]
   exact made_copy g h l w hl (by omega) z1
  ·rw[show madeG 10 g h l m=_ from (if_neg hz).trans ((if_neg (by decide)).trans (if_pos rfl))]
   exact(made_not g h w z1).mono fun e w' ⟨h1,h2⟩=>⟨nilSl,h1,OwnI.nil,h2⟩
  ·rw[show madeG 9 g h l m=_ from (if_neg hz).trans ((if_neg (by decide)).trans ((if_neg (by decide)).trans (if_pos rfl)))]
   exact(made_same g h l m w hl hm (by omega) (by omega) z1 (z2 (by decide) (by decide))).mono fun e w' ⟨h1,h2⟩=>⟨nilSl,h1,OwnI.nil,h2⟩
  ·rw[show madeG 8 g h l m=_ from (if_neg hz).trans ((if_neg (by decide)).trans ((if_neg (by decide)).trans (if_neg (by decide))))]
   exact(made_two 8 (by decide) g h (checkSpan_zero hg.span).1 (checkSpan_zero hh.span).1 w z1 (z2 (by decide) (by decide))).mono fun e w' ⟨h1,h2⟩=>⟨nilSl,by rw[h1,Gu.res,← twoG_s 8 g h],OwnI.nil,h2⟩
  ·rw[show madeG k g h l m=_ from (if_neg hz).trans ((if_neg (by omega)).trans ((if_neg (by omega)).trans (if_neg (by omega))))]
   exact(made_two k (by omega) g h (checkSpan_zero hg.span).1 (checkSpan_zero hh.span).1 w z1 (z2 (by omega) (by omega))).mono fun e w' ⟨h1,h2⟩=>⟨nilSl,by rw[h1,Gu.res,← twoG_s k g h],OwnI.nil,h2⟩
theorem rdo_all (k:Int) (g h:Gu) (l m:List Int) (w:World) (hk:betw k 4 10=true) (hg:RightGu g l) (hh:RightGu h m) (hl:IntsAt w g.s l) (hm:IntsAt w h.s m):
  Calls Tryz.prog 82 #[.int .i64 k,g.v,h.v] w fun e w'=>∃ r:Sl,e=.returned (.tuple #[((madeG k g h l m).1.gu r).v,.bool (madeG k g h l m).2])∧(r=g.s∧(madeG k g h l m).1.l=l∨r=nilSl∧(madeG k g h l m).1.l=[])∧Below w.heap.size w w':=by
 have n1:=hg.le
 have n2:=hh.le
 by_cases hz:(emptyG g || (!(k==10 || k==4)&&emptyG h))=true
 ·rw[madeG_nil hz]
  exact(rdo_nil k g h hz w).mono fun e w' ⟨h1,h2⟩=>⟨nilSl,h1,.inr ⟨rfl,rfl⟩,h2⟩
 ·obtain⟨z1,z2⟩:=full_of hz
  rcases kinds hk with rfl|rfl|rfl|rfl|hk3
  ·rw[show madeG 4 g h l m=_ from (if_neg hz).trans (if_pos rfl),both_none hg.span,mix_nil hg.asc]
   exact(rdo_copy g h w z1).mono fun e w' ⟨h1,h2⟩=>⟨g.s,h1,.inl ⟨rfl,rfl⟩,h2⟩
  ·rw[show madeG 10 g h l m=_ from (if_neg hz).trans ((if_neg (by decide)).trans (if_pos rfl))]
   exact(rdo_not g h w z1).mono fun e w' ⟨h1,h2⟩=>⟨nilSl,h1,.inr ⟨rfl,rfl⟩,h2⟩
  ·rw[show madeG 9 g h l m=_ from (if_neg hz).trans ((if_neg (by decide)).trans ((if_neg (by decide)).trans (if_pos rfl)))]
   exact(rdo_same g h l m w hl hm z1 (z2 (by decide) (by decide))).mono fun e w' ⟨h1,h2⟩=>⟨nilSl,by rw[h1,same_eq hg hh],.inr ⟨rfl,rfl⟩,h2⟩
  ·rw[show madeG 8 g h l m=_ from (if_neg hz).trans ((if_neg (by decide)).trans ((if_neg (by decide)).trans (if_neg (by decide))))]
   exact(rdo_less g h w z1 (z2 (by decide) (by decide))).mono fun e w' ⟨h1,h2⟩=>⟨nilSl,by rw[h1,Gu.res,← twoG_s 8 g h],.inr ⟨rfl,rfl⟩,h2⟩
  ·rw[show madeG k g h l m=_ from (if_neg hz).trans ((if_neg (by omega)).trans ((if_neg (by omega)).trans (if_neg (by omega))))]
   exact(rdo_span k hk3 g h hg.span hh.span w z1 (z2 (by omega) (by omega))).mono fun e w' ⟨h1,h2⟩=>⟨nilSl,by rw[h1,Gu.res,← twoG_s k g h],.inr ⟨rfl,rfl⟩,h2⟩
def firstE:List Int→Int
 | []=>0
 | e::l=>if e=0 then firstE l else e
theorem firstE_append (l m:List Int):firstE (l++m)=if firstE l=0 then firstE m else firstE l:=by
 induction l with
 | nil=>simp[firstE]
 | cons e l ih=>
  by_cases h:e=0
  ·simp[firstE,h,ih]
  ·simp[firstE,h]
theorem firstE_flat {α:Type}(f:α→Int) (ls:List (List α)):firstE (ls.map fun l=>firstE (l.map f))=firstE (ls.flatten.map f):=by
 induction ls with
 | nil=>rfl
 | cons l ls ih=>
  rw[List.flatten_cons,List.map_append,firstE_append,List.map_cons,← ih]
  rfl
theorem take_next {α:Type}(l:List α) (k:Nat) (d:α) (h:k<l.length):l.take (k+1)=l.take k++[l.getD k d]:=by
 rw[List.take_add_one,List.getElem?_eq_getElem h,List.getD_eq_getElem?_getD,List.getElem?_eq_getElem h]
 rfl
structure RowIs (w:World) (s:Sl) (ds:List Res):Prop where
 n:s.n=ds.length
 m:s.n≤9223372036854775807
 ex:∃ ss:Nat→Sl,ListC w 7 s.p s.n (fun k=>((ds.getD k zeroD).gu (ss k)).cells)∧∀ k,k<s.n→IntsAt w (ss k) (ds.getD k zeroD).l
theorem RowIs.grow {w w' : World}{s:Sl}{ds:List Res}(h:RowIs w s ds) (hb:Below w.heap.size w w'):RowIs w' s ds:=by
 obtain⟨h1,h2,ss,h3,h4⟩:=h
 exact⟨h1,h2,ss,h3.grow hb,fun k hk=>(h4 k hk).grow hb⟩
theorem RowIs.zero (w:World) (x:Option Addr) (z:Nat):RowIs w ⟨x,0,z⟩ []:=
 ⟨rfl,Nat.zero_le _,fun _=>nilSl,⟨0,0,fun h=>absurd h (Nat.lt_irrefl 0),fun k hk=>absurd hk (Nat.not_lt_zero k)⟩,fun k hk=>absurd hk (Nat.not_lt_zero k)⟩
structure RowsIs (w:World) (s:Sl) (dss:List (List Res)):Prop where
 n:s.n=dss.length
 m:s.n≤9223372036854775807
 ex:∃ rs:Nat→Sl,ListC w 1 s.p s.n (fun k=>[.slice (rs k).p (rs k).n (rs k).cap])∧∀ k,k<s.n→RowIs w (rs k) (dss.getD k [])
theorem RowsIs.grow {w w' : World}{s:Sl}{dss:List (List Res)}(h:RowsIs w s dss) (hb:Below w.heap.size w w'):RowsIs w' s dss:=by
 obtain⟨h1,h2,rs,h3,h4⟩:=h
 exact⟨h1,h2,rs,h3.grow hb,fun k hk=>(h4 k hk).grow hb⟩
theorem RowsIs.zero (w:World) (x:Option Addr) (z:Nat):RowsIs w ⟨x,0,z⟩ []:=
 ⟨rfl,Nat.zero_le _,fun _=>nilSl,⟨0,0,fun h=>absurd h (Nat.lt_irrefl 0),fun k hk=>absurd hk (Nat.not_lt_zero k)⟩,fun k hk=>absurd hk (Nat.not_lt_zero k)⟩
structure Pv where
 none:Bool
 vars:Sl
 fields:Sl
abbrev Pv.cells (x:Pv):List Value:=[.bool x.none,.slice x.vars.p x.vars.n x.vars.cap,.slice x.fields.p x.fields.n x.fields.cap]
abbrev Pv.v (x:Pv):Value:=.agg #[.bool x.none,.slice x.vars.p x.vars.n x.vars.cap,.slice x.fields.p x.fields.n x.fields.cap]
abbrev zeroP:Pv:=⟨false,nilSl,nilSl⟩
structure Pd where
 none:Bool
 vars:List Res
 fields:List (List Res)
abbrev nonePd:Pd:=⟨true,[],[]⟩
abbrev zeroPd:Pd:=⟨false,[],[]⟩
abbrev Pd.var (d:Pd) (k:Nat):Res:=d.vars.getD k zeroD
abbrev Pd.row (d:Pd) (k:Nat):List Res:=d.fields.getD k []
abbrev Pd.field (d:Pd) (k j:Nat):Res:=(d.fields.getD k []).getD j zeroD
structure PicIs (w:World) (x:Pv) (d:Pd):Prop where
 e:x.none=d.none
 vars:RowIs w x.vars d.vars
 fields:RowsIs w x.fields d.fields
 m:x.vars.n+x.fields.n≤9223372036854775807
theorem PicIs.grow {w w' : World}{x:Pv}{d:Pd}(h:PicIs w x d) (hb:Below w.heap.size w w'):PicIs w' x d:=⟨h.e,h.vars.grow hb,h.fields.grow hb,h.m⟩
theorem PicIs.zero (w:World):PicIs w zeroP zeroPd:=⟨rfl,RowIs.zero w _ _,RowsIs.zero w _ _,Nat.zero_le _⟩
def emptyD (d:Res):Bool:=!d.null&&d.span.none && !d.tr && !d.fa&&(d.l.length:Int)==0
theorem emptyD_gu {d:Res}{s:Sl}(h:s.n=d.l.length):emptyG (d.gu s)=emptyD d:=by
 show (!d.null&&d.span.none && !d.tr && !d.fa&&(s.n:Int)==0)=_
 rw[h];rfl
abbrev rightD (p:Pg) (is:Nat→Ins) (d:Res):Int:=rightG p is (d.gu nilSl) d.l
def rowE (p:Pg) (is:Nat→Ins) (ds:List Res):Int:=firstE (ds.map (rightD p is))
def rowsE (p:Pg) (is:Nat→Ins) (dss:List (List Res)):Int:=firstE (dss.map (rowE p is))
theorem rowsE_flat (p:Pg) (is:Nat→Ins) (dss:List (List Res)):rowsE p is dss=firstE (dss.flatten.map (rightD p is)):=firstE_flat _ _
def fullD (ds:List Res):Bool:=anyN (fun k=>!emptyD (ds.getD k zeroD)) ds.length
def strayD (p:Pg) (is:Nat→Ins) (dss:List (List Res)):Bool:=anyN (fun i=>!isSite p is i&&fullD (dss.getD i [])) dss.length
def lensD (p:Pg) (d:Pd):Bool:=(d.vars.length:Int) != p.vars || (d.fields.length:Int) != p.n || anyN (fun i=>((d.row i).length:Int) != p.fields) d.fields.length
def rightP (p:Pg) (is:Nat→Ins) (d:Pd):Int:=
 if d.none=true then (if 0<d.vars.length+d.fields.length then 1 else 0)
 else if lensD p d=true then 1
 else if rowsE p is (d.vars::d.fields)≠0 then rowsE p is (d.vars::d.fields)
 else if strayD p is d.fields=true then 4 else 0
theorem lenG (g:Gu):(Gu.cells g).length=7:=rfl
theorem oneG' {l:List Gu}:∀ u∈l.flatMap Gu.cells,u.oneCell'=true:=by
 intro u hu
 obtain⟨x,_,hx⟩:=List.mem_flatMap.1 hu
 simp only[Gu.cells,List.mem_cons,List.not_mem_nil,or_false]at hx
 rcases hx with rfl|rfl|rfl|rfl|rfl|rfl|rfl<;>rfl
structure GuIs (w:World) (g:Gu) (d:Res):Prop where
 e:g=d.gu g.s
 l:IntsAt w g.s d.l
theorem GuIs.mk' {w:World}{s:Sl}{d:Res}(h:IntsAt w s d.l):GuIs w (d.gu s) d:=⟨rfl,h⟩
theorem GuIs.grow {w w' : World}{g:Gu}{d:Res}(h:GuIs w g d) (hb:Below w.heap.size w w'):GuIs w' g d:=⟨h.e,h.l.grow hb⟩
structure GusD (w:World) (gl:List Gu) (ds:List Res):Prop where
 len:gl.length=ds.length
 at' : ∀ k,k<ds.length→GuIs w (gl.getD k zeroG) (ds.getD k zeroD)
theorem GusD.grow {w w' : World}{gl:List Gu}{ds:List Res}(h:GusD w gl ds) (hb:Below w.heap.size w w'):GusD w' gl ds:=⟨h.len,fun k hk=>(h.at' k hk).grow hb⟩
theorem GusD.nil (w:World):GusD w [] []:=⟨rfl,fun k hk=>absurd hk (Nat.not_lt_zero k)⟩
theorem getD_left {α:Type}{l m:List α}{d:α}{k:Nat}(h:k<l.length):(l++m).getD k d=l.getD k d:=by
 simp[List.getD_eq_getElem?_getD,List.getElem?_append_left h]
theorem getD_right {α:Type}{l m:List α}{d:α}{k:Nat}(h:l.length≤k):(l++m).getD k d=m.getD (k - l.length) d:=by
 simp[List.getD_eq_getElem?_getD,List.getElem?_append_right h]
theorem GusD.append {w:World}{gl gm:List Gu}{ds es:List Res}(h:GusD w gl ds) (h' : GusD w gm es):GusD w (gl++gm) (ds++es):=by
 refine⟨by rw[List.length_append,List.length_append,h.len,h'.len],fun k hk=>?_⟩
 rw[List.length_append]at hk
 rcases Nat.lt_or_ge k ds.length with h1|h1
 ·rw[getD_left (by rw[h.len];exact h1),getD_left h1]
  exact h.at' k h1
 ·rw[getD_right (by rw[h.len];exact h1),getD_right h1,h.len]
  exact h'.at' _ (by omega)
theorem GusD.one {w:World}{g:Gu}{d:Res}(h:GuIs w g d):GusD w [g] [d]:=by
 refine⟨rfl,fun k hk=>?_⟩
 obtain rfl:k=0:=by simpa using hk
 exact h
theorem RowIs.gus {w:World}{s:Sl}{ds:List Res}(h:RowIs w s ds):∃ gl,GusD w gl ds∧ListC w 7 s.p s.n (fun k=>Gu.cells (gl.getD k zeroG)):=by
 obtain⟨ss,h1,h2⟩:=h.ex
 have hg:∀ k,k<s.n→((List.range s.n).map fun k=>(ds.getD k zeroD).gu (ss k)).getD k zeroG=(ds.getD k zeroD).gu (ss k):=fun k hk=>getD_map_range _ _ _ _ hk
 refine⟨(List.range s.n).map fun k=>(ds.getD k zeroD).gu (ss k),⟨by simp[h.n],fun k hk=>?_⟩,h1.congr fun k hk=>by rw[hg k hk]⟩
 rw[hg k (by rw[h.n];exact hk)]
 exact GuIs.mk' (h2 k (by rw[h.n];exact hk))
theorem GusD.row {w:World}{B:Nat}{p:Option Addr}{n cap:Nat}{gl:List Gu}{ds:List Res}{R:List LBlk}(h:GusD w gl ds) (hr:RowS 108 7 p n cap (gl.flatMap Gu.cells) R) (ho:Own B w R):RowIs w ⟨p,n,cap⟩ ds:=by
 obtain⟨h1,h2⟩:=hr.listC lenG zeroG (by decide) ho
 refine⟨h1.trans h.len,hr.max,fun k=>(gl.getD k zeroG).s,h2.congr fun k hk=>?_,fun k hk=>(h.at' k (by rw[← h.len,← h1];exact hk)).l⟩
 rw[← (h.at' k (by rw[← h.len,← h1];exact hk)).e]
end Go.Proofs.YtplcndmdkabmeaaGreatDoor
