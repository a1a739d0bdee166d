import Derived.Test.YtplcndmdkabmeaaGreatDoorAlmN
import Derived.Test.YtplcndmdkabmeaaGreatDoorRepS
import Derived.Test.YtplcndmdkabmeaaGreatDoorGua
set_option linter.unusedSimpArgs false
set_option linter.unusedVariables false
set_option maxRecDepth 100000
set_option maxHeartbeats 1600000
namespace Go.Proofs.YtplcndmdkabmeaaGreatDoor
open Go.RowKit
theorem eql_alarm (a b c d:Int) (w:World):(binOp .eql 35 (.agg #[.int .i64 a,.int .i64 b]) (.agg #[.int .i64 c,.int .i64 d])).run Tryz.prog w=.ok (.bool (sameA (a,b) (c,d))) w:=by
 by_cases h1:a=c
 ·by_cases h2:b=d
  ·subst h1 h2;go_simp;simp[sameA]
  ·subst h1
   have e:sameA (a,b) (a,d)=false:=by simp[sameA,h2]
   rw[e];go_simp
 ·have e:sameA (a,b) (c,d)=false:=by simp[sameA,h1]
  rw[e];go_simp
theorem eql_guardA (x y:Operand) (a b c d:Int) (w:World):(eqGuard .eql 35 x y (.agg #[.int .i64 a,.int .i64 b]) (.agg #[.int .i64 c,.int .i64 d])).run Tryz.prog w=.ok () w:=by
 go_simp
theorem wp_eql_alarm {ops:Array Oper}{Q:Exit→Act→World→Prop}{act:Act}{w:World}{rest:List Oper}{d:Option Tmp}{ty u:TypeId}{pos:String}{after:Array Edge}{x y:Operand}{a b c d' : Int}(ha:act.eval x=.agg #[.int .i64 a,.int .i64 b]) (hb:act.eval y=.agg #[.int .i64 c,.int .i64 d'])
  (h:wpList Tryz.prog ops Q rest (act.put d (.bool (sameA (a,b) (c,d')))) w):wpList Tryz.prog ops Q (⟨d,.binOp .eql 35 x y u,ty,pos,after,none⟩::rest) act w:=by
 refine wp_bin (w':=w) ?_ ?_ h
 ·rw[ha,hb];exact eql_guardA x y a b c d' w
 ·rw[ha,hb];exact eql_alarm a b c d' w
theorem hasAl_any (kind:Int) (bl br:Nat) (s:Sl) (al:List (Int × Int)) (ra:Int) (rc:List Value) (w:World) (h1:w.heap[bl]? = some (.cells #[.slice s.p s.n s.cap] 32 (0,0))) (h2:w.heap[br]? = some (.cells (.int .i64 ra::rc).toArray 46 (0,0))) (hA:AlmAt w s al) (hn:al.length≤1000):
  Calls Tryz.prog 16 #[.int .i64 kind,.pointer (some ⟨bl,0,none⟩),.pointer (some ⟨br,0,none⟩)] w fun e w'=>e=.returned (.bool (hasA al (ra,kind)))∧Below w.heap.size w w':=by
 have HRL:=Lib.hid (ReadsAt.cell (P:=Tryz.prog) tAlarms (w:=w) (b:=bl) (off:=0) (v:=.slice s.p s.n s.cap) (heap_lt h1) (by simp[World.cell?,h1]))
 have HRR:=Lib.hid (ReadsAt.cell (P:=Tryz.prog) tInt (w:=w) (b:=br) (off:=0) (v:=.int .i64 ra) (heap_lt h2) (by simp[World.cell?,h2]))
 have hn1:=hA.n
 obtain⟨b3,o3,hp3,hr3⟩:=hA.reads1
 have HYES:=Lib.hid (fun k (hk:k<al.length) (h:sameA (al.getD k (0,0)) (ra,kind)=true)=>(show hasA al (ra,kind)=true from anyN_yes hk h))
 have HNO:=Lib.hid (fun (h:∀ k,k<al.length→sameA (al.getD k (0,0)) (ra,kind)=false)=>(show hasA al (ra,kind)=false from anyN_no h))
 obtain⟨sp,sn,sc⟩:=s
 dsimp only at hp3 hr3 hn1 HRL
 rw[← hn1]at HYES HNO hn
 have HP3:=Lib.hid hp3
 have HR3:=Lib.hid hr3
 clear h1 h2 hA hp3 hr3 hn1
 have hL:=Loc.start w
 go_enter Tryz.func16,Tryz.ntmps16
 go_wp2_with (first|(with_reducible first|refine lld hL ?_|((first|refine lbx hL ?_|refine lal hL ?_|refine lbs hL ?_);clear hL;intro bl w1 hL)|(refine lst' hL ?_;clear hL;intro w1 hL)))
 go_loopw [5] (fun c5 wr=>∃ i:Nat,i≤sn∧c5=.int .i64 i∧(∀ k,k<i→sameA (al.getD k (0,0)) (ra,kind)=false)∧Loc w wr [] []) (fun c _=>sn - (intOf c).toNat)
 case atStart=>exact⟨0,Nat.zero_le _,rfl,fun k hk=>absurd hk (Nat.not_lt_zero k),hL⟩
 case round=>
  clear hL
  obtain⟨i,hi,rfl,hno,hL⟩:=hrel
  have HNP:=Lib.hid hno
  clear hno
  by_cases hlt:i<sn
  ·have HPC3:=Lib.hid (HP3.out (by omega))
   obtain rfl:=HPC3.out
   clear HPC3 HP3
   have h31:=HR3.out i hlt
   have hyes:=HYES.out i hlt
   have hnx:sameA (al.getD i (0,0)) (ra,kind)=false→∀ k,k<i+1→sameA (al.getD k (0,0)) (ra,kind)=false:=fun h k hk=>by
    rcases Nat.lt_or_ge k i with q|q
    ·exact HNP.out k q
    ·obtain rfl:k=i:=by omega
     exact h
   generalize al.getD i (0,0)=x at h31 hyes hnx
   obtain⟨xa,xk⟩:=x
   dsimp only at h31
   have H31:=Lib.hid h31
   have HYS:=Lib.hid hyes
   have HNX:=Lib.hid hnx
   clear h31 hyes hnx HNP HYES HNO
   obtain⟨wq,hwq⟩:∃ x,x=wr:=⟨_,rfl⟩
   subst hwq
   go_upto_region 4 with(first|(with_reducible refine ldB HRL.out hL ?_)|(with_reducible first|refine lld hL ?_|((first|refine lbx hL ?_|refine lal hL ?_|refine lbs hL ?_);clear hL;intro bl w1 hL)|(refine lst' hL ?_;clear hL;intro w1 hL)))
   refine draw_begin [12,13,14,15,16,17,18,19,20] ?_
   apply draw_val
   ·intro g w hb z;replace hL:=hL.grow hb;clear z;simp only[fillD,fLa,fLb,sTa,sTb]
    refine loc_loadB HRL.out hL rfl rfl ?_
    exact cY
   simp only[apN,apC]
   refine dv0 ?_
   refine dv2 0 1 ?_
   apply draw_val
   ·intro g w hb z;replace hL:=hL.grow hb;have d2:=yv z 2;clear z;simp only[fillD,fLa,fLb,sTa,sTb];simp only[d2]
    refine loc_loadB H31.out hL rfl rfl ?_
    exact cY
   simp only[apN,apC]
   refine dv0 ?_
   apply draw_val
   ·intro g w hb z;replace hL:=hL.grow hb;have d4:=yv z 4;clear z;simp only[fillD,fLa,fLb,sTa,sTb];simp only[d4]
    refine loc_loadB HRR.out hL rfl rfl ?_
    exact cY
   simp only[apN,apC]
   refine dv0 ?_
   refine dv2 5 6 ?_
   apply draw_val
   ·intro g w hb z;replace hL:=hL.grow hb;have d3:=yv z 3;have d7:=yv z 7;clear z;simp only[fillD,fLa,fLb,sTa,sTb];simp only[d3,d7]
    refine wp_eql_alarm (a:=xa) (b:=xk) (c:=ra) (d':=kind) rfl rfl ?_
    exact cY
   simp only[apN,apC]
   refine dnd hL ?_
   clear hL;intro w2 hL;simp only[fillX,sTa,sTb]
   cases hs:sameA (xa,xk) (ra,kind) with
   | true=>
    have HE:=Lib.hid (HYS.out hs)
    clear HYS HNX hs
    go_wp2_with (first|(with_reducible first|refine lld hL ?_|((first|refine lbx hL ?_|refine lal hL ?_|refine lbs hL ?_);clear hL;intro bl w1 hL)|(refine lst' hL ?_;clear hL;intro w1 hL)))
    (try simp only[Exit.inBlock,Exit.then]);refine rt1 ?_
    exact⟨by rw[HE.out];rfl,hL.below⟩
   | false=>
    have HE:=Lib.hid (HNX.out hs)
    clear HYS HNX hs
    go_wp2_with (first|(with_reducible first|refine lld hL ?_|((first|refine lbx hL ?_|refine lal hL ?_|refine lbs hL ?_);clear hL;intro bl w1 hL)|(refine lst' hL ?_;clear hL;intro w1 hL)))
    go_roundw
    case rel=>exact⟨i+1,by omega,by go_num,HE.out,hL⟩
    case measure=>simp[intOf];omega
  ·obtain rfl:i=sn:=by omega
   have HE:=Lib.hid (HNO.out HNP.out)
   clear HNP HYES HNO HR3
   go_wp2_with (first|(with_reducible refine ldB HRL.out hL ?_)|(with_reducible first|refine lld hL ?_|((first|refine lbx hL ?_|refine lal hL ?_|refine lbs hL ?_);clear hL;intro bl w1 hL)|(refine lst' hL ?_;clear hL;intro w1 hL)))
   (try simp only[Exit.inBlock,Exit.then]);refine rt1 ?_
   exact⟨by rw[HE.out];rfl,hL.below⟩
end Go.Proofs.YtplcndmdkabmeaaGreatDoor
