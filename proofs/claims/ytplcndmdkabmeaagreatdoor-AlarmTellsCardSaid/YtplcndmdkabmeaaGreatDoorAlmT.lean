/-  -/
import Derived.Test.YtplcndmdkabmeaaGreatDoorAlmA
import Derived.Test.YtplcndmdkabmeaaGreatDoorRefSolC
import Derived.Test.YtplcndmdkabmeaaGreatDoorAlmS
set_option linter.unusedSimpArgs false
set_option linter.unusedVariables false
set_option maxRecDepth 100000
set_option maxHeartbeats 1600000
namespace Go.Proofs.YtplcndmdkabmeaaGreatDoor
open Go.RowKit
def addA (c:Bool) (i j:Int):List (Int × Int):=if c then [(i,j)] else []
theorem almJ_four (o:Outs) (nn:Bool) (i:Nat):almJ o nn i 4=addA o.wr i 1++addA o.fl i 2++addA nn i 3:=by
 obtain⟨e,a,b⟩:=o
 cases a<;>cases b<;>cases nn<;>rfl
theorem rAlarms_any (p:Pg) (is:Nat→Ins) (nv nf:Nat) (hv:p.vars=nv) (hf:p.fields=nf) (hp:checkProg p is=0) (w:World) (hc:CodeAt w p is):
  Calls Tryz.prog 11 #[p.v] w fun e w'=>∃ (k:Nat) (s:Sl),e=.returned s.v∧EndsN is p.n (beginL nv nf p.n) k∧AlmAt w' s (almUp is (solN is p.n (beginL nv nf p.n) (k+1)) p.n)∧Below w.heap.size w w':=by
 have hs:=(prog_right hp).1
 have h60:=hs.n1
 have HSV:=Lib.hid (fun w' (hb:Below w.heap.size w w')=>rsolve_any p is nv nf hv hf hp w' (hc.grow hb))
 have HST:=Lib.hid (fun (k:Nat) (hE:EndsN is p.n (beginL nv nf p.n) k) (s:Sl) (w1:World) (hb1:Below w.heap.size w w1) (hx:PicsL w1 s (solN is p.n (beginL nv nf p.n) (k+1)))=>(show s.n=p.n+1∧∃ (b o:Nat) (xs:Nat→Pv),s.p=some ⟨b,o,none⟩∧∀ j,j<p.n→ReadsAt Tryz.prog 54 w1 b (o+j*3) (xs j).v∧ReadsAt Tryz.prog 4 w1 b (o+j*3) (.bool ((solN is p.n (beginL nv nf p.n) (k+1)).getD j nonePd).none)∧
   ∀ w',Below w1.heap.size w1 w'→Calls Tryz.prog 40 #[p.v,.int .i64 j,(xs j).v] w' fun e w''=>(∃ s:Sl,e=.returned (.tuple #[.slice s.p s.n s.cap,.bool (rawD is j ((solN is p.n (beginL nv nf p.n) (k+1)).getD j nonePd)).wr,.bool (rawD is j ((solN is p.n (beginL nv nf p.n) (k+1)).getD j nonePd)).fl]))∧Below w'.heap.size w' w'' by
  have hok:=solN_ok hp (beginL_ok hv hf) (k+1)
  have hln:s.n=p.n+1:=hx.n.trans hok.len
  obtain⟨xs,hx1,hpc⟩:=hx.ex
  obtain⟨b,o,hpp,hcc⟩:=hx1.ex
  refine⟨hln,b,o,xs,hpp (by omega),fun j hj=>⟨ReadsAt.agg tPic (hcc j (by omega)).1 (hcc j (by omega)).2 rfl,ReadsAt.cell tBool (hcc j (by omega)).1 (by rw[← (hpc j (by omega)).e];exact(hcc j (by omega)).2 0 _ rfl),fun w' hb=>?_⟩⟩
  obtain⟨gx,hgx⟩:=(hpc j (by omega)).gx
  refine Calls.mono (rsp_any p is (xs j) _ gx j w' hp (hc.grow (hb1.trans (hb.mono hb1.size))) ((hpc j (by omega)).grow hb) ⟨hgx.d.grow hb,hgx.l.grow hb⟩ (hok.r j (by omega)) hj) ?_
  rintro e w'' ⟨s1,rfl,hG⟩
  exact⟨⟨s1,rfl⟩,hG.below⟩))
 have HUL:=Lib.hid (fun l k=>almUp_len is l k)
 have HUS:=Lib.hid (fun l k=>(almUp_succ is l k).trans (congrArg _ (almJ_four _ _ _)))
 clear hs hp hc
 obtain⟨pv,pf,pp,pn,pc⟩:=p
 dsimp only at *
 subst hv hf
 have hL:=Loc.start w
 go_enter Tryz.func11,Tryz.ntmps11
 go_step
 go_step
 go_step
 ((with_reducible refine lbx hL ?_);clear hL;intro b1 w1 hL)
 go_upto_region 2 with(first|(go_at_call 23;refine(HSV.out _ hL.below).mono ?_;rintro e w1 ⟨kk,⟨sp,sn,sc⟩,rfl,hE,hG⟩;generalize ((kk+1:Nat):Int)=st;replace hL:=hL.grow (gotPs_below' hG);have HE:=Lib.hid hE;have HX:=Lib.hid (HST.out kk hE ⟨sp,sn,sc⟩ w1 hL.below hG.is);have HB:=Lib.hid hL.below;have HRP:=Lib.hid (prog_readA (p:=⟨nv,nf,pp,pn,pc⟩) (hL.heap InL.head));have HRC:=Lib.hid (hL.readsG (Tv:=25) (off:=2) (v:=.slice pp pn pc) InL.head (Reads.cell tInstrs rfl));clear hG hE hL HSV HST;have hL:=Loc.start w1;dsimp only)|(with_reducible first|refine lld hL ?_|((first|refine lbx hL ?_|refine lal hL ?_|refine lbs hL ?_);clear hL;intro bl w1 hL)|(refine lst' hL ?_;clear hL;intro w1 hL)))
 obtain⟨hsn,b,o,xs,hsp,hxs⟩:=HX.out
 dsimp only at hsn hsp
 subst hsn hsp
 have HXS:=Lib.hid hxs
 clear hxs HX
 generalize hl:solN is pn (beginL nv nf pn) (kk+1)=l at *
 have HLL:=Lib.hid hl
 clear hl
 obtain⟨wp,hwp⟩:∃ x,x=w1:=⟨_,rfl⟩
 subst hwp
 go_wp2_with (first|(with_reducible first|refine lld hL ?_|((first|refine lbx hL ?_|refine lal hL ?_|refine lbs hL ?_);clear hL;intro bl w1 hL)|(refine lst' hL ?_;clear hL;intro w1 hL)))
 go_loopw [5,6] (fun c5 c20 wr=>∃ k:Nat,k≤pn∧c20=.int .i64 k∧∃ (p5:Option Addr) (n5 cap5:Nat) (R:List LBlk),c5=.slice p5 n5 cap5∧RowS 35 2 p5 n5 cap5 ((almUp is l k).flatMap almC) R∧Loc wp wr R []) (fun _ c _=>pn - (intOf c).toNat)
 case atStart=>exact⟨0,Nat.zero_le _,rfl,none,0,0,[],rfl,RowS.nil,hL⟩
 case round=>
  clear hL
  obtain⟨k,hk,rfl,p5,n5,cap5,R,rfl,hR,hL⟩:=hrel
  have HR:=Lib.hid hR
  clear hR
  by_cases hlt:k<pn
  ·obtain⟨hrk,hrn,hst⟩:=HXS.out k hlt
   have hul:=HUL.out l k
   have hus:=HUS.out l k
   have hn5:n5≤4*k:=by have:=HR.out.flatlen lenA (by decide);omega
   generalize almUp is l k=A at hus HR
   generalize l.getD k nonePd=d at hrn hst hus
   generalize rawD is k d=oo at hst hus
   generalize d.none=dn at hrn hus
   generalize xs k=x at hrk hst
   obtain⟨xn,⟨xp,xvn,xc⟩,⟨xfp,xfn,xfc⟩⟩:=x
   dsimp only[Pv.v,Pv.cells]at hrk hst
   obtain⟨oe,ow,ol⟩:=oo
   dsimp only at hst hus
   have HRK:=Lib.hid hrk
   have HRN:=Lib.hid hrn
   have HST:=Lib.hid hst
   have HUK:=Lib.hid hus
   clear hrk hrn hst hus hul
   have hns:((k:Int)<((pn+1:Nat):Int)):=by omega
   obtain⟨wq,hwq⟩:∃ x,x=wr:=⟨_,rfl⟩
   subst hwq
   go_upto_region 6 with(first|(with_reducible refine ldB HRC.out hL ?_)|(with_reducible first|refine lld hL ?_|((first|refine lbx hL ?_|refine lal hL ?_|refine lbs hL ?_);clear hL;intro bl w1 hL)|(refine lst' hL ?_;clear hL;intro w1 hL)))
   refine draw_begin [23,24,25,26,27,28,29,22,30,31,32,7,8,9] ?_
   apply draw_val
   ·intro g w hb y;replace hL:=hL.grow hb;clear y;simp only[fillD,fLa,fLb,sTa,sTb]
    refine loc_loadB HRP.out hL rfl rfl ?_
    exact cY
   simp only[apN,apC]
   refine dv0 ?_
   refine dv0 ?_
   refine dv0 ?_
   refine dv2 2 3 ?_
   apply draw_val
   ·intro g w hb y;replace hL:=hL.grow hb;have d4:=yv y 4;clear y;simp only[fillD,fLa,fLb,sTa,sTb];simp only[d4]
    refine loc_loadB HRK.out hL rfl rfl ?_
    exact cY
   simp only[apN,apC]
   refine draw_next (RawV ⟨oe,ow,ol⟩) RawV.stable ?_ ?_
   ·intro g w hb y;replace hL:=hL.grow hb;have d0:=yv y 0;have d1:=yv y 1;have d5:=yv y 5;clear y;simp only[fillD,fLa,fLb,sTa,sTb];simp only[d0,d1,d5]
    go_wp2_with (go_at_call 40;refine(HST.out _ hL.below).mono ?_;rintro e w3 ⟨⟨s1,rfl⟩,hb3⟩;dsimp only)
    exact⟨rfl,_,rfl,hb3,s1,rfl⟩
   simp only[apN,apC]
   refine draw_next (RawV ⟨oe,ow,ol⟩) RawV.stable ?_ ?_
   ·intro g w hb y;replace hL:=hL.grow hb;have d6:(RawV ⟨oe,ow,ol⟩) (g 29) w:=yr y 6;obtain⟨s1,d6⟩:=d6;clear y;simp only[fillD,fLa,fLb,sTa,sTb];simp only[d6]
    go_wp2_with (fail)
    exact⟨rfl,_,rfl,Below.refl _ _,s1,rfl⟩
   simp only[apN,apC]
   refine draw_next (SlV) SlV.stable ?_ ?_
   ·intro g w hb y;replace hL:=hL.grow hb;have d7:(RawV ⟨oe,ow,ol⟩) (g 22) w:=yr y 7;obtain⟨s1,d7⟩:=d7;clear y;simp only[fillD,fLa,fLb,sTa,sTb];simp only[d7]
    go_wp2_with (fail)
    exact⟨rfl,_,rfl,Below.refl _ _,s1,rfl⟩
   simp only[apN,apC]
   apply draw_val
   ·intro g w hb y;replace hL:=hL.grow hb;have d7:(RawV ⟨oe,ow,ol⟩) (g 22) w:=yr y 7;obtain⟨s1,d7⟩:=d7;clear y;simp only[fillD,fLa,fLb,sTa,sTb];simp only[d7]
    go_wp2
    exact cY
   simp only[apN,apC]
   apply draw_val
   ·intro g w hb y;replace hL:=hL.grow hb;have d7:(RawV ⟨oe,ow,ol⟩) (g 22) w:=yr y 7;obtain⟨s1,d7⟩:=d7;clear y;simp only[fillD,fLa,fLb,sTa,sTb];simp only[d7]
    go_wp2
    exact cY
   simp only[apN,apC]
   refine draw_next (SlV) SlV.stable ?_ ?_
   ·intro g w hb y;replace hL:=hL.grow hb;have d8:(SlV) (g 30) w:=yr y 8;obtain⟨s1,d8⟩:=d8;clear y;simp only[fillD,fLa,fLb,sTa,sTb];simp only[d8]
    go_wp2_with (fail)
    exact⟨rfl,_,rfl,Below.refl _ _,s1,rfl⟩
   simp only[apN,apC]
   refine dv1 9 ?_
   refine dv1 10 ?_
   refine draw_end hL (by kernel_rfl) (by kernel_rfl) ?_
   intro g w2 hb hR;simp only[List.length_cons,List.length_nil,Nat.reduceAdd]at hR
   have e0:=yv hR 0
   have e1:=yv hR 1
   have e2:=yv hR 2
   have e3:=yv hR 3
   have e4:=yv hR 4
   have e5:=yv hR 5
   have e6:(RawV ⟨oe,ow,ol⟩) (g 29) w2:=yr hR 6
   obtain⟨sz6,e6⟩:=e6
   have e7:(RawV ⟨oe,ow,ol⟩) (g 22) w2:=yr hR 7
   obtain⟨sz7,e7⟩:=e7
   have e8:(SlV) (g 30) w2:=yr hR 8
   obtain⟨sz8,e8⟩:=e8
   have e9:=yv hR 9
   have e10:=yv hR 10
   have e11:(SlV) (g 7) w2:=yr hR 11
   obtain⟨⟨ep,en,ec⟩,e11⟩:=e11
   have e12:=yv hR 12
   have e13:=yv hR 13
   clear hR;simp only[fillD,fLa,fLb,sTa,sTb]
   simp only[e0,e1,e2,e3,e4,e5,e6,e7,e8,e9,e10,e11,e12,e13]
   clear e0 e1 e2 e3 e4 e5 e6 e7 e8 e9 e10 e11 e12 e13
   replace hL:=hL.grow hb
   clear hb
   clear HST HRK
   cases ow with
   | true=>
    go_upto_region 9 with(first|(refine loc_appendS (z:=[.int .i64 0,.int .i64 0]) (K:=_::[]) (R:=R) (news:=almC ((k:Int),1)) HR.out hL rfl rfl rfl sAlarms bAlarm (by decide) rfl (fun _=>⟨⟨bl,0,none⟩,rfl,fun j u hj=>by rw[add_addr,Nat.zero_add];exact heap_cell (hL.heap cIn) j hj⟩) rfl (by simp[Value.oneCell']) (by have:maxLen=9223372036854775807:=rfl;omega) (by omega) ?_;clear hL;intro p11 cap11 R11 w11 hS11 hL;have HR11:=Lib.hid hS11;clear hS11;replace hL:=hL.drop (List.sublist_cons_self _ _) (fun _ h=>h))|(with_reducible refine ldB HRN.out hL ?_)|(with_reducible first|refine lld hL ?_|((first|refine lbx hL ?_|refine lal hL ?_|refine lbs hL ?_);clear hL;intro bl w1 hL)|(refine lst' hL ?_;clear hL;intro w1 hL)))
    cases ol with
    | true=>
     go_upto_region 11 with(first|(refine loc_appendS (z:=[.int .i64 0,.int .i64 0]) (K:=_::[]) (R:=R11) (news:=almC ((k:Int),2)) HR11.out hL rfl rfl rfl sAlarms bAlarm (by decide) rfl (fun _=>⟨⟨bl,0,none⟩,rfl,fun j u hj=>by rw[add_addr,Nat.zero_add];exact heap_cell (hL.heap cIn) j hj⟩) rfl (by simp[Value.oneCell']) (by have:maxLen=9223372036854775807:=rfl;omega) (by omega) ?_;clear hL;intro p12 cap12 R12 w12 hS12 hL;have HR12:=Lib.hid hS12;clear hS12;replace hL:=hL.drop (List.sublist_cons_self _ _) (fun _ h=>h))|(with_reducible refine ldB HRN.out hL ?_)|(with_reducible first|refine lld hL ?_|((first|refine lbx hL ?_|refine lal hL ?_|refine lbs hL ?_);clear hL;intro bl w1 hL)|(refine lst' hL ?_;clear hL;intro w1 hL)))
     cases dn with
     | true=>
      go_wp2_with (first|(refine loc_appendS (z:=[.int .i64 0,.int .i64 0]) (K:=_::[]) (R:=R12) (news:=almC ((k:Int),3)) HR12.out hL rfl rfl rfl sAlarms bAlarm (by decide) rfl (fun _=>⟨⟨bl,0,none⟩,rfl,fun j u hj=>by rw[add_addr,Nat.zero_add];exact heap_cell (hL.heap cIn) j hj⟩) rfl (by simp[Value.oneCell']) (by have:maxLen=9223372036854775807:=rfl;omega) (by omega) ?_;clear hL;intro p13 cap13 R13 w13 hS13 hL;have HR13:=Lib.hid hS13;clear hS13;replace hL:=hL.drop (List.sublist_cons_self _ _) (fun _ h=>h))|(with_reducible refine ldB HRN.out hL ?_)|(with_reducible first|refine lld hL ?_|((first|refine lbx hL ?_|refine lal hL ?_|refine lbs hL ?_);clear hL;intro bl w1 hL)|(refine lst' hL ?_;clear hL;intro w1 hL)))
      go_roundw
      case rel=>exact⟨k+1,by omega,by go_num,p13,(((n5+1)+1)+1),cap13,R13,rfl,by(have h:=HR13.out;rw[HUK.out];simpa [addA,List.flatMap_append] using h),hL⟩
      case measure=>simp[intOf];omega
     | false=>
      go_wp2_with (first|(with_reducible refine ldB HRN.out hL ?_)|(with_reducible first|refine lld hL ?_|((first|refine lbx hL ?_|refine lal hL ?_|refine lbs hL ?_);clear hL;intro bl w1 hL)|(refine lst' hL ?_;clear hL;intro w1 hL)))
      go_roundw
      case rel=>exact⟨k+1,by omega,by go_num,p12,((n5+1)+1),cap12,R12,rfl,by(have h:=HR12.out;rw[HUK.out];simpa [addA,List.flatMap_append] using h),hL⟩
      case measure=>simp[intOf];omega
    | false=>
     go_upto_region 11 with(first|(with_reducible refine ldB HRN.out hL ?_)|(with_reducible first|refine lld hL ?_|((first|refine lbx hL ?_|refine lal hL ?_|refine lbs hL ?_);clear hL;intro bl w1 hL)|(refine lst' hL ?_;clear hL;intro w1 hL)))
     cases dn with
     | true=>
      go_wp2_with (first|(refine loc_appendS (z:=[.int .i64 0,.int .i64 0]) (K:=_::[]) (R:=R11) (news:=almC ((k:Int),3)) HR11.out hL rfl rfl rfl sAlarms bAlarm (by decide) rfl (fun _=>⟨⟨bl,0,none⟩,rfl,fun j u hj=>by rw[add_addr,Nat.zero_add];exact heap_cell (hL.heap cIn) j hj⟩) rfl (by simp[Value.oneCell']) (by have:maxLen=9223372036854775807:=rfl;omega) (by omega) ?_;clear hL;intro p13 cap13 R13 w13 hS13 hL;have HR13:=Lib.hid hS13;clear hS13;replace hL:=hL.drop (List.sublist_cons_self _ _) (fun _ h=>h))|(with_reducible refine ldB HRN.out hL ?_)|(with_reducible first|refine lld hL ?_|((first|refine lbx hL ?_|refine lal hL ?_|refine lbs hL ?_);clear hL;intro bl w1 hL)|(refine lst' hL ?_;clear hL;intro w1 hL)))
      go_roundw
      case rel=>exact⟨k+1,by omega,by go_num,p13,((n5+1)+1),cap13,R13,rfl,by(have h:=HR13.out;rw[HUK.out];simpa [addA,List.flatMap_append] using h),hL⟩
      case measure=>simp[intOf];omega
     | false=>
      go_wp2_with (first|(with_reducible refine ldB HRN.out hL ?_)|(with_reducible first|refine lld hL ?_|((first|refine lbx hL ?_|refine lal hL ?_|refine lbs hL ?_);clear hL;intro bl w1 hL)|(refine lst' hL ?_;clear hL;intro w1 hL)))
      go_roundw
      case rel=>exact⟨k+1,by omega,by go_num,p11,(n5+1),cap11,R11,rfl,by(have h:=HR11.out;rw[HUK.out];simpa [addA,List.flatMap_append] using h),hL⟩
      case measure=>simp[intOf];omega
   | false=>
    go_upto_region 9 with(first|(with_reducible refine ldB HRN.out hL ?_)|(with_reducible first|refine lld hL ?_|((first|refine lbx hL ?_|refine lal hL ?_|refine lbs hL ?_);clear hL;intro bl w1 hL)|(refine lst' hL ?_;clear hL;intro w1 hL)))
    cases ol with
    | true=>
     go_upto_region 11 with(first|(refine loc_appendS (z:=[.int .i64 0,.int .i64 0]) (K:=_::[]) (R:=R) (news:=almC ((k:Int),2)) HR.out hL rfl rfl rfl sAlarms bAlarm (by decide) rfl (fun _=>⟨⟨bl,0,none⟩,rfl,fun j u hj=>by rw[add_addr,Nat.zero_add];exact heap_cell (hL.heap cIn) j hj⟩) rfl (by simp[Value.oneCell']) (by have:maxLen=9223372036854775807:=rfl;omega) (by omega) ?_;clear hL;intro p12 cap12 R12 w12 hS12 hL;have HR12:=Lib.hid hS12;clear hS12;replace hL:=hL.drop (List.sublist_cons_self _ _) (fun _ h=>h))|(with_reducible refine ldB HRN.out hL ?_)|(with_reducible first|refine lld hL ?_|((first|refine lbx hL ?_|refine lal hL ?_|refine lbs hL ?_);clear hL;intro bl w1 hL)|(refine lst' hL ?_;clear hL;intro w1 hL)))
     cases dn with
     | true=>
      go_wp2_with (first|(refine loc_appendS (z:=[.int .i64 0,.int .i64 0]) (K:=_::[]) (R:=R12) (news:=almC ((k:Int),3)) HR12.out hL rfl rfl rfl sAlarms bAlarm (by decide) rfl (fun _=>⟨⟨bl,0,none⟩,rfl,fun j u hj=>by rw[add_addr,Nat.zero_add];exact heap_cell (hL.heap cIn) j hj⟩) rfl (by simp[Value.oneCell']) (by have:maxLen=9223372036854775807:=rfl;omega) (by omega) ?_;clear hL;intro p13 cap13 R13 w13 hS13 hL;have HR13:=Lib.hid hS13;clear hS13;replace hL:=hL.drop (List.sublist_cons_self _ _) (fun _ h=>h))|(with_reducible refine ldB HRN.out hL ?_)|(with_reducible first|refine lld hL ?_|((first|refine lbx hL ?_|refine lal hL ?_|refine lbs hL ?_);clear hL;intro bl w1 hL)|(refine lst' hL ?_;clear hL;intro w1 hL)))
      go_roundw
      case rel=>exact⟨k+1,by omega,by go_num,p13,((n5+1)+1),cap13,R13,rfl,by(have h:=HR13.out;rw[HUK.out];simpa [addA,List.flatMap_append] using h),hL⟩
      case measure=>simp[intOf];omega
     | false=>
      go_wp2_with (first|(with_reducible refine ldB HRN.out hL ?_)|(with_reducible first|refine lld hL ?_|((first|refine lbx hL ?_|refine lal hL ?_|refine lbs hL ?_);clear hL;intro bl w1 hL)|(refine lst' hL ?_;clear hL;intro w1 hL)))
      go_roundw
      case rel=>exact⟨k+1,by omega,by go_num,p12,(n5+1),cap12,R12,rfl,by(have h:=HR12.out;rw[HUK.out];simpa [addA,List.flatMap_append] using h),hL⟩
      case measure=>simp[intOf];omega
    | false=>
     go_upto_region 11 with(first|(with_reducible refine ldB HRN.out hL ?_)|(with_reducible first|refine lld hL ?_|((first|refine lbx hL ?_|refine lal hL ?_|refine lbs hL ?_);clear hL;intro bl w1 hL)|(refine lst' hL ?_;clear hL;intro w1 hL)))
     cases dn with
     | true=>
      go_wp2_with (first|(refine loc_appendS (z:=[.int .i64 0,.int .i64 0]) (K:=_::[]) (R:=R) (news:=almC ((k:Int),3)) HR.out hL rfl rfl rfl sAlarms bAlarm (by decide) rfl (fun _=>⟨⟨bl,0,none⟩,rfl,fun j u hj=>by rw[add_addr,Nat.zero_add];exact heap_cell (hL.heap cIn) j hj⟩) rfl (by simp[Value.oneCell']) (by have:maxLen=9223372036854775807:=rfl;omega) (by omega) ?_;clear hL;intro p13 cap13 R13 w13 hS13 hL;have HR13:=Lib.hid hS13;clear hS13;replace hL:=hL.drop (List.sublist_cons_self _ _) (fun _ h=>h))|(with_reducible refine ldB HRN.out hL ?_)|(with_reducible first|refine lld hL ?_|((first|refine lbx hL ?_|refine lal hL ?_|refine lbs hL ?_);clear hL;intro bl w1 hL)|(refine lst' hL ?_;clear hL;intro w1 hL)))
      go_roundw
      case rel=>exact⟨k+1,by omega,by go_num,p13,(n5+1),cap13,R13,rfl,by(have h:=HR13.out;rw[HUK.out];simpa [addA,List.flatMap_append] using h),hL⟩
      case measure=>simp[intOf];omega
     | false=>
      go_wp2_with (first|(with_reducible refine ldB HRN.out hL ?_)|(with_reducible first|refine lld hL ?_|((first|refine lbx hL ?_|refine lal hL ?_|refine lbs hL ?_);clear hL;intro bl w1 hL)|(refine lst' hL ?_;clear hL;intro w1 hL)))
      go_roundw
      case rel=>exact⟨k+1,by omega,by go_num,p5,n5,cap5,R,rfl,by(have h:=HR.out;rw[HUK.out];simpa [addA,List.flatMap_append] using h),hL⟩
      case measure=>simp[intOf];omega
  ·obtain rfl:k=pn:=by omega
   go_wp2_with (first|(with_reducible refine ldB HRC.out hL ?_)|(with_reducible first|refine lld hL ?_|((first|refine lbx hL ?_|refine lal hL ?_|refine lbs hL ?_);clear hL;intro bl w1 hL)|(refine lst' hL ?_;clear hL;intro w1 hL)))
   (try simp only[Exit.inBlock,Exit.then]);refine rt1 ?_
   exact⟨kk,⟨p5,n5,cap5⟩,rfl,HE.out,by rw[HLL.out];exact HR.out.alarms (hL.ownOf (List.Sublist.refl _)),HB.out.trans (hL.below.mono HB.out.size)⟩
end Go.Proofs.YtplcndmdkabmeaaGreatDoor
set_option linter.unusedSimpArgs false
set_option linter.unusedVariables false
set_option maxRecDepth 100000
set_option maxHeartbeats 1600000
namespace Go.Proofs.YtplcndmdkabmeaaGreatDoor
open Go.RowKit
theorem neq_alarm (a b:Int) (w:World):(binOp .neq 35 (.agg #[.int .i64 a,.int .i64 b]) (.agg #[.int .i64 a,.int .i64 b])).run Tryz.prog w=.ok (.bool false) w:=by
 go_simp
theorem neq_guardA (x y:Operand) (a b:Int) (w:World):(eqGuard .neq 35 x y (.agg #[.int .i64 a,.int .i64 b]) (.agg #[.int .i64 a,.int .i64 b])).run Tryz.prog w=.ok () w:=by
 go_simp
theorem wp_neq_alarm {ops:Array Oper}{Q:Exit→Act→World→Prop}{act:Act}{w:World}{rest:List Oper}{d:Option Tmp}{ty u:TypeId}{pos:String}{after:Array Edge}{x y:Operand}{a b:Int}(ha:act.eval x=.agg #[.int .i64 a,.int .i64 b]) (hb:act.eval y=.agg #[.int .i64 a,.int .i64 b])
  (h:wpList Tryz.prog ops Q rest (act.put d (.bool false)) w):wpList Tryz.prog ops Q (⟨d,.binOp .neq 35 x y u,ty,pos,after,none⟩::rest) act w:=by
 refine wp_bin (w':=w) ?_ ?_ h
 ·rw[ha,hb];exact neq_guardA x y a b w
 ·rw[ha,hb];exact neq_alarm a b w
def idleUp (al:List (Int × Int)) (k:Nat):Bool:=!anyN (fun k=>(al.getD k (0,0)).2 != 3) k
theorem idleUp_succ (al:List (Int × Int)) (k:Nat):idleUp al (k+1)=(idleUp al k&&(al.getD k (0,0)).2==3):=by
 simp[idleUp,anyN,List.range_succ]
 cases h:((al.getD k (0,0)).2==3)<;>simp_all [bne]
theorem AlmAt.reads {w:World}{s:Sl}{l:List (Int × Int)}(h:AlmAt w s l):∃ b o:Nat,(0<s.n→s.p=some ⟨b,o,none⟩)∧∀ k,k<s.n→ReadsAt Tryz.prog 35 w b (o+k*2) (.agg #[.int .i64 (l.getD k (0,0)).1,.int .i64 (l.getD k (0,0)).2])∧ReadsAt Tryz.prog 3 w b (o+k*2+1) (.int .i64 (l.getD k (0,0)).2):=by
 obtain⟨b,o,h1,h2⟩:=h.ex.ex
 exact⟨b,o,h1,fun k hk=>⟨ReadsAt.agg tAlarm (h2 k hk).1 (h2 k hk).2 rfl,ReadsAt.cell tInt (h2 k hk).1 ((h2 k hk).2 1 _ rfl)⟩⟩
def BegunA (w:World):Prop:=∀ w',Below w.heap.size w w'→Calls Tryz.prog 9 #[] w' fun e w''=>e=.returned (.bool true)∧Below w'.heap.size w' w''
theorem tells_bad (p:Pg) (is:Nat→Ins) (w:World) (hn:p.n≤9223372036854775807) (hc:CodeAt w p is) (h0:checkProg p is≠0) (hbg:BegunA w):
  Calls Tryz.prog 6 #[p.v] w fun e w'=>e=.returned (.bool true)∧Below w.heap.size w w':=by
 have HBG:=Lib.hid hbg
 have HAL:=Lib.hid (fun w' (hb' : Below w.heap.size w w')=>alarms_bad p is w' hn (hc.grow hb') h0)
 have HSU:=Lib.hid (fun w' (hb' : Below w.heap.size w w')=>sure_bad p is w' hn (hc.grow hb') h0)
 have HCK:=Lib.hid (fun w' (hb' : Below w.heap.size w w')=>rCheckProgram_any p is w' (hc.grow hb') hn)
 have hz:(checkProg p is==0)=false:=by simpa using h0
 clear hc hn hbg
 generalize checkProg p is=c at *
 obtain⟨pv,pf,pp,pn,pc⟩:=p
 have hL:=Loc.start w
 go_enter Tryz.func6,Tryz.ntmps6
 go_upto_region 10 with(first|(go_at_call 13;refine(HAL.out _ hL.below).mono ?_;rintro e w1 ⟨rfl,hb⟩;replace hL:=hL.grow hb;clear hb;dsimp only)|(go_at_call 14;refine(HSU.out _ hL.below).mono ?_;rintro e w1 ⟨rfl,hb⟩;replace hL:=hL.grow hb;clear hb;dsimp only)|(go_at_call 22;refine(HCK.out _ hL.below).mono ?_;rintro e w1 ⟨rfl,hb⟩;replace hL:=hL.grow hb;clear hb;dsimp only)|(with_reducible first|refine lld hL ?_|((first|refine lbx hL ?_|refine lal hL ?_|refine lbs hL ?_);clear hL;intro bl w1 hL)|(refine lst' hL ?_;clear hL;intro w1 hL)))
 go_wp2_with (first|(with_reducible first|refine lld hL ?_|((first|refine lbx hL ?_|refine lal hL ?_|refine lbs hL ?_);clear hL;intro bl w1 hL)|(refine lst' hL ?_;clear hL;intro w1 hL)))
 go_loopw [9,10] (fun c9 c10 wr=>c9=.bool false∧c10=.int .i64 0∧Below w.heap.size w wr) (fun _ _ _=>0)
 case atStart=>exact⟨rfl,rfl,hL.below⟩
 case round=>
  clear hL
  obtain⟨rfl,rfl,hb0⟩:=hrel
  have HB0:=Lib.hid hb0
  clear hb0
  have hL:=Loc.start wr
  go_wp2_with (first|(go_at_call 9;refine(HBG.out _ (HB0.out.trans (hL.below.mono HB0.out.size))).mono ?_;rintro e w1 ⟨rfl,hb⟩;replace hL:=hL.grow hb;clear hb;dsimp only)|(with_reducible first|refine lld hL ?_|((first|refine lbx hL ?_|refine lal hL ?_|refine lbs hL ?_);clear hL;intro bl w1 hL)|(refine lst' hL ?_;clear hL;intro w1 hL)))
  (try simp only[Exit.inBlock,Exit.then]);refine rt1 ?_
  exact⟨by first|rfl|simp_all,HB0.out.trans (hL.below.mono HB0.out.size)⟩
theorem tells_good (p:Pg) (is:Nat→Ins) (nv nf:Nat) (hv:p.vars=nv) (hf:p.fields=nf) (w:World) (hn:p.n≤9223372036854775807) (hc:CodeAt w p is) (h0:checkProg p is=0) (hbg:BegunA w):
  Calls Tryz.prog 6 #[p.v] w fun e w'=>e=.returned (.bool true)∧Below w.heap.size w w':=by
 have h60:=(prog_right h0).1.n1
 have HBG:=Lib.hid hbg
 have HAL:=Lib.hid (fun w' (hb' : Below w.heap.size w w')=>alarms_good p is nv nf hv hf w' hn (hc.grow hb') h0)
 have HSU:=Lib.hid (fun w' (hb' : Below w.heap.size w w')=>sure_good p is nv nf hv hf w' hn (hc.grow hb') h0)
 have HRA:=Lib.hid (fun w' (hb' : Below w.heap.size w w')=>rAlarms_any p is nv nf hv hf h0 w' (hc.grow hb'))
 have HCK:=Lib.hid (fun w' (hb' : Below w.heap.size w w')=>rCheckProgram_any p is w' (hc.grow hb') hn)
 rw[h0]at HCK
 have HUL:=Lib.hid (fun l=>almUp_len is l p.n)
 clear hc hn hbg h0 hv hf
 obtain⟨pv,pf,pp,pn,pc⟩:=p
 dsimp only at *
 have hL:=Loc.start w
 go_enter Tryz.func6,Tryz.ntmps6
 go_step
 go_step
 go_step
 ((with_reducible refine lbx hL ?_);clear hL;intro b1 w1 hL)
 go_upto_region 2 with(first|(go_at_call 13;refine(HAL.out _ hL.below).mono ?_;rintro e w1 ⟨k,⟨sp,sn,sc⟩,rfl,hE,hA,hb⟩;replace hL:=hL.grow hb;have HB:=Lib.hid hL.below;have HE:=Lib.hid hE;have HA:=Lib.hid hA;have HRP:=Lib.hid (prog_readA (p:=⟨pv,pf,pp,pn,pc⟩) (hL.heap InL.head));clear hb hE hA hL;have hL:=Loc.start w1;dsimp only[Sl.v])|(with_reducible first|refine lld hL ?_|((first|refine lbx hL ?_|refine lal hL ?_|refine lbs hL ?_);clear hL;intro bl w1 hL)|(refine lst' hL ?_;clear hL;intro w1 hL)))
 obtain⟨wa,hwa⟩:∃ x,x=w1:=⟨_,rfl⟩
 subst hwa
 go_upto_region 3 with(first|(go_at_call 14;refine(HSU.out _ (HB.out.trans (hL.below.mono HB.out.size))).mono ?_;rintro e w3 ⟨k2,rfl,hE2,hb⟩;obtain rfl:=HE.out.one hE2;replace hL:=hL.grow hb;clear hb hE2;dsimp only)|(with_reducible refine ldB HRP.out hL ?_)|(with_reducible first|refine lld hL ?_|((first|refine lbx hL ?_|refine lal hL ?_|refine lbs hL ?_);clear hL;intro bl w1 hL)|(refine lst' hL ?_;clear hL;intro w1 hL)))
 go_upto_region 8 with(first|(go_at_call 22;refine(HCK.out _ (HB.out.trans (hL.below.mono HB.out.size))).mono ?_;rintro e w1 ⟨rfl,hb⟩;replace hL:=hL.grow hb;clear hb;dsimp only)|(go_at_call 11;refine(HRA.out _ (HB.out.trans (hL.below.mono HB.out.size))).mono ?_;rintro e w3 ⟨k2,⟨tp,tn,tc⟩,rfl,hE2,hA2,hb⟩;obtain rfl:=HE.out.one hE2;replace hL:=hL.grow hb;have HB2:=Lib.hid (HB.out.trans (hL.below.mono HB.out.size));have HA1:=Lib.hid (HA.out.grow hL.below);have HA2:=Lib.hid hA2;clear hb hE2 hA2 hL HA HB HRP;have hL:=Loc.start w3;dsimp only[Sl.v])|(with_reducible refine ldB HRP.out hL ?_)|(with_reducible first|refine lld hL ?_|((first|refine lbx hL ?_|refine lal hL ?_|refine lbs hL ?_);clear hL;intro bl w1 hL)|(refine lst' hL ?_;clear hL;intro w1 hL)))
 have hle:=HUL.out (solN is pn (beginL nv nf pn) (k+1))
 obtain⟨al,hal⟩:∃ al,al=almUp is (solN is pn (beginL nv nf pn) (k+1)) pn:=⟨_,rfl⟩
 rw[← hal]at HA1 HA2 hle
 simp only[← hal]
 have hn1:=HA1.out.n
 have hn2:=HA2.out.n
 dsimp only at hn1 hn2
 obtain⟨b3,o3,hp3,hr3⟩:=HA1.out.reads
 obtain⟨b4,o4,hp4,hr4⟩:=HA2.out.reads
 dsimp only at hp3 hr3 hp4 hr4
 rw[show sureA al=idleUp al al.length from rfl]
 generalize al.length=m at *
 subst hn1 hn2
 have HP3:=Lib.hid hp3
 have HP4:=Lib.hid hp4
 have HR3:=Lib.hid hr3
 have HR4:=Lib.hid hr4
 have HIS:=Lib.hid (idleUp_succ al)
 clear hp3 hp4 hr3 hr4 hal HA1 HA2 HAL HSU HRA HCK HUL HE
 obtain⟨wq,hwq⟩:∃ x,x=w3:=⟨_,rfl⟩
 subst hwq
 go_upto_region 10 with(first|(with_reducible first|refine lld hL ?_|((first|refine lbx hL ?_|refine lal hL ?_|refine lbs hL ?_);clear hL;intro bl w1 hL)|(refine lst' hL ?_;clear hL;intro w1 hL)))
 go_wp2_with (first|(with_reducible first|refine lld hL ?_|((first|refine lbx hL ?_|refine lal hL ?_|refine lbs hL ?_);clear hL;intro bl w1 hL)|(refine lst' hL ?_;clear hL;intro w1 hL)))
 go_loopw [9,10] (fun c9 c10 wr=>∃ i:Nat,i≤tn∧c10=.int .i64 i∧c9=.bool (idleUp al i)∧Loc wq wr [] []) (fun _ c _=>tn - (intOf c).toNat)
 case atStart=>exact⟨0,Nat.zero_le _,rfl,rfl,hL⟩
 case round=>
  clear hL
  obtain⟨i,hi,rfl,rfl,hL⟩:=hrel
  by_cases hlt:i<tn
  ·have HPC3:=Lib.hid (HP3.out (by omega))
   have HPC4:=Lib.hid (HP4.out (by omega))
   obtain rfl:=HPC3.out
   obtain rfl:=HPC4.out
   clear HPC3 HPC4 HP3 HP4
   have hs:=HIS.out i
   obtain⟨h31,-⟩:=HR3.out i hlt
   obtain⟨h41,h42⟩:=HR4.out i hlt
   generalize al.getD i (0,0)=x at hs h31 h41 h42
   obtain⟨xa,xk⟩:=x
   dsimp only at hs h31 h41 h42
   have HS:=Lib.hid hs
   have H31:=Lib.hid h31
   have H41:=Lib.hid h41
   have H42:=Lib.hid h42
   clear hs h31 h41 h42
   generalize idleUp al i=acc at *
   go_upto_region 13 with(first|(with_reducible first|refine lld hL ?_|((first|refine lbx hL ?_|refine lal hL ?_|refine lbs hL ?_);clear hL;intro bl w1 hL)|(refine lst' hL ?_;clear hL;intro w1 hL)))
   refine draw_begin [40,41,42,43,44,45,46,47,48] ?_
   refine dv0 ?_
   refine dv0 ?_
   refine dv2 0 1 ?_
   apply draw_val
   ·intro g w hb v;replace hL:=hL.grow hb;have d2:=yv v 2;clear v;simp only[fillD,fLa,fLb,sTa,sTb];simp only[d2]
    refine loc_loadB H31.out hL rfl rfl ?_
    exact cY
   simp only[apN,apC]
   refine dv0 ?_
   refine dv0 ?_
   refine dv2 4 5 ?_
   apply draw_val
   ·intro g w hb v;replace hL:=hL.grow hb;have d6:=yv v 6;clear v;simp only[fillD,fLa,fLb,sTa,sTb];simp only[d6]
    refine loc_loadB H41.out hL rfl rfl ?_
    exact cY
   simp only[apN,apC]
   apply draw_val
   ·intro g w hb v;replace hL:=hL.grow hb;have d3:=yv v 3;have d7:=yv v 7;clear v;simp only[fillD,fLa,fLb,sTa,sTb];simp only[d3,d7]
    refine wp_neq_alarm (a:=xa) (b:=xk) rfl rfl ?_
    exact cY
   simp only[apN,apC]
   refine dnd hL ?_
   clear hL;intro w2 hL;simp only[fillX,sTa,sTb]
   cases acc with
   | true=>
    by_cases hk:xk=3
    ·subst hk
     go_wp2_with (first|(with_reducible refine ldB H42.out hL ?_)|(with_reducible first|refine lld hL ?_|((first|refine lbx hL ?_|refine lal hL ?_|refine lbs hL ?_);clear hL;intro bl w1 hL)|(refine lst' hL ?_;clear hL;intro w1 hL)))
     go_roundw
     case rel=>exact⟨i+1,by omega,by go_num,by rw[HS.out];rfl,hL⟩
     case measure=>simp[intOf];omega
    ·have hb:(xk==3)=false:=by simpa using hk
     go_wp2_with (first|(with_reducible refine ldB H42.out hL ?_)|(with_reducible first|refine lld hL ?_|((first|refine lbx hL ?_|refine lal hL ?_|refine lbs hL ?_);clear hL;intro bl w1 hL)|(refine lst' hL ?_;clear hL;intro w1 hL)))
     go_roundw
     case rel=>exact⟨i+1,by omega,by go_num,by rw[HS.out,hb];rfl,hL⟩
     case measure=>simp[intOf];omega
   | false=>
    go_wp2_with (first|(with_reducible first|refine lld hL ?_|((first|refine lbx hL ?_|refine lal hL ?_|refine lbs hL ?_);clear hL;intro bl w1 hL)|(refine lst' hL ?_;clear hL;intro w1 hL)))
    go_roundw
    case rel=>exact⟨i+1,by omega,by go_num,by rw[HS.out];rfl,hL⟩
    case measure=>simp[intOf];omega
  ·obtain rfl:i=tn:=by omega
   generalize idleUp al _=sure at *
   go_wp2_with (first|(go_at_call 9;refine(HBG.out _ (HB2.out.trans (hL.below.mono HB2.out.size))).mono ?_;rintro e w1 ⟨rfl,hb⟩;replace hL:=hL.grow hb;clear hb;dsimp only)|(with_reducible first|refine lld hL ?_|((first|refine lbx hL ?_|refine lal hL ?_|refine lbs hL ?_);clear hL;intro bl w1 hL)|(refine lst' hL ?_;clear hL;intro w1 hL)))
   (try simp only[Exit.inBlock,Exit.then]);refine rt1 ?_
   exact⟨by first|rfl|simp,HB2.out.trans (hL.below.mono HB2.out.size)⟩
end Go.Proofs.YtplcndmdkabmeaaGreatDoor
