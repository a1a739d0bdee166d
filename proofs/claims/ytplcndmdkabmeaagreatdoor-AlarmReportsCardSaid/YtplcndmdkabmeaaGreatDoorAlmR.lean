/- The walk over the reference's AlarmsOf. Conditions: the program is right. -/
import Derived.Test.YtplcndmdkabmeaaGreatDoorAlmA
import Derived.Test.YtplcndmdkabmeaaGreatDoorRefSolC
set_option linter.unusedSimpArgs false
set_option linter.unusedVariables false
set_option maxRecDepth 100000
set_option maxHeartbeats 1600000
namespace Go.Proofs.YtplcndmdkabmeaaGreatDoor
open Go.RowKit
def VR (c:Bool) (i j:Int):List (Int × Int):=if c then [(i,j)] else []
theorem zdx (o:Y0) (nn:Bool) (i:Nat):KK o nn i 4=VR o.wr i 1++VR o.fl i 2++VR nn i 3:=by
 obtain⟨e,a,b⟩:=o
 cases a<;>cases b<;>cases nn<;>rfl
theorem zaK (p:Pg) (is:Nat→Ins) (nv nf:Nat) (hv:p.vars=nv) (hf:p.fields=nf) (hp:zl p is=0) (w:World) (hc:qc w p is):
  Calls Tryz.prog 11 #[p.v] w fun e w'=>∃ (k:Nat) (s:Sl),e=.returned s.v∧yG is p.n (zB nv nf p.n) k∧JB w' s (jP is (qZ is p.n (zB nv nf p.n) (k+1)) p.n)∧Below w.heap.size w w':=by
 have hs:=(zx hp).1
 have h60:=hs.n1
 have HSV:=Lib.hid (fun w' (hb:Below w.heap.size w w')=>zbX p is nv nf hv hf hp w' (hc.grow hb))
 have HST:=Lib.hid (fun (k:Nat) (hE:yG is p.n (zB nv nf p.n) k) (s:Sl) (w1:World) (hb1:Below w.heap.size w w1) (hx:YS w1 s (qZ is p.n (zB nv nf p.n) (k+1)))=>(show s.n=p.n+1∧∃ (b o:Nat) (xs:Nat→Pv),s.p=some ⟨b,o,none⟩∧∀ j,j<p.n→zg Tryz.prog 54 w1 b (o+j*3) (xs j).v∧zg Tryz.prog 4 w1 b (o+j*3) (.bool ((qZ is p.n (zB nv nf p.n) (k+1)).getD j zQ).none)∧
   ∀ w',Below w1.heap.size w1 w'→Calls Tryz.prog 40 #[p.v,.int .i64 j,(xs j).v] w' fun e w''=>(∃ s:Sl,e=.returned (.tuple #[.slice s.p s.n s.cap,.bool (Qg is j ((qZ is p.n (zB nv nf p.n) (k+1)).getD j zQ)).wr,.bool (Qg is j ((qZ is p.n (zB nv nf p.n) (k+1)).getD j zQ)).fl]))∧Below w'.heap.size w' w'' by
  have hok:=JI hp (Yv hv hf) (k+1)
  have hln:s.n=p.n+1:=hx.n.trans hok.len
  obtain⟨xs,hx1,hpc⟩:=hx.ex
  obtain⟨b,o,hpp,hcc⟩:=hx1.ex
  refine⟨hln,b,o,xs,hpp (by omega),fun j hj=>⟨zg.agg ZK (hcc j (by omega)).1 (hcc j (by omega)).2 rfl,zg.cell Zh (hcc j (by omega)).1 (by rw[← (hpc j (by omega)).e];exact(hcc j (by omega)).2 0 _ rfl),fun w' hb=>?_⟩⟩
  obtain⟨gx,hgx⟩:=(hpc j (by omega)).gx
  refine Calls.mono (zcc p is (xs j) _ gx j w' hp (hc.grow (hb1.trans (hb.mono hb1.size))) ((hpc j (by omega)).grow hb) ⟨hgx.d.grow hb,hgx.l.grow hb⟩ (hok.r j (by omega)) hj) ?_
  rintro e w'' ⟨s1,rfl,hG⟩
  exact⟨⟨s1,rfl⟩,hG.below⟩))
 have HUL:=Lib.hid (fun l k=>Jf is l k)
 have HUS:=Lib.hid (fun l k=>(Y9 is l k).trans (congrArg _ (zdx _ _ _)))
 clear hs hp hc
 obtain⟨pv,pf,pp,pn,pc⟩:=p
 dsimp only at *
 subst hv hf
 have hL:=Loc.start w
 go_enter Tryz.func11,Tryz.ntmps11
 go_step
 go_step
 go_step
 ((with_reducible refine lbx hL ?_);clear hL;intro b1 w1 hL)
 go_upto_region 2 with(first|(go_at_call 23;refine(HSV.out _ hL.below).mono ?_;rintro e w1 ⟨kk,⟨sp,sn,sc⟩,rfl,hE,hG⟩;generalize ((kk+1:Nat):Int)=st;replace hL:=hL.grow (KI hG);have HE:=Lib.hid hE;have HX:=Lib.hid (HST.out kk hE ⟨sp,sn,sc⟩ w1 hL.below hG.is);have HB:=Lib.hid hL.below;have HRP:=Lib.hid (VO (p:=⟨nv,nf,pp,pn,pc⟩) (hL.heap InL.head));have HRC:=Lib.hid (hL.readsG (Tv:=25) (off:=2) (v:=.slice pp pn pc) InL.head (ze.cell JW rfl));clear hG hE hL HSV HST;have hL:=Loc.start w1;dsimp only)|(with_reducible refine lld hL ?_))
 obtain⟨hsn,b,o,xs,hsp,hxs⟩:=HX.out
 dsimp only at hsn hsp
 subst hsn hsp
 have HXS:=Lib.hid hxs
 clear hxs HX
 generalize hl:qZ is pn (zB nv nf pn) (kk+1)=l at *
 have HLL:=Lib.hid hl
 clear hl
 obtain⟨wp,hwp⟩:∃ x,x=w1:=⟨_,rfl⟩
 subst hwp
 go_wp2
 go_loopw [5,6] (fun c5 c20 wr=>∃ k:Nat,k≤pn∧c20=.int .i64 k∧∃ (p5:Option Addr) (n5 cap5:Nat) (R:List zj),c5=.slice p5 n5 cap5∧zM 35 2 p5 n5 cap5 ((jP is l k).flatMap Yf) R∧Loc wp wr R []) (fun _ c _=>pn - (intOf c).toNat)
 case atStart=>exact⟨0,Nat.zero_le _,rfl,none,0,0,[],rfl,zM.nil,hL⟩
 case round=>
  clear hL
  obtain⟨k,hk,rfl,p5,n5,cap5,R,rfl,hR,hL⟩:=hrel
  have HR:=Lib.hid hR
  clear hR
  by_cases hlt:k<pn
  ·obtain⟨hrk,hrn,hst⟩:=HXS.out k hlt
   have hul:=HUL.out l k
   have hus:=HUS.out l k
   have hn5:n5≤4*k:=by have:=HR.out.flatlen zdw (by decide);omega
   generalize jP is l k=A at hus HR
   generalize l.getD k zQ=d at hrn hst hus
   generalize Qg is k d=oo at hst hus
   generalize d.none=dn at hrn hus
   generalize xs k=x at hrk hst
   obtain⟨xn,⟨xp,xvn,xc⟩,⟨xfp,xfn,xfc⟩⟩:=x
   dsimp only[Pv.v,Pv.cells]at hrk hst
   obtain⟨oe,ow,ol⟩:=oo
   dsimp only at hst hus
   have HRK:=Lib.hid hrk
   have HRN:=Lib.hid hrn
   have HST:=Lib.hid hst
   have HUK:=Lib.hid hus
   clear hrk hrn hst hus hul
   have hns:((k:Int)<((pn+1:Nat):Int)):=by omega
   obtain⟨wq,hwq⟩:∃ x,x=wr:=⟨_,rfl⟩
   subst hwq
   go_upto_region 6 with(first|(with_reducible refine ldB HRC.out hL ?_))
   refine zf [23,24,25,26,27,28,29,22,30,31,32,7,8,9] ?_
   apply zb
   ·intro g w hb y;replace hL:=hL.grow hb;clear y;simp only[za,fLa,fLb,sTa,sTb]
    refine zo HRP.out hL rfl rfl ?_
    exact cY
   simp only[apN,apC]
   refine dv0 ?_
   refine dv0 ?_
   refine dv0 ?_
   refine dv2 2 3 ?_
   apply zb
   ·intro g w hb y;replace hL:=hL.grow hb;have d4:=yv y 4;clear y;simp only[za,fLa,fLb,sTa,sTb];simp only[d4]
    refine zo HRK.out hL rfl rfl ?_
    exact cY
   simp only[apN,apC]
   refine zh (JG ⟨oe,ow,ol⟩) JG.stable ?_ ?_
   ·intro g w hb y;replace hL:=hL.grow hb;have d0:=yv y 0;have d1:=yv y 1;have d5:=yv y 5;clear y;simp only[za,fLa,fLb,sTa,sTb];simp only[d0,d1,d5]
    go_wp2_with (go_at_call 40;refine(HST.out _ hL.below).mono ?_;rintro e w3 ⟨⟨s1,rfl⟩,hb3⟩;dsimp only)
    exact⟨rfl,_,rfl,hb3,s1,rfl⟩
   simp only[apN,apC]
   refine zh (JG ⟨oe,ow,ol⟩) JG.stable ?_ ?_
   ·intro g w hb y;replace hL:=hL.grow hb;have d6:(JG ⟨oe,ow,ol⟩) (g 29) w:=yr y 6;obtain⟨s1,d6⟩:=d6;clear y;simp only[za,fLa,fLb,sTa,sTb];simp only[d6]
    go_wp2_with (fail)
    exact⟨rfl,_,rfl,Below.refl _ _,s1,rfl⟩
   simp only[apN,apC]
   refine zh (SlV) SlV.stable ?_ ?_
   ·intro g w hb y;replace hL:=hL.grow hb;have d7:(JG ⟨oe,ow,ol⟩) (g 22) w:=yr y 7;obtain⟨s1,d7⟩:=d7;clear y;simp only[za,fLa,fLb,sTa,sTb];simp only[d7]
    go_wp2_with (fail)
    exact⟨rfl,_,rfl,Below.refl _ _,s1,rfl⟩
   simp only[apN,apC]
   apply zb
   ·intro g w hb y;replace hL:=hL.grow hb;have d7:(JG ⟨oe,ow,ol⟩) (g 22) w:=yr y 7;obtain⟨s1,d7⟩:=d7;clear y;simp only[za,fLa,fLb,sTa,sTb];simp only[d7]
    go_wp2
    exact cY
   simp only[apN,apC]
   apply zb
   ·intro g w hb y;replace hL:=hL.grow hb;have d7:(JG ⟨oe,ow,ol⟩) (g 22) w:=yr y 7;obtain⟨s1,d7⟩:=d7;clear y;simp only[za,fLa,fLb,sTa,sTb];simp only[d7]
    go_wp2
    exact cY
   simp only[apN,apC]
   refine zh (SlV) SlV.stable ?_ ?_
   ·intro g w hb y;replace hL:=hL.grow hb;have d8:(SlV) (g 30) w:=yr y 8;obtain⟨s1,d8⟩:=d8;clear y;simp only[za,fLa,fLb,sTa,sTb];simp only[d8]
    go_wp2_with (fail)
    exact⟨rfl,_,rfl,Below.refl _ _,s1,rfl⟩
   simp only[apN,apC]
   refine dv1 9 ?_
   refine dv1 10 ?_
   refine zO hL (by kernel_rfl) (by kernel_rfl) ?_
   intro g w2 hb hR;simp only[List.length_cons,List.length_nil,Nat.reduceAdd]at hR
   have e0:=yv hR 0
   have e1:=yv hR 1
   have e2:=yv hR 2
   have e3:=yv hR 3
   have e4:=yv hR 4
   have e5:=yv hR 5
   have e6:(JG ⟨oe,ow,ol⟩) (g 29) w2:=yr hR 6
   obtain⟨sz6,e6⟩:=e6
   have e7:(JG ⟨oe,ow,ol⟩) (g 22) w2:=yr hR 7
   obtain⟨sz7,e7⟩:=e7
   have e8:(SlV) (g 30) w2:=yr hR 8
   obtain⟨sz8,e8⟩:=e8
   have e9:=yv hR 9
   have e10:=yv hR 10
   have e11:(SlV) (g 7) w2:=yr hR 11
   obtain⟨⟨ep,en,ec⟩,e11⟩:=e11
   have e12:=yv hR 12
   have e13:=yv hR 13
   clear hR;simp only[za,fLa,fLb,sTa,sTb]
   simp only[e0,e1,e2,e3,e4,e5,e6,e7,e8,e9,e10,e11,e12,e13]
   clear e0 e1 e2 e3 e4 e5 e6 e7 e8 e9 e10 e11 e12 e13
   replace hL:=hL.grow hb
   clear hb
   clear HST HRK
   cases ow with
   | true=>
    go_upto_region 9 with(first|(refine zz (z:=[.int .i64 0,.int .i64 0]) (K:=_::[]) (R:=R) (news:=Yf ((k:Int),1)) HR.out hL rfl rfl rfl Qs J0 (by decide) rfl (fun _=>⟨⟨bl,0,none⟩,rfl,fun j u hj=>by rw[zH,Nat.zero_add];exact zF (hL.heap cIn) j hj⟩) rfl (by simp[Value.oneCell']) (by have:maxLen=9223372036854775807:=rfl;omega) (by omega) ?_;clear hL;intro p11 cap11 R11 w11 hS11 hL;have HR11:=Lib.hid hS11;clear hS11;replace hL:=hL.drop (List.sublist_cons_self _ _) (fun _ h=>h))|(with_reducible refine ldB HRN.out hL ?_)|(with_reducible refine lbs hL ?_;clear hL;intro bl w1 hL))
    cases ol with
    | true=>
     go_upto_region 11 with(first|(refine zz (z:=[.int .i64 0,.int .i64 0]) (K:=_::[]) (R:=R11) (news:=Yf ((k:Int),2)) HR11.out hL rfl rfl rfl Qs J0 (by decide) rfl (fun _=>⟨⟨bl,0,none⟩,rfl,fun j u hj=>by rw[zH,Nat.zero_add];exact zF (hL.heap cIn) j hj⟩) rfl (by simp[Value.oneCell']) (by have:maxLen=9223372036854775807:=rfl;omega) (by omega) ?_;clear hL;intro p12 cap12 R12 w12 hS12 hL;have HR12:=Lib.hid hS12;clear hS12;replace hL:=hL.drop (List.sublist_cons_self _ _) (fun _ h=>h))|(with_reducible refine ldB HRN.out hL ?_)|(with_reducible refine lbs hL ?_;clear hL;intro bl w1 hL))
     cases dn with
     | true=>
      go_wp2_with (first|(refine zz (z:=[.int .i64 0,.int .i64 0]) (K:=_::[]) (R:=R12) (news:=Yf ((k:Int),3)) HR12.out hL rfl rfl rfl Qs J0 (by decide) rfl (fun _=>⟨⟨bl,0,none⟩,rfl,fun j u hj=>by rw[zH,Nat.zero_add];exact zF (hL.heap cIn) j hj⟩) rfl (by simp[Value.oneCell']) (by have:maxLen=9223372036854775807:=rfl;omega) (by omega) ?_;clear hL;intro p13 cap13 R13 w13 hS13 hL;have HR13:=Lib.hid hS13;clear hS13;replace hL:=hL.drop (List.sublist_cons_self _ _) (fun _ h=>h))|(with_reducible refine ldB HRN.out hL ?_)|(with_reducible refine lbs hL ?_;clear hL;intro bl w1 hL))
      go_roundw
      case rel=>exact⟨k+1,by omega,by go_num,p13,(((n5+1)+1)+1),cap13,R13,rfl,by(have h:=HR13.out;rw[HUK.out];simpa [VR,List.flatMap_append] using h),hL⟩
      case measure=>simp[intOf];omega
     | false=>
      go_wp2_with (first|(with_reducible refine ldB HRN.out hL ?_))
      go_roundw
      case rel=>exact⟨k+1,by omega,by go_num,p12,((n5+1)+1),cap12,R12,rfl,by(have h:=HR12.out;rw[HUK.out];simpa [VR,List.flatMap_append] using h),hL⟩
      case measure=>simp[intOf];omega
    | false=>
     go_upto_region 11 with(first|(with_reducible refine ldB HRN.out hL ?_))
     cases dn with
     | true=>
      go_wp2_with (first|(refine zz (z:=[.int .i64 0,.int .i64 0]) (K:=_::[]) (R:=R11) (news:=Yf ((k:Int),3)) HR11.out hL rfl rfl rfl Qs J0 (by decide) rfl (fun _=>⟨⟨bl,0,none⟩,rfl,fun j u hj=>by rw[zH,Nat.zero_add];exact zF (hL.heap cIn) j hj⟩) rfl (by simp[Value.oneCell']) (by have:maxLen=9223372036854775807:=rfl;omega) (by omega) ?_;clear hL;intro p13 cap13 R13 w13 hS13 hL;have HR13:=Lib.hid hS13;clear hS13;replace hL:=hL.drop (List.sublist_cons_self _ _) (fun _ h=>h))|(with_reducible refine ldB HRN.out hL ?_)|(with_reducible refine lbs hL ?_;clear hL;intro bl w1 hL))
      go_roundw
      case rel=>exact⟨k+1,by omega,by go_num,p13,((n5+1)+1),cap13,R13,rfl,by(have h:=HR13.out;rw[HUK.out];simpa [VR,List.flatMap_append] using h),hL⟩
      case measure=>simp[intOf];omega
     | false=>
      go_wp2_with (first|(with_reducible refine ldB HRN.out hL ?_))
      go_roundw
      case rel=>exact⟨k+1,by omega,by go_num,p11,(n5+1),cap11,R11,rfl,by(have h:=HR11.out;rw[HUK.out];simpa [VR,List.flatMap_append] using h),hL⟩
      case measure=>simp[intOf];omega
   | false=>
    go_upto_region 9 with(first|(with_reducible refine ldB HRN.out hL ?_))
    cases ol with
    | true=>
     go_upto_region 11 with(first|(refine zz (z:=[.int .i64 0,.int .i64 0]) (K:=_::[]) (R:=R) (news:=Yf ((k:Int),2)) HR.out hL rfl rfl rfl Qs J0 (by decide) rfl (fun _=>⟨⟨bl,0,none⟩,rfl,fun j u hj=>by rw[zH,Nat.zero_add];exact zF (hL.heap cIn) j hj⟩) rfl (by simp[Value.oneCell']) (by have:maxLen=9223372036854775807:=rfl;omega) (by omega) ?_;clear hL;intro p12 cap12 R12 w12 hS12 hL;have HR12:=Lib.hid hS12;clear hS12;replace hL:=hL.drop (List.sublist_cons_self _ _) (fun _ h=>h))|(with_reducible refine ldB HRN.out hL ?_)|(with_reducible refine lbs hL ?_;clear hL;intro bl w1 hL))
     cases dn with
     | true=>
      go_wp2_with (first|(refine zz (z:=[.int .i64 0,.int .i64 0]) (K:=_::[]) (R:=R12) (news:=Yf ((k:Int),3)) HR12.out hL rfl rfl rfl Qs J0 (by decide) rfl (fun _=>⟨⟨bl,0,none⟩,rfl,fun j u hj=>by rw[zH,Nat.zero_add];exact zF (hL.heap cIn) j hj⟩) rfl (by simp[Value.oneCell']) (by have:maxLen=9223372036854775807:=rfl;omega) (by omega) ?_;clear hL;intro p13 cap13 R13 w13 hS13 hL;have HR13:=Lib.hid hS13;clear hS13;replace hL:=hL.drop (List.sublist_cons_self _ _) (fun _ h=>h))|(with_reducible refine ldB HRN.out hL ?_)|(with_reducible refine lbs hL ?_;clear hL;intro bl w1 hL))
      go_roundw
      case rel=>exact⟨k+1,by omega,by go_num,p13,((n5+1)+1),cap13,R13,rfl,by(have h:=HR13.out;rw[HUK.out];simpa [VR,List.flatMap_append] using h),hL⟩
      case measure=>simp[intOf];omega
     | false=>
      go_wp2_with (first|(with_reducible refine ldB HRN.out hL ?_))
      go_roundw
      case rel=>exact⟨k+1,by omega,by go_num,p12,(n5+1),cap12,R12,rfl,by(have h:=HR12.out;rw[HUK.out];simpa [VR,List.flatMap_append] using h),hL⟩
      case measure=>simp[intOf];omega
    | false=>
     go_upto_region 11 with(first|(with_reducible refine ldB HRN.out hL ?_))
     cases dn with
     | true=>
      go_wp2_with (first|(refine zz (z:=[.int .i64 0,.int .i64 0]) (K:=_::[]) (R:=R) (news:=Yf ((k:Int),3)) HR.out hL rfl rfl rfl Qs J0 (by decide) rfl (fun _=>⟨⟨bl,0,none⟩,rfl,fun j u hj=>by rw[zH,Nat.zero_add];exact zF (hL.heap cIn) j hj⟩) rfl (by simp[Value.oneCell']) (by have:maxLen=9223372036854775807:=rfl;omega) (by omega) ?_;clear hL;intro p13 cap13 R13 w13 hS13 hL;have HR13:=Lib.hid hS13;clear hS13;replace hL:=hL.drop (List.sublist_cons_self _ _) (fun _ h=>h))|(with_reducible refine ldB HRN.out hL ?_)|(with_reducible refine lbs hL ?_;clear hL;intro bl w1 hL))
      go_roundw
      case rel=>exact⟨k+1,by omega,by go_num,p13,(n5+1),cap13,R13,rfl,by(have h:=HR13.out;rw[HUK.out];simpa [VR,List.flatMap_append] using h),hL⟩
      case measure=>simp[intOf];omega
     | false=>
      go_wp2_with (first|(with_reducible refine ldB HRN.out hL ?_))
      go_roundw
      case rel=>exact⟨k+1,by omega,by go_num,p5,n5,cap5,R,rfl,by(have h:=HR.out;rw[HUK.out];simpa [VR,List.flatMap_append] using h),hL⟩
      case measure=>simp[intOf];omega
  ·obtain rfl:k=pn:=by omega
   go_wp2_with (first|(with_reducible refine ldB HRC.out hL ?_))
   refine rt1 ?_
   exact⟨kk,⟨p5,n5,cap5⟩,rfl,HE.out,by rw[HLL.out];exact HR.out.alarms (hL.ownOf (List.Sublist.refl _)),HB.out.trans (hL.below.mono HB.out.size)⟩
end Go.Proofs.YtplcndmdkabmeaaGreatDoor
