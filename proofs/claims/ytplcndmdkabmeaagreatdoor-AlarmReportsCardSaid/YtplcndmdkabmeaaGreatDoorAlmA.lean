/- The walk over the package alarm's inner function: what the solver's pictures tell at each place. Conditions: the program is right. -/
import Derived.Test.YtplcndmdkabmeaaGreatDoorSolI
import Derived.Test.YtplcndmdkabmeaaGreatDoorStpc
set_option linter.unusedSimpArgs false
set_option linter.unusedVariables false
set_option maxRecDepth 100000
set_option maxHeartbeats 1600000
namespace Go.Proofs.YtplcndmdkabmeaaGreatDoor
open Go.RowKit
theorem KI {w w' : World}{s:Sl}{l:List Pd}(h:zaH w w' s l):Below w.heap.size w w':=by
 obtain⟨_,_,_,_,hL⟩:=h
 exact hL.below
theorem VO {w:World}{b:Nat}{p:Pg}(h:w.heap[b]? = some (.cells #[.int .i64 p.vars,.int .i64 p.fields,.slice p.pc p.n p.cap] 27 (0,0))):zg Tryz.prog 27 w b 0 p.v:=
 zg.agg VH (l:=[.int .i64 p.vars,.int .i64 p.fields,.slice p.pc p.n p.cap]) (zL h) (fun j v hj=>by
  have:w.cell? ⟨b,0+j,none⟩=[Value.int .i64 p.vars,.int .i64 p.fields,.slice p.pc p.n p.cap][j]? :=by simp[World.cell?,h]
  rw[this];exact hj) rfl
theorem zco (p:Pg) (is:Nat→Ins) (nv nf:Nat) (hv:p.vars=nv) (hf:p.fields=nf) (hp:zl p is=0) (w:World) (hc:qc w p is):
  Calls Tryz.prog 35 #[p.v] w fun e w'=>∃ (k:Nat) (s:Sl),e=.returned s.v∧yG is p.n (zB nv nf p.n) k∧JB w' s (jP is (qZ is p.n (zB nv nf p.n) (k+1)) p.n)∧Below w.heap.size w w':=by
 have hs:=(zx hp).1
 have h60:=hs.n1
 have HSV:=Lib.hid (fun w' (hb:Below w.heap.size w w')=>zeT p is nv nf hv hf hp w' (hc.grow hb))
 have HST:=Lib.hid (fun (k:Nat) (hE:yG is p.n (zB nv nf p.n) k) (s:Sl) (w1:World) (hb1:Below w.heap.size w w1) (hx:YS w1 s (qZ is p.n (zB nv nf p.n) (k+1)))=>(show s.n=p.n+1∧∃ (b o:Nat) (xs:Nat→Pv),s.p=some ⟨b,o,none⟩∧∀ j,j<p.n→zg Tryz.prog 54 w1 b (o+j*3) (xs j).v∧zg Tryz.prog 4 w1 b (o+j*3) (.bool ((qZ is p.n (zB nv nf p.n) (k+1)).getD j zQ).none)∧
   ∀ w',Below w1.heap.size w1 w'→Calls Tryz.prog 62 #[p.v,.int .i64 j,(xs j).v] w' fun e w''=>(∃ s:Sl,e=.returned (.tuple #[.slice s.p s.n s.cap,.bool (Qg is j ((qZ is p.n (zB nv nf p.n) (k+1)).getD j zQ)).wr,.bool (Qg is j ((qZ is p.n (zB nv nf p.n) (k+1)).getD j zQ)).fl]))∧Below w'.heap.size w' w'' by
  have hok:=JI hp (Yv hv hf) (k+1)
  have hln:s.n=p.n+1:=hx.n.trans hok.len
  obtain⟨xs,hx1,hpc⟩:=hx.ex
  obtain⟨b,o,hpp,hcc⟩:=hx1.ex
  refine⟨hln,b,o,xs,hpp (by omega),fun j hj=>⟨zg.agg ZK (hcc j (by omega)).1 (hcc j (by omega)).2 rfl,zg.cell Zh (hcc j (by omega)).1 (by rw[← (hpc j (by omega)).e];exact(hcc j (by omega)).2 0 _ rfl),fun w' hb=>?_⟩⟩
  refine(zb2 p is (xs j) _ j w' hp (hc.grow (hb1.trans (hb.mono hb1.size))) ((hpc j (by omega)).grow hb) (hok.r j (by omega)) hj).mono ?_
  rintro e w'' ⟨s1,rfl,hG⟩
  exact⟨⟨s1,rfl⟩,hG.below⟩))
 have HUL:=Lib.hid (fun l k=>Jf is l k)
 have HUS:=Lib.hid (fun l k=>Y9 is l k)
 clear hs hp hc
 obtain⟨pv,pf,pp,pn,pc⟩:=p
 dsimp only at *
 subst hv hf
 have hL:=Loc.start w
 go_enter Tryz.func35,Tryz.ntmps35
 go_step
 go_step
 go_step
 ((with_reducible refine lbx hL ?_);clear hL;intro b1 w1 hL)
 go_upto_region 2 with(first|(go_at_call 64;refine(HSV.out _ hL.below).mono ?_;rintro e w1 ⟨kk,⟨sp,sn,sc⟩,rfl,hE,hG⟩;generalize ((kk+1:Nat):Int)=st;replace hL:=hL.grow (KI hG);have HE:=Lib.hid hE;have HX:=Lib.hid (HST.out kk hE ⟨sp,sn,sc⟩ w1 hL.below hG.is);have HB:=Lib.hid hL.below;have HRP:=Lib.hid (VO (p:=⟨nv,nf,pp,pn,pc⟩) (hL.heap InL.head));have HRC:=Lib.hid (hL.readsG (Tv:=25) (off:=2) (v:=.slice pp pn pc) InL.head (ze.cell JW rfl));clear hG hE hL HSV HST;have hL:=Loc.start w1;dsimp only)|(with_reducible refine lld hL ?_))
 obtain⟨hsn,b,o,xs,hsp,hxs⟩:=HX.out
 dsimp only at hsn hsp
 subst hsn hsp
 have HXS:=Lib.hid hxs
 clear hxs HX
 generalize hl:qZ is pn (zB nv nf pn) (kk+1)=l at *
 have HLL:=Lib.hid hl
 clear hl
 obtain⟨wp,hwp⟩:∃ x,x=w1:=⟨_,rfl⟩
 subst hwp
 go_upto_region 3 with(first|(with_reducible refine ldB HRP.out hL ?_))
 refine zJ [17,18,19,20] ?_
 refine dv0 ?_
 apply zb
 ·intro g w hb y;replace hL:=hL.grow hb;have d0:=yv y 0;clear y;simp only[za,fLa,fLb,sTa,sTb];simp only[d0]
  refine zo HRC.out hL rfl rfl ?_
  exact cY
 simp only[apN,apC]
 refine dv1 1 ?_
 refine dv0 ?_
 refine dns hL ?_
 clear hL;intro w2 hL;simp only[zV,sTa,sTb]
 clear HRC
 go_wp2
 go_loopw [5,20] (fun c5 c20 wr=>∃ k:Nat,k≤pn∧c20=.int .i64 k∧∃ (p5:Option Addr) (n5 cap5:Nat) (R:List zj),c5=.slice p5 n5 cap5∧zM 35 2 p5 n5 cap5 ((jP is l k).flatMap Yf) R∧Loc wp wr R []) (fun _ c _=>pn - (intOf c).toNat)
 case atStart=>exact⟨0,Nat.zero_le _,rfl,none,0,0,[],rfl,zM.nil,hL⟩
 case round=>
  clear hL
  obtain⟨k,hk,rfl,p5,n5,cap5,R,rfl,hR,hL⟩:=hrel
  have HR:=Lib.hid hR
  clear hR
  by_cases hlt:k<pn
  ·obtain⟨hrk,hrn,hst⟩:=HXS.out k hlt
   have hul:=HUL.out l k
   have hus:=HUS.out l k
   have HLN:=Lib.hid (show n5≤4*k by have:=HR.out.flatlen zdw (by decide);omega)
   generalize jP is l k=A at hus HR
   generalize l.getD k zQ=d at hrn hst hus
   generalize Qg is k d=oo at hst hus
   generalize d.none=dn at hrn hus
   generalize xs k=x at hrk hst
   obtain⟨xn,⟨xp,xvn,xc⟩,⟨xfp,xfn,xfc⟩⟩:=x
   dsimp only[Pv.v,Pv.cells]at hrk hst
   obtain⟨oe,ow,ol⟩:=oo
   dsimp only at hst
   have HRK:=Lib.hid hrk
   have HRN:=Lib.hid hrn
   have HST:=Lib.hid hst
   have HUK:=Lib.hid hus
   clear hrk hrn hst hus hul
   have hns:((k:Int)<((pn+1:Nat):Int)):=by omega
   obtain⟨wq,hwq⟩:∃ x,x=wr:=⟨_,rfl⟩
   subst hwq
   go_upto_region 6 with(fail)
   refine zf [24,25,26,27,28,29,30,23,31,32,33,7,8,9] ?_
   apply zb
   ·intro g w hb y;replace hL:=hL.grow hb;clear y;simp only[za,fLa,fLb,sTa,sTb]
    refine zo HRP.out hL rfl rfl ?_
    exact cY
   simp only[apN,apC]
   refine dv0 ?_
   refine dv0 ?_
   refine dv0 ?_
   refine dv2 2 3 ?_
   apply zb
   ·intro g w hb y;replace hL:=hL.grow hb;have d4:=yv y 4;clear y;simp only[za,fLa,fLb,sTa,sTb];simp only[d4]
    refine zo HRK.out hL rfl rfl ?_
    exact cY
   simp only[apN,apC]
   refine zh (JG ⟨oe,ow,ol⟩) JG.stable ?_ ?_
   ·intro g w hb y;replace hL:=hL.grow hb;have d0:=yv y 0;have d1:=yv y 1;have d5:=yv y 5;clear y;simp only[za,fLa,fLb,sTa,sTb];simp only[d0,d1,d5]
    go_wp2_with (go_at_call 62;refine(HST.out _ hL.below).mono ?_;rintro e w3 ⟨⟨s1,rfl⟩,hb3⟩;dsimp only)
    exact⟨rfl,_,rfl,hb3,s1,rfl⟩
   simp only[apN,apC]
   refine zh (JG ⟨oe,ow,ol⟩) JG.stable ?_ ?_
   ·intro g w hb y;replace hL:=hL.grow hb;have d6:(JG ⟨oe,ow,ol⟩) (g 30) w:=yr y 6;obtain⟨s1,d6⟩:=d6;clear y;simp only[za,fLa,fLb,sTa,sTb];simp only[d6]
    go_wp2_with (fail)
    exact⟨rfl,_,rfl,Below.refl _ _,s1,rfl⟩
   simp only[apN,apC]
   refine zh (SlV) SlV.stable ?_ ?_
   ·intro g w hb y;replace hL:=hL.grow hb;have d7:(JG ⟨oe,ow,ol⟩) (g 23) w:=yr y 7;obtain⟨s1,d7⟩:=d7;clear y;simp only[za,fLa,fLb,sTa,sTb];simp only[d7]
    go_wp2_with (fail)
    exact⟨rfl,_,rfl,Below.refl _ _,s1,rfl⟩
   simp only[apN,apC]
   apply zb
   ·intro g w hb y;replace hL:=hL.grow hb;have d7:(JG ⟨oe,ow,ol⟩) (g 23) w:=yr y 7;obtain⟨s1,d7⟩:=d7;clear y;simp only[za,fLa,fLb,sTa,sTb];simp only[d7]
    go_wp2
    exact cY
   simp only[apN,apC]
   apply zb
   ·intro g w hb y;replace hL:=hL.grow hb;have d7:(JG ⟨oe,ow,ol⟩) (g 23) w:=yr y 7;obtain⟨s1,d7⟩:=d7;clear y;simp only[za,fLa,fLb,sTa,sTb];simp only[d7]
    go_wp2
    exact cY
   simp only[apN,apC]
   refine zh (SlV) SlV.stable ?_ ?_
   ·intro g w hb y;replace hL:=hL.grow hb;have d8:(SlV) (g 31) w:=yr y 8;obtain⟨s1,d8⟩:=d8;clear y;simp only[za,fLa,fLb,sTa,sTb];simp only[d8]
    go_wp2_with (fail)
    exact⟨rfl,_,rfl,Below.refl _ _,s1,rfl⟩
   simp only[apN,apC]
   refine dv1 9 ?_
   refine dv1 10 ?_
   refine zO hL (by kernel_rfl) (by kernel_rfl) ?_
   intro g w2 hb hR;simp only[List.length_cons,List.length_nil,Nat.reduceAdd]at hR
   have e0:=yv hR 0
   have e1:=yv hR 1
   have e2:=yv hR 2
   have e3:=yv hR 3
   have e4:=yv hR 4
   have e5:=yv hR 5
   have e6:(JG ⟨oe,ow,ol⟩) (g 30) w2:=yr hR 6
   obtain⟨sz6,e6⟩:=e6
   have e7:(JG ⟨oe,ow,ol⟩) (g 23) w2:=yr hR 7
   obtain⟨sz7,e7⟩:=e7
   have e8:(SlV) (g 31) w2:=yr hR 8
   obtain⟨sz8,e8⟩:=e8
   have e9:=yv hR 9
   have e10:=yv hR 10
   have e11:(SlV) (g 7) w2:=yr hR 11
   obtain⟨⟨ep,en,ec⟩,e11⟩:=e11
   have e12:=yv hR 12
   have e13:=yv hR 13
   clear hR;simp only[za,fLa,fLb,sTa,sTb]
   simp only[e0,e1,e2,e3,e4,e5,e6,e7,e8,e9,e10,e11,e12,e13]
   clear e0 e1 e2 e3 e4 e5 e6 e7 e8 e9 e10 e11 e12 e13
   replace hL:=hL.grow hb
   clear hb
   clear HST HRK HRP
   go_upto_region 7 with(fail)
   refine zJ [34,35,36,37,38,39,40,41,42,43] ?_
   refine dv0 ?_
   refine dv0 ?_
   refine dv0 ?_
   refine dv0 ?_
   refine dv2 2 3 ?_
   refine dv1 4 ?_
   apply zb
   ·intro g w hb y;replace hL:=hL.grow hb;have d5:=yv y 5;clear y;simp only[za,fLa,fLb,sTa,sTb];simp only[d5]
    refine zo HRN.out hL rfl rfl ?_
    exact cY
   simp only[apN,apC]
   apply Jm
   ·intro g w hb y;replace hL:=hL.grow hb;have d0:=yv y 0;have d1:=yv y 1;have d6:=yv y 6;clear y;simp only[za,fLa,fLb,sTa,sTb];simp only[d0,d1,d6]
    go_wp2
    exact⟨rfl,_,rfl,(Below.refl _ _).alloc (Nat.le_refl _) _,_,hb.size,rfl,zI _ _⟩
   simp only[apN,apC]
   apply zb
   ·intro g w hb y;replace hL:=hL.grow hb;obtain⟨b7,e7,d7,f7⟩:=yC (zA y (j:=7) (by decide)) rfl rfl;clear y;simp only[za,fLa,fLb,sTa,sTb];simp only[d7]
    go_wp2
    exact cY
   simp only[apN,apC]
   refine dv0 ?_
   refine UC hL (by kernel_rfl) ?_
   intro g w2 hb hR;simp only[List.length_cons,List.length_nil,Nat.reduceAdd]at hR
   have e0:=yv hR 0
   have e1:=yv hR 1
   have e2:=yv hR 2
   have e3:=yv hR 3
   have e4:=yv hR 4
   have e5:=yv hR 5
   have e6:=yv hR 6
   obtain⟨b7,p7,e7,c7⟩:=yC (zA hR (j:=7) (by decide)) rfl rfl
   have e8:=yv hR 8
   have e9:=yv hR 9
   clear hR;simp only[za,fLa,fLb,sTa,sTb]
   simp only[e0,e1,e2,e3,e4,e5,e6,e7,e8,e9]
   clear e0 e1 e2 e3 e4 e5 e6 e7 e8 e9
   replace hL:=hL.gain hb p7 c7
   clear p7 c7
   clear hb
   go_wp2
   have hal:=zaJ ⟨oe,ow,ol⟩ dn k
   have HAL:=Lib.hid hal
   clear hal
   go_loopw [5,43] (fun c5 c43 wr=>∃ j:Nat,j≤4∧c43=.int .i64 j∧∃ (p6:Option Addr) (n6 cap6:Nat) (R2:List zj),c5=.slice p6 n6 cap6∧zM 35 2 p6 n6 cap6 ((A++KK ⟨oe,ow,ol⟩ dn k j).flatMap Yf) R2∧Loc wp wr ((b7,4,[.bool false,.bool ow,.bool ol,.bool dn])::R2) []) (fun _ c _=>4 - (intOf c).toNat)
   case atStart=>exact⟨0,Nat.zero_le _,rfl,p5,n5,cap5,R,rfl,by rw[show KK ⟨oe,ow,ol⟩ dn k 0=[] from rfl,List.append_nil];exact HR.out,hL⟩
   case round=>
    clear hL
    obtain⟨j,hj,rfl,p6,n6,cap6,R2,rfl,hR2,hL⟩:=hrel
    have HR2:=Lib.hid hR2
    have hn6:n6≤4*k+4:=by
     have h1:=hR2.flatlen zdw (by decide)
     have h2:=HAL.out j
     have h3:=HLN.out
     have h4:=HR.out.flatlen zdw (by decide)
     rw[List.length_append]at h1
     omega
    clear hR2
    by_cases hj4:j<4
    ·rcases (show j=0∨j=1∨j=2∨j=3 by omega) with h|h|h|h
     ·subst h
      have HY:=Lib.hid (UH (o:=⟨oe,ow,ol⟩) (nn:=dn) (i:=k) (j:=0) rfl)
      go_wp2_with (first|(with_reducible refine lld hL ?_))
      go_roundw
      case rel=>exact⟨1,by omega,by go_num,p6,n6,cap6,R2,rfl,by rw[HY.out];exact HR2.out,hL⟩
      case measure=>simp[intOf]
     ·subst h
      cases ow with
      | true=>
       have HY:=Lib.hid (VQ (o:=⟨oe,true,ol⟩) (nn:=dn) (i:=k) (j:=1) rfl)
       go_wp2_with (first|(refine zz (z:=[.int .i64 0,.int .i64 0]) (K:=_::_::[]) (R:=R2) (news:=Yf ((k:Int),1)) HR2.out hL rfl rfl rfl Qs J0 (by decide) rfl (fun _=>⟨⟨bl,0,none⟩,rfl,fun j u hj=>by rw[zH,Nat.zero_add];exact zF (hL.heap cIn) j hj⟩) rfl (by simp[Value.oneCell']) (by have:maxLen=9223372036854775807:=rfl;omega) (by omega) ?_;clear hL;intro p9 cap9 R9 w9 hS9 hL;have HS9:=Lib.hid hS9;clear hS9;simp only[List.cons_append,List.nil_append]at hL)|(with_reducible first|refine lld hL ?_|(refine lbs hL ?_;clear hL;intro bl w1 hL)))
       go_roundw
       case rel=>exact⟨2,by omega,by go_num,p9,n6+1,cap9,R9,rfl,by rw[HY.out,← List.append_assoc,List.flatMap_append];exact HS9.out,hL.drop (List.sublist_cons_self _ _) (fun _ h=>h)⟩
       case measure=>simp[intOf]
      | false=>
       have HY:=Lib.hid (UH (o:=⟨oe,false,ol⟩) (nn:=dn) (i:=k) (j:=1) rfl)
       go_wp2_with (first|(with_reducible refine lld hL ?_))
       go_roundw
       case rel=>exact⟨2,by omega,by go_num,p6,n6,cap6,R2,rfl,by rw[HY.out];exact HR2.out,hL⟩
       case measure=>simp[intOf]
     ·subst h
      cases ol with
      | true=>
       have HY:=Lib.hid (VQ (o:=⟨oe,ow,true⟩) (nn:=dn) (i:=k) (j:=2) rfl)
       go_wp2_with (first|(refine zz (z:=[.int .i64 0,.int .i64 0]) (K:=_::_::[]) (R:=R2) (news:=Yf ((k:Int),2)) HR2.out hL rfl rfl rfl Qs J0 (by decide) rfl (fun _=>⟨⟨bl,0,none⟩,rfl,fun j u hj=>by rw[zH,Nat.zero_add];exact zF (hL.heap cIn) j hj⟩) rfl (by simp[Value.oneCell']) (by have:maxLen=9223372036854775807:=rfl;omega) (by omega) ?_;clear hL;intro p9 cap9 R9 w9 hS9 hL;have HS9:=Lib.hid hS9;clear hS9;simp only[List.cons_append,List.nil_append]at hL)|(with_reducible first|refine lld hL ?_|(refine lbs hL ?_;clear hL;intro bl w1 hL)))
       go_roundw
       case rel=>exact⟨3,by omega,by go_num,p9,n6+1,cap9,R9,rfl,by rw[HY.out,← List.append_assoc,List.flatMap_append];exact HS9.out,hL.drop (List.sublist_cons_self _ _) (fun _ h=>h)⟩
       case measure=>simp[intOf]
      | false=>
       have HY:=Lib.hid (UH (o:=⟨oe,ow,false⟩) (nn:=dn) (i:=k) (j:=2) rfl)
       go_wp2_with (first|(with_reducible refine lld hL ?_))
       go_roundw
       case rel=>exact⟨3,by omega,by go_num,p6,n6,cap6,R2,rfl,by rw[HY.out];exact HR2.out,hL⟩
       case measure=>simp[intOf]
     ·subst h
      cases dn with
      | true=>
       have HY:=Lib.hid (VQ (o:=⟨oe,ow,ol⟩) (nn:=true) (i:=k) (j:=3) rfl)
       go_wp2_with (first|(refine zz (z:=[.int .i64 0,.int .i64 0]) (K:=_::_::[]) (R:=R2) (news:=Yf ((k:Int),3)) HR2.out hL rfl rfl rfl Qs J0 (by decide) rfl (fun _=>⟨⟨bl,0,none⟩,rfl,fun j u hj=>by rw[zH,Nat.zero_add];exact zF (hL.heap cIn) j hj⟩) rfl (by simp[Value.oneCell']) (by have:maxLen=9223372036854775807:=rfl;omega) (by omega) ?_;clear hL;intro p9 cap9 R9 w9 hS9 hL;have HS9:=Lib.hid hS9;clear hS9;simp only[List.cons_append,List.nil_append]at hL)|(with_reducible first|refine lld hL ?_|(refine lbs hL ?_;clear hL;intro bl w1 hL)))
       go_roundw
       case rel=>exact⟨4,by omega,by go_num,p9,n6+1,cap9,R9,rfl,by rw[HY.out,← List.append_assoc,List.flatMap_append];exact HS9.out,hL.drop (List.sublist_cons_self _ _) (fun _ h=>h)⟩
       case measure=>simp[intOf]
      | false=>
       have HY:=Lib.hid (UH (o:=⟨oe,ow,ol⟩) (nn:=false) (i:=k) (j:=3) rfl)
       go_wp2_with (first|(with_reducible refine lld hL ?_))
       go_roundw
       case rel=>exact⟨4,by omega,by go_num,p6,n6,cap6,R2,rfl,by rw[HY.out];exact HR2.out,hL⟩
       case measure=>simp[intOf]
    ·obtain rfl:j=4:=by omega
     go_wp2
     go_roundw
     case rel=>exact⟨k+1,by omega,by go_num,p6,n6,cap6,R2,rfl,by rw[HUK.out];exact HR2.out,hL.drop (List.sublist_cons_self _ _) (fun _ h=>h)⟩
     case measure=>simp[intOf];omega
  ·obtain rfl:k=pn:=by omega
   go_wp2
   refine rt1 ?_
   exact⟨kk,⟨p5,n5,cap5⟩,rfl,HE.out,by rw[HLL.out];exact HR.out.alarms (hL.ownOf (List.Sublist.refl _)),HB.out.trans (hL.below.mono HB.out.size)⟩
end Go.Proofs.YtplcndmdkabmeaaGreatDoor
