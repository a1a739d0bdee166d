import Derived.Test.YtajgekeiflblnaaGreatSolG
import Derived.Test.YtajgekeiflblnaaGreatRefSolB
import Derived.Test.YtajgekeiflblnaaGreatPicd
import Derived.Test.YtajgekeiflblnaaGreatRefPicI
import Derived.Test.YtajgekeiflblnaaGreatRefSolC
set_option linter.unusedSimpArgs false
set_option linter.unusedVariables false
set_option maxRecDepth 100000
set_option maxHeartbeats 4000000
namespace Go.Proofs.YtajgekeiflblnaaGreat
open Go.RowKit
theorem samePics_any (a b:Sl) (l:List Pd) (w:World) (ha:PicsL w a l) (hb:PicsL w b l):
  Calls Tryz.prog 16 #[.slice a.p a.n a.cap,.slice b.p b.n b.cap] w fun q w'=>q=.returned (.bool true)∧Below w.heap.size w w':=by
 obtain⟨hna,hma,xa,hla,hpa⟩:=ha
 obtain⟨hnb,-,xb,hlb,hpb⟩:=hb
 obtain⟨ba,oa,hqa,hca⟩:=hla.ex
 obtain⟨bb,ob,hqb,hcb⟩:=hlb.ex
 obtain⟨ap,an,ac⟩:=a
 obtain⟨bp,bn,bc⟩:=b
 dsimp only at hna hnb hma hqa hqb hca hcb hpa hpb
 subst hna hnb
 have HS:=Lib.hid (fun k (hk:k<l.length) w' (hb:Below w.heap.size w w')=>samePic_any (xa k) (xb k) (l.getD k nonePd) w' ((hpa k hk).grow hb) ((hpb k hk).grow hb))
 have HPA:=Lib.hid hqa
 have HPB:=Lib.hid hqb
 have HCA:=Lib.hid hca
 have HCB:=Lib.hid hcb
 clear hla hlb hpa hpb hqa hqb hca hcb
 have hL:=Loc.start w
 go_enter Tryz.func16,Tryz.ntmps16
 go_wp2_with (first|(with_reducible first|refine lld hL ?_|((first|refine lbx hL ?_|refine lal hL ?_|refine lbs hL ?_);clear hL;intro bl w1 hL)|(refine lst' hL ?_;clear hL;intro w1 hL)))
 go_loopw [5] (fun c wr=>∃ k:Nat,k≤l.length∧c=.int .i64 k∧Loc w wr [] []) (fun c _=>l.length - (intOf c).toNat)
 case atStart=>exact⟨0,Nat.zero_le _,rfl,hL⟩
 case round=>
  obtain⟨k,hk,rfl,hL⟩:=hrel
  by_cases hlt:k<l.length
  ·obtain rfl:=HPA.out (by omega)
   obtain rfl:=HPB.out (by omega)
   clear HPA HPB
   have hr1:=ReadsAt.agg (P:=Tryz.prog) tPic (HCA.out k hlt).1 (HCA.out k hlt).2 rfl
   have hr2:=ReadsAt.agg (P:=Tryz.prog) tPic (HCB.out k hlt).1 (HCB.out k hlt).2 rfl
   have hs:=HS.out k hlt
   generalize xa k=x at hr1 hs
   generalize xb k=y at hr2 hs
   obtain⟨xn,⟨xp,xvn,xc⟩,⟨xfp,xfn,xfc⟩⟩:=x
   obtain⟨yn,⟨yp,yvn,yc⟩,⟨yfp,yfn,yfc⟩⟩:=y
   dsimp only[Pv.v,Pv.cells]at hr1 hr2 hs
   have HR1:=Lib.hid hr1
   have HR2:=Lib.hid hr2
   have HSK:=Lib.hid hs
   clear hr1 hr2 hs
   go_upto_region 6 with(first|(with_reducible first|refine lld hL ?_|((first|refine lbx hL ?_|refine lal hL ?_|refine lbs hL ?_);clear hL;intro bl w1 hL)|(refine lst' hL ?_;clear hL;intro w1 hL)))
   refine draw_begin [17,18,19,20,21,22,23,24,25,26] ?_
   refine dv0 ?_
   refine dv0 ?_
   refine dv2 0 1 ?_
   apply draw_val
   ·intro g w hb v;replace hL:=hL.grow hb;have d2:=yv v 2;clear v;simp only[fillD,fLa,fLb,sTa,sTb];simp only[d2]
    refine loc_loadB HR1.out hL rfl rfl ?_
    exact cY
   simp only[apN,apC]
   refine dv0 ?_
   refine dv0 ?_
   refine dv2 4 5 ?_
   apply draw_val
   ·intro g w hb v;replace hL:=hL.grow hb;have d6:=yv v 6;clear v;simp only[fillD,fLa,fLb,sTa,sTb];simp only[d6]
    refine loc_loadB HR2.out hL rfl rfl ?_
    exact cY
   simp only[apN,apC]
   apply draw_val
   ·intro g w hb v;replace hL:=hL.grow hb;have d3:=yv v 3;have d7:=yv v 7;clear v;simp only[fillD,fLa,fLb,sTa,sTb];simp only[d3,d7]
    go_wp2_with (go_at_call 31;refine(HSK.out _ hL.below).mono ?_;rintro e w3 ⟨rfl,hb3⟩;dsimp only)
    exact⟨rfl,_,rfl,hb3,rfl⟩
   simp only[apN,apC]
   refine dv1 8 ?_
   refine dnd hL ?_
   clear hL;intro w2 hL;simp only[fillX,sTa,sTb]
   go_wp2_with (first|(with_reducible first|refine lld hL ?_|((first|refine lbx hL ?_|refine lal hL ?_|refine lbs hL ?_);clear hL;intro bl w1 hL)|(refine lst' hL ?_;clear hL;intro w1 hL)))
   go_roundw
   case rel=>exact⟨k+1,by omega,by go_num,hL⟩
   case measure=>simp[intOf];omega
  ·obtain rfl:k=l.length:=by omega
   clear hlt
   go_wp2_with (first|(with_reducible first|refine lld hL ?_|((first|refine lbx hL ?_|refine lal hL ?_|refine lbs hL ?_);clear hL;intro bl w1 hL)|(refine lst' hL ?_;clear hL;intro w1 hL)))
   (try simp only[Exit.inBlock,Exit.then]);refine rt1 ?_
   exact⟨rfl,hL.below⟩
theorem rfits_any (p:Pg) (is:Nat→Ins) (nv nf:Nat) (hv:p.vars=nv) (hf:p.fields=nf) (s:Sl) (l:List Pd) (hp:checkProg p is=0) (w:World) (hc:CodeAt w p is) (hg:PicsL w s l) (hl:s.n=p.n+1) (hr:∀ k,k≤p.n→rightP p is (l.getD k nonePd)=0):
  Calls Tryz.prog 14 #[p.v,.slice s.p s.n s.cap] w fun e w'=>e=.returned (.bool (fitsS is p.n l (firstP nv nf p.n)))∧Below w.heap.size w w':=by
 have hs:=(prog_right hp).1
 have h1:=hs.v2
 have h2:=hs.f2
 have h60:=hs.n1
 obtain⟨xs,hx,hpc⟩:=hg.ex
 obtain⟨b,o,hpp,hcc⟩:=hx.ex
 have hln:=hg.n
 obtain⟨sp,sn,sc⟩:=s
 dsimp only at hpp hcc hpc hl hln ⊢
 clear hx hg
 have hfr:=first_right (p:=p) (is:=is) hv hf
 have HF:=Lib.hid (fun w'=>rFirst_any p nv nf hv hf (by omega) (by omega) (by omega) w')
 have HBM:=Lib.hid (right_len hp hfr)
 obtain rfl:=hpp (by omega)
 have HC:=Lib.hid (fun k (hk:k≤p.n)=>ReadsAt.agg (P:=Tryz.prog) tPic (hcc k (by omega)).1 (hcc k (by omega)).2 rfl)
 have HRS:=Lib.hid (fun k gx w' (hw:Below w.heap.size w w') (hgx:GxIs w (xs k) (l.getD k nonePd) gx) (hi:k<p.n)=>(show Calls Tryz.prog 7 #[p.v,.int .i64 k,(xs k).v] w' fun e w2=>∃ s:Sl,e=.returned (.tuple #[.slice s.p s.n s.cap,.bool (rawD is k (l.getD k nonePd)).wr,.bool (rawD is k (l.getD k nonePd)).fl])∧GotC w' w2 (fun w=>GusD w gx (l.getD k nonePd).vars) s (rawD is k (l.getD k nonePd)).es from rsp_any p is (xs k) (l.getD k nonePd) gx k w' hp (hc.grow hw) ((hpc k (by omega)).grow hw) ⟨hgx.d.grow hw,hgx.l.grow hw⟩ (hr k (by omega)) hi))
 have HGX:=Lib.hid (fun k (hk:k≤p.n)=>(hpc k (by omega)).gx)
 have HIN:=Lib.hid (fun x d k w' (hw:Below w.heap.size w w') (hx:PicIs w' x d) (hd:rightP p is d=0) (hk:k≤p.n)=>rPictureIn_any p is x (xs k) d (l.getD k nonePd) w' hx ((hpc k (by omega)).grow hw) hp hd (hr k hk))
 have HFT:=Lib.hid (fun k (hk:k<p.n)=>rawD_fits hp (d:=l.getD k nonePd) (hr k (by omega)) hk)
 have HFR:=Lib.hid hfr
 have HQ:=Lib.hid (show fitsS is p.n l (firstP nv nf p.n)=(fitsE is p.n l&&insideP (firstP nv nf p.n) (l.getD 0 nonePd)) from rfl)
 clear hs hc hpc hcc hpp hp hr h1 h2 hfr hln
 generalize firstP nv nf p.n=f0 at *
 obtain⟨pv,pf,pp,pn,pc⟩:=p
 dsimp only at *
 subst hv hf hl
 have HR0:=Lib.hid (HC.out 0 (Nat.zero_le _))
 have HI0:=Lib.hid (fun x w' (hw:Below w.heap.size w w') (hx:PicIs w' x f0)=>HIN.out x f0 0 w' hw hx HFR.out (Nat.zero_le _))
 rw[Nat.zero_mul,Nat.add_zero]at HR0
 generalize insideP f0 (l.getD 0 nonePd)=i0 at HQ HI0
 generalize xs 0=x0 at HR0 HI0
 obtain⟨x0n,⟨x0p,x0vn,x0c⟩,⟨x0fp,x0fn,x0fc⟩⟩:=x0
 dsimp only[Pv.v,Pv.cells]at HR0 HI0
 have hn0:((0:Int)<((pn+1:Nat):Int)):=by omega
 have hL:=Loc.start w
 go_enter Tryz.func14,Tryz.ntmps14
 go_step
 go_step
 go_step
 ((with_reducible refine lbx hL ?_);clear hL;intro b2 w1 hL)
 go_upto_region 1 with(first|(with_reducible first|refine lld hL ?_|((first|refine lbx hL ?_|refine lal hL ?_|refine lbs hL ?_);clear hL;intro bl w1 hL)|(refine lst' hL ?_;clear hL;intro w1 hL)))
 obtain⟨wq,hwq⟩:∃ x,x=w1:=⟨_,rfl⟩
 subst hwq
 refine draw_begin [10,11,12,13,14,15,16] ?_
 refine dv0 ?_
 refine draw_next (PicQr wq f0) PicQr.stable ?_ ?_
 ·intro g w hb v;replace hL:=hL.grow hb;have d0:=yv v 0;clear v;simp only[fillD,fLa,fLb,sTa,sTb];simp only[d0]
  go_wp2_with (go_at_call 40;refine(HF.out _).mono ?_;rintro q w4 ⟨r,rfl,hG⟩;dsimp only)
  exact⟨rfl,_,rfl,hG.below,r,rfl,Loc.since hb ((Loc.start _).gotP hG HBM.out)⟩
 simp only[apN,apC]
 refine dv0 ?_
 refine dv1 2 ?_
 apply draw_val
 ·intro g w hb v;replace hL:=hL.grow hb;have d3:=yv v 3;clear v;simp only[fillD,fLa,fLb,sTa,sTb];simp only[d3]
  refine loc_loadB HR0.out hL rfl rfl ?_
  exact cY
 simp only[apN,apC]
 apply draw_val
 ·intro g w hb v;replace hL:=hL.grow hb;have d1:(PicQr wq f0) (g 11) w:=yr v 1;obtain⟨r,d1,hG⟩:=d1;have d4:=yv v 4;clear v;simp only[fillD,fLa,fLb,sTa,sTb];simp only[d1,d4]
  go_wp2_with (go_at_call 42;refine(HI0.out r _ hL.below (hG.get (S:=fun w=>PicIs w r f0) List.mem_cons_self)).mono ?_;rintro e w3 ⟨rfl,hb3⟩;dsimp only)
  exact⟨rfl,_,rfl,hb3,rfl⟩
 simp only[apN,apC]
 refine dv1 5 ?_
 refine draw_end hL (by kernel_rfl) (by kernel_rfl) ?_
 intro g w2 hb hR;simp only[List.length_cons,List.length_nil,Nat.reduceAdd]at hR
 have e0:=yv hR 0
 have e1:(PicQr wq f0) (g 11) w2:=yr hR 1
 obtain⟨r1,e1,-⟩:=e1
 have e2:=yv hR 2
 have e3:=yv hR 3
 have e4:=yv hR 4
 have e5:=yv hR 5
 have e6:=yv hR 6
 clear hR;simp only[fillD,fLa,fLb,sTa,sTb]
 simp only[e0,e1,e2,e3,e4,e5,e6]
 clear e0 e1 e2 e3 e4 e5 e6
 replace hL:=hL.grow hb
 clear hb
 clear hn0 HR0 HI0 HF HBM HFR
 cases i0 with
 | false=>
  go_wp2_with (first|(with_reducible first|refine lld hL ?_|((first|refine lbx hL ?_|refine lal hL ?_|refine lbs hL ?_);clear hL;intro bl w1 hL)|(refine lst' hL ?_;clear hL;intro w1 hL)))
  (try simp only[Exit.inBlock,Exit.then]);refine rt1 ?_
  exact⟨by first|(rw[HQ.out,Bool.and_false];done)|(rw[HQ.out,Bool.and_false];rfl),hL.below⟩
 | true=>
  simp only[Bool.not_true]
  go_wp2_with (first|(with_reducible first|refine lld hL ?_|((first|refine lbx hL ?_|refine lal hL ?_|refine lbs hL ?_);clear hL;intro bl w1 hL)|(refine lst' hL ?_;clear hL;intro w1 hL)))
  go_loopw [5] (fun c wr=>∃ k:Nat,k≤pn∧c=.int .i64 k∧(∀ i,i<k→∀ x∈(rawD is i (l.getD i nonePd)).es,insideP x.2 (l.getD x.1.toNat nonePd)=true)∧Loc w wr [(b2,24,[.int .i64 nv,.int .i64 nf,.slice pp pn pc])] []) (fun c _=>pn+1 - (intOf c).toNat)
  case atStart=>exact⟨0,Nat.zero_le _,rfl,fun i hi=>absurd hi (Nat.not_lt_zero i),hL⟩
  case round=>
   clear hL
   obtain⟨k,hk,rfl,hal,hL⟩:=hrel
   have HAL:=Lib.hid hal
   clear hal
   by_cases hlt:k<pn
   ·obtain⟨gx,hgx⟩:=HGX.out k (by omega)
    have HGD:=Lib.hid hgx.d
    have hst:=fun w' hw=>HRS.out k gx w' hw hgx hlt
    have hft:=HFT.out k hlt
    have hrk:=HC.out k (by omega)
    have hns:((k:Int)<((pn+1:Nat):Int)):=by omega
    generalize hoo:rawD is k (l.getD k nonePd)=o at hst hft
    have HO:=Lib.hid hoo
    clear hoo hgx
    generalize xs k=x at hst hrk
    obtain⟨xn,⟨xp,xvn,xc⟩,⟨xfp,xfn,xfc⟩⟩:=x
    dsimp only[Pv.v,Pv.cells]at hst hrk
    have HST:=Lib.hid hst
    have HFTK:=Lib.hid hft
    have HRK:=Lib.hid hrk
    clear hst hft hrk
    obtain⟨wq,hwq⟩:∃ x,x=wr:=⟨_,rfl⟩
    subst hwq
    go_upto_region 6 with(first|(with_reducible first|refine lld hL ?_|((first|refine lbx hL ?_|refine lal hL ?_|refine lbs hL ?_);clear hL;intro bl w1 hL)|(refine lst' hL ?_;clear hL;intro w1 hL)))
    refine draw_begin [25,26,27,28,29,30,31,24,32,33,34,6,7,8] ?_
    refine dv0 ?_
    refine dv0 ?_
    refine dv0 ?_
    refine dv0 ?_
    refine dv2 2 3 ?_
    apply draw_val
    ·intro g w hb v;replace hL:=hL.grow hb;have d4:=yv v 4;clear v;simp only[fillD,fLa,fLb,sTa,sTb];simp only[d4]
     refine loc_loadB HRK.out hL rfl rfl ?_
     exact cY
    simp only[apN,apC]
    refine draw_next (RawC wq (fun w=>GusD w gx (l.getD k nonePd).vars) o) RawC.stable ?_ ?_
    ·intro g w hb v;replace hL:=hL.grow hb;have d0:=yv v 0;have d1:=yv v 1;have d5:=yv v 5;clear v;simp only[fillD,fLa,fLb,sTa,sTb];simp only[d0,d1,d5]
     go_wp2_with (go_at_call 7;refine(HST.out _ hL.below).mono ?_;rintro e w3 ⟨s1,rfl,hG⟩;dsimp only)
     exact⟨rfl,_,rfl,hG.below,s1,rfl,Loc.since hb hG⟩
    simp only[apN,apC]
    refine draw_next (RawC wq (fun w=>GusD w gx (l.getD k nonePd).vars) o) RawC.stable ?_ ?_
    ·intro g w hb v;replace hL:=hL.grow hb;have d6:(RawC wq (fun w=>GusD w gx (l.getD k nonePd).vars) o) (g 31) w:=yr v 6;obtain⟨s1,d6,hG⟩:=d6;clear v;simp only[fillD,fLa,fLb,sTa,sTb];simp only[d6]
     go_wp2_with (fail)
     exact⟨rfl,_,rfl,Below.refl _ _,s1,rfl,hG⟩
    simp only[apN,apC]
    refine draw_next (EdsC wq (fun w=>GusD w gx (l.getD k nonePd).vars) o.es) EdsC.stable ?_ ?_
    ·intro g w hb v;replace hL:=hL.grow hb;have d7:(RawC wq (fun w=>GusD w gx (l.getD k nonePd).vars) o) (g 24) w:=yr v 7;obtain⟨s1,d7,hG⟩:=d7;clear v;simp only[fillD,fLa,fLb,sTa,sTb];simp only[d7]
     go_wp2_with (fail)
     exact⟨rfl,_,rfl,Below.refl _ _,s1,rfl,hG⟩
    simp only[apN,apC]
    apply draw_val
    ·intro g w hb v;replace hL:=hL.grow hb;have d7:(RawC wq (fun w=>GusD w gx (l.getD k nonePd).vars) o) (g 24) w:=yr v 7;obtain⟨s1,d7,hG⟩:=d7;clear v;simp only[fillD,fLa,fLb,sTa,sTb];simp only[d7]
     go_wp2
     exact cY
    simp only[apN,apC]
    apply draw_val
    ·intro g w hb v;replace hL:=hL.grow hb;have d7:(RawC wq (fun w=>GusD w gx (l.getD k nonePd).vars) o) (g 24) w:=yr v 7;obtain⟨s1,d7,hG⟩:=d7;clear v;simp only[fillD,fLa,fLb,sTa,sTb];simp only[d7]
     go_wp2
     exact cY
    simp only[apN,apC]
    refine draw_next (EdsC wq (fun w=>GusD w gx (l.getD k nonePd).vars) o.es) EdsC.stable ?_ ?_
    ·intro g w hb v;replace hL:=hL.grow hb;have d8:(EdsC wq (fun w=>GusD w gx (l.getD k nonePd).vars) o.es) (g 32) w:=yr v 8;obtain⟨s1,d8,hG⟩:=d8;clear v;simp only[fillD,fLa,fLb,sTa,sTb];simp only[d8]
     go_wp2_with (fail)
     exact⟨rfl,_,rfl,Below.refl _ _,s1,rfl,hG⟩
    simp only[apN,apC]
    refine dv1 9 ?_
    refine dv1 10 ?_
    refine draw_end hL (by kernel_rfl) (by kernel_rfl) ?_
    intro g w2 hb hR;simp only[List.length_cons,List.length_nil,Nat.reduceAdd]at hR
    have e0:=yv hR 0
    have e1:=yv hR 1
    have e2:=yv hR 2
    have e3:=yv hR 3
    have e4:=yv hR 4
    have e5:=yv hR 5
    have e6:(RawC wq (fun w=>GusD w gx (l.getD k nonePd).vars) o) (g 31) w2:=yr hR 6
    obtain⟨sz6,e6,-⟩:=e6
    have e7:(RawC wq (fun w=>GusD w gx (l.getD k nonePd).vars) o) (g 24) w2:=yr hR 7
    obtain⟨sz7,e7,-⟩:=e7
    have e8:(EdsC wq (fun w=>GusD w gx (l.getD k nonePd).vars) o.es) (g 32) w2:=yr hR 8
    obtain⟨sz8,e8,-⟩:=e8
    have e9:=yv hR 9
    have e10:=yv hR 10
    have e11:(EdsC wq (fun w=>GusD w gx (l.getD k nonePd).vars) o.es) (g 6) w2:=yr hR 11
    obtain⟨⟨sp,sn,sc2⟩,e11,hGE⟩:=e11
    have e12:=yv hR 12
    have e13:=yv hR 13
    clear hR;simp only[fillD,fLa,fLb,sTa,sTb]
    simp only[e0,e1,e2,e3,e4,e5,e6,e7,e8,e9,e10,e11,e12,e13]
    clear e0 e1 e2 e3 e4 e5 e6 e7 e8 e9 e10 e11 e12 e13
    replace hL:=hL.gave hGE;simp only[List.append_nil,List.cons_append,List.nil_append]at hL;clear hGE
    clear hb
    clear HST HRK
    go_wp2_with (first|(with_reducible first|refine lld hL ?_|((first|refine lbx hL ?_|refine lal hL ?_|refine lbs hL ?_);clear hL;intro bl w1 hL)|(refine lst' hL ?_;clear hL;intro w1 hL)))
    go_loopw [9] (fun c wr=>∃ j:Nat,j≤o.es.length∧c=.int .i64 j∧(∀ i,i<j→insideP (o.es.getD i (0,zeroPd)).2 (l.getD (o.es.getD i (0,zeroPd)).1.toNat nonePd)=true)∧Loc w wr [(b2,24,[.int .i64 nv,.int .i64 nf,.slice pp pn pc])] [fun w=>GusD w gx (l.getD k nonePd).vars→EdsIs w ⟨sp,sn,sc2⟩ o.es]) (fun c _=>o.es.length+1 - (intOf c).toNat)
    case atStart=>exact⟨0,Nat.zero_le _,rfl,fun i hi=>absurd hi (Nat.not_lt_zero i),hL⟩
    case round=>
     clear hL
     obtain⟨j,hj,rfl,hin,hL⟩:=hrel
     have HIJ:=Lib.hid hin
     clear hin
     have hE:=hL.get List.mem_cons_self (HGD.out.grow hL.below)
     have hsn:=hE.n
     have hsm:sn≤9223372036854775807:=hE.m
     dsimp only at hsn
     by_cases hlj:j<o.es.length
     ·obtain⟨be,oe,ex,hpp,hcc⟩:=hE.reads
      dsimp only at hpp hcc
      obtain rfl:=hpp (by omega)
      obtain⟨hr6,hr7,hpe⟩:=hcc j (by omega)
      have hmem:o.es.getD j (0,zeroPd)∈o.es:=getD_mem hlj
      obtain⟨⟨ht0,ht1⟩,hre⟩:=HFTK.out _ hmem
      have HNO:=Lib.hid (fun (h:insideP (o.es.getD j (0,zeroPd)).2 (l.getD (o.es.getD j (0,zeroPd)).1.toNat nonePd)=false)=>fitsE_no (is:=is) (pn:=pn) (l:=l) (i:=k) hlt (x:=o.es.getD j (0,zeroPd)) (by rw[HO.out];exact hmem) h)
      have HJJ:=Lib.hid (fun (h:insideP (o.es.getD j (0,zeroPd)).2 (l.getD (o.es.getD j (0,zeroPd)).1.toNat nonePd)=true) i (hi:i<j+1)=>(show insideP (o.es.getD i (0,zeroPd)).2 (l.getD (o.es.getD i (0,zeroPd)).1.toNat nonePd)=true by
       rcases Nat.lt_or_ge i j with h3|h3
       ·exact HIJ.out i h3
       ·obtain rfl:i=j:=by omega
        exact h))
      clear hmem hpp hcc hE
      generalize o.es.getD j (0,zeroPd)=ek at ht0 ht1 hre hpe hr6 HNO HJJ
      generalize ex j=ev at hpe hr7
      obtain⟨ego,pe⟩:=ek
      obtain⟨en,⟨ep,evn,ec⟩,⟨efp,efn,efc⟩⟩:=ev
      dsimp only[Pv.v]at ht0 ht1 hre hpe hr6 hr7 HNO HJJ
      obtain⟨t,rfl⟩:∃ t:Nat,ego=t:=⟨ego.toNat,by omega⟩
      have htk:t≤pn:=by omega
      rw[show ((t:Int)).toNat=t from rfl]at HNO HJJ
      have hrt:=HC.out t htk
      have hpi:=fun w' (hw:Below w.heap.size w w') (hb:Below wr.heap.size wr w')=>HIN.out ⟨en,⟨ep,evn,ec⟩,⟨efp,efn,efc⟩⟩ pe t w' hw (hpe.grow hb) hre htk
      have hnt:((t:Int)<((pn+1:Nat):Int)):=by omega
      have hnj:((j:Int)<(sn:Int)):=by omega
      have hjb:j<9223372036854775807:=by omega
      generalize insideP pe (l.getD t nonePd)=ins at hpi HNO HJJ
      generalize xs t=xt at hrt hpi
      obtain⟨xn,⟨xp,xvn,xc⟩,⟨xfp,xfn,xfc⟩⟩:=xt
      dsimp only[Pv.v,Pv.cells]at hrt hpi
      have HR6:=Lib.hid hr6
      have HR7:=Lib.hid hr7
      have HRT:=Lib.hid hrt
      have HPI:=Lib.hid hpi
      have HSN:=Lib.hid hsn
      clear hr6 hr7 hrt hpi hsn hsm hpe hre ht0 ht1
      obtain⟨wq,hwq⟩:∃ x,x=wr:=⟨_,rfl⟩
      subst hwq
      go_upto_region 10 with(first|(with_reducible first|refine lld hL ?_|((first|refine lbx hL ?_|refine lal hL ?_|refine lbs hL ?_);clear hL;intro bl w1 hL)|(refine lst' hL ?_;clear hL;intro w1 hL)))
      refine draw_begin [41,42,43,44,45,46,47,48,49,50,51,52,53,54,55] ?_
      refine dv0 ?_
      refine dv0 ?_
      refine dv2 0 1 ?_
      refine dv1 2 ?_
      apply draw_val
      ·intro g w hb v;replace hL:=hL.grow hb;have d3:=yv v 3;clear v;simp only[fillD,fLa,fLb,sTa,sTb];simp only[d3]
       refine loc_loadB HR7.out ((Loc.start _).grow hb) rfl rfl ?_
       exact cY
      simp only[apN,apC]
      refine dv0 ?_
      refine dv0 ?_
      refine dv0 ?_
      refine dv2 6 7 ?_
      refine dv1 8 ?_
      apply draw_val
      ·intro g w hb v;replace hL:=hL.grow hb;have d9:=yv v 9;clear v;simp only[fillD,fLa,fLb,sTa,sTb];simp only[d9]
       refine loc_loadB HR6.out ((Loc.start _).grow hb) rfl rfl ?_
       exact cY
      simp only[apN,apC]
      refine dv2 5 10 ?_
      apply draw_val
      ·intro g w hb v;replace hL:=hL.grow hb;have d11:=yv v 11;clear v;simp only[fillD,fLa,fLb,sTa,sTb];simp only[d11]
       refine loc_loadB HRT.out hL rfl rfl ?_
       exact cY
      simp only[apN,apC]
      apply draw_val
      ·intro g w hb v;replace hL:=hL.grow hb;have d4:=yv v 4;have d12:=yv v 12;clear v;simp only[fillD,fLa,fLb,sTa,sTb];simp only[d4,d12]
       go_wp2_with (go_at_call 42;refine(HPI.out _ hL.below hb).mono ?_;rintro e w3 ⟨rfl,hb3⟩;dsimp only)
       exact⟨rfl,_,rfl,hb3,rfl⟩
      simp only[apN,apC]
      refine dv1 13 ?_
      refine dnd hL ?_
      clear hL;intro w3 hL;simp only[fillX,sTa,sTb]
      clear HPI HR6 HR7 HRT
      cases ins with
      | false=>
       have HN2:=Lib.hid (HNO.out rfl)
       go_wp2_with (first|(with_reducible first|refine lld hL ?_|((first|refine lbx hL ?_|refine lal hL ?_|refine lbs hL ?_);clear hL;intro bl w1 hL)|(refine lst' hL ?_;clear hL;intro w1 hL)))
       (try simp only[Exit.inBlock,Exit.then]);refine rt1 ?_
       exact⟨by first|(rw[HQ.out,HN2.out,Bool.false_and];done)|(rw[HQ.out,HN2.out,Bool.false_and];rfl),hL.below⟩
      | true=>
       have HJ2:=Lib.hid (HJJ.out rfl)
       go_wp2_with (first|(with_reducible first|refine lld hL ?_|((first|refine lbx hL ?_|refine lal hL ?_|refine lbs hL ?_);clear hL;intro bl w1 hL)|(refine lst' hL ?_;clear hL;intro w1 hL)))
       go_roundw
       case rel=>exact⟨j+1,hlj,by go_num,HJ2.out,hL⟩
       case measure=>simp[intOf];omega
     ·obtain rfl:j=o.es.length:=by omega
      clear hE hsm hlj
      subst hsn
      go_wp2_with (first|(with_reducible first|refine lld hL ?_|((first|refine lbx hL ?_|refine lal hL ?_|refine lbs hL ?_);clear hL;intro bl w1 hL)|(refine lst' hL ?_;clear hL;intro w1 hL)))
      go_roundw
      case rel=>
       refine⟨k+1,hlt,by go_num,fun i hi x hx=>?_,hL.drop (List.Sublist.refl _) (fun _ h=>by cases h)⟩
       rcases Nat.lt_or_ge i k with h3|h3
       ·exact HAL.out i h3 x hx
       ·obtain rfl:i=k:=by omega
        rw[HO.out]at hx
        obtain⟨z,hz,rfl⟩:=List.mem_iff_getElem.1 hx
        have h4:=HIJ.out z hz
        rw[List.getD_eq_getElem?_getD,List.getElem?_eq_getElem hz]at h4
        exact h4
      case measure=>simp[intOf];omega
   ·obtain rfl:k=pn:=by omega
    have HE:=Lib.hid (fitsE_iff.2 HAL.out)
    clear hlt
    go_wp2_with (first|(with_reducible first|refine lld hL ?_|((first|refine lbx hL ?_|refine lal hL ?_|refine lbs hL ?_);clear hL;intro bl w1 hL)|(refine lst' hL ?_;clear hL;intro w1 hL)))
    (try simp only[Exit.inBlock,Exit.then]);refine rt1 ?_
    exact⟨by first|(rw[HQ.out,HE.out];done)|(rw[HQ.out,HE.out];rfl),hL.below⟩
end Go.Proofs.YtajgekeiflblnaaGreat
