import Derived.Deep.CutBlock
import Derived.Test.YtajgekeiflblnaaGreatPica
import Derived.Test.YtajgekeiflblnaaGreatGue
set_option linter.unusedSimpArgs false
set_option linter.unusedVariables false
set_option maxRecDepth 100000
set_option maxHeartbeats 1600000
namespace Go.Proofs.YtajgekeiflblnaaGreat
open Go.RowKit
def rowLen (fs:List (List Res)) (f:Int) (k:Nat):Bool:=((fs.getD k []).length:Int) != f
theorem rowLen_no {fs:List (List Res)}{f:Int}{k:Nat}(h:rowLen fs f k=false):((fs.getD k []).length:Int)=f:=by simpa [rowLen] using h
theorem rowLen_of {fs:List (List Res)}{f:Int}{k n:Nat}(h:n=(fs.getD k []).length):rowLen fs f k=((n:Int) != f):=by rw[h];rfl
theorem rpic_none (p:Pg) (is:Nat→Ins) (sv sf:Sl) (vs:List Res) (fs:List (List Res)) (w:World) (h1:sv.n=vs.length) (h2:sf.n=fs.length) (hm:sv.n+sf.n≤9223372036854775807):
  Calls Tryz.prog 19 #[p.v,Pv.v ⟨true,sv,sf⟩] w fun e w'=>e=.returned (.int .i64 (rightP p is ⟨true,vs,fs⟩))∧Below w.heap.size w w':=by
 rw[none_right,← h1,← h2]
 obtain⟨vp,vn,vc⟩:=sv
 obtain⟨fp,fn,fc⟩:=sf
 dsimp only at hm ⊢
 clear h1 h2
 have hL:=Loc.start w
 go_enter Tryz.func19,Tryz.ntmps19
 generalize hx:(if 0<vn+fn then (1:Int) else 0)=x
 have hxy:x=if (decide ((0:Int)<(vn:Int)) || decide ((0:Int)<(fn:Int)))=true then 1 else 0:=by
  rw[← hx]
  by_cases h0:0<vn+fn
  ·rw[if_pos h0,if_pos (by simp;omega)]
  ·rw[if_neg h0,if_neg (by simp;omega)]
 clear hx
 generalize hea:decide ((0:Int)<(vn:Int))=ea at hxy
 generalize heb:decide ((0:Int)<(fn:Int))=eb at hxy
 have hea2:decide (0<vn)=ea:=by rw[← hea];simp
 have heb2:decide (0<fn)=eb:=by rw[← heb];simp
 have HX:=Lib.hid hxy
 clear hxy
 go_upto_region 2 with(first|(with_reducible first|refine lld hL ?_|((first|refine lbx hL ?_|refine lal hL ?_|refine lbs hL ?_);clear hL;intro bl w1 hL)|(refine lst' hL ?_;clear hL;intro w1 hL)))
 refine seq_begin [14,15,16,17,18,19,20,21,22,23] ?_
 refine dv0 ?_
 refine dv1 0 ?_
 refine dv1 1 ?_
 refine dv1 2 ?_
 refine dv1 3 ?_
 refine dg0 4 ?_
 refine dg1 4 5 ?_
 refine dg1 4 6 ?_
 refine dg1 4 7 ?_
 refine dpo 4 8 ?_
 refine dns hL ?_
 clear hL;intro w2 hL;simp only[fillX,sTa,sTb]
 (try simp only[hea,heb,hea2,heb2])
 clear hea heb hea2 heb2
 have hxy:=HX.out
 clear HX
 generalize (ea || eb)=ab at hxy ⊢
 have HX:=Lib.hid hxy
 clear hxy
 cases ab
 all_goals
  go_wp2_with (first|(with_reducible first|refine lld hL ?_|((first|refine lbx hL ?_|refine lal hL ?_|refine lbs hL ?_);clear hL;intro bl w1 hL)|(refine lst' hL ?_;clear hL;intro w1 hL)))
  (try simp only[Exit.inBlock,Exit.then]);refine rt1 ?_
  exact⟨by rw[HX.out];rfl,hL.below⟩
theorem rpic_some (p:Pg) (is:Nat→Ins) (sv sf:Sl) (vs:List Res) (fs:List (List Res)) (w:World) (hn:p.n≤9223372036854775807) (hsm:Small p) (hc:CodeAt w p is) (hv:RowIs w sv vs) (hf:RowsIs w sf fs):
  Calls Tryz.prog 19 #[p.v,Pv.v ⟨false,sv,sf⟩] w fun e w'=>e=.returned (.int .i64 (rightP p is ⟨false,vs,fs⟩))∧Below w.heap.size w w':=by
 obtain⟨rs,hrl,hrr⟩:=hf.ex
 rw[hf.n]at hrr hrl
 have hfm:=hf.m
 have hvm:=hv.m
 have hfn:=hf.n
 have hvn:=hv.n
 obtain⟨gv,hgv,hgl⟩:=hv.gus
 have HGV:=Lib.hid hgv
 have HVN:=Lib.hid (fun w' (hb:Below w.heap.size w w')=>ListC.news lenG (d:=zeroG) (l:=gv) (hgl.grow hb) (by rw[hvn,hgv.len]))
 have HRG:=Lib.hid (fun k (hk:k<fs.length)=>(hrr k hk).gus)
 have HRN:=Lib.hid (fun k (hk:k<fs.length)=>And.intro (hrr k hk).n (hrr k hk).m)
 have HRX:=Lib.hid (fun k (hk:k<fs.length)=>(hrr k hk).ex)
 have HF:=Lib.hid (some_right p is vs fs)
 obtain⟨b4,o4,hp4,hc4⟩:=(rows_list hrl).ex
 have HP4:=Lib.hid hp4
 have HC4:=Lib.hid hc4
 have HCG:=Lib.hid (fun g l w' (hb:Below w.heap.size w w') (hl:IntsAt w g.s l)=>rCheckGuess_any p is g l w' hn (hc.grow hb) (hl.grow hb))
 have HSI:=Lib.hid (fun (k:Nat) w' (hb:Below w.heap.size w w')=>rIsSite_any p is k w' hn (hc.grow hb))
 have HEM:=Lib.hid (fun g w'=>rIsNothing_any g w')
 have HSM:=Lib.hid hsm
 obtain⟨vp,vn,vc⟩:=sv
 obtain⟨fp,fn,fc⟩:=sf
 dsimp only at hfm hvm hfn hvn hrl hp4 hgl
 subst hfn hvn
 have HMX:=Lib.hid (And.intro hfm hvm)
 have hld:lensD p ⟨false,vs,fs⟩=(((vs.length:Int) != p.vars || (fs.length:Int) != p.n) || anyN (rowLen fs p.fields) fs.length):=rfl
 have HLD:=Lib.hid hld
 clear hp4 hc4 hrl hrr hf hv hc hsm hgl hgv hld hn
 have hL:=Loc.start w
 go_enter Tryz.func19,Tryz.ntmps19
 go_step
 go_step
 go_step
 ((with_reducible refine lbx hL ?_);clear hL;intro b2 w1 hL)
 ((with_reducible refine lbx hL ?_);clear hL;intro b3 w1 hL)
 go_upto_region 5 with(first|(with_reducible first|refine lld hL ?_|((first|refine lbx hL ?_|refine lal hL ?_|refine lbs hL ?_);clear hL;intro bl w1 hL)|(refine lst' hL ?_;clear hL;intro w1 hL)))
 refine seq_begin [24,25,26,27,28,29,30,31,32,33,34,35,36,37,38] ?_
 refine dv0 ?_
 refine dv1 0 ?_
 refine dv1 1 ?_
 refine dv0 ?_
 refine dv1 3 ?_
 refine dv2 2 4 ?_
 refine dv1 5 ?_
 refine dg0 6 ?_
 refine dg1 6 7 ?_
 refine dg1 6 8 ?_
 refine dg0 6 ?_
 refine dg1 6 10 ?_
 refine dg1 6 11 ?_
 refine dg2 6 9 12 ?_
 refine dpo 6 13 ?_
 refine dns hL ?_
 clear hL;intro w2 hL;simp only[fillX,sTa,sTb]
 simp only[beq_false,Bool.not_or,Bool.not_not]
 generalize h1:((vs.length:Int) != p.vars || (fs.length:Int) != p.n)=hb1 at HLD ⊢
 cases hb1 with
 | true=>
  have HX:=Lib.hid (HF.out.trans (if_pos (by rw[HLD.out];rfl)))
  clear h1
  go_wp2_with (first|(with_reducible first|refine lld hL ?_|((first|refine lbx hL ?_|refine lal hL ?_|refine lbs hL ?_);clear hL;intro bl w1 hL)|(refine lst' hL ?_;clear hL;intro w1 hL)))
  (try simp only[Exit.inBlock,Exit.then]);refine rt1 ?_
  exact⟨by rw[HX.out];rfl,hL.below⟩
 | false=>
 have hpn:fs.length=p.n∧(vs.length:Int)=p.vars:=by
  simp at h1
  omega
 have hb60:fs.length≤60:=by have:=HSM.out.n1;omega
 have hb8:vs.length≤8:=by have:=HSM.out.v2;omega
 have HB:=Lib.hid (And.intro hb60 hb8)
 clear h1 hpn hb8
 go_upto_block 0 with(first|(with_reducible first|refine lld hL ?_|((first|refine lbx hL ?_|refine lal hL ?_|refine lbs hL ?_);clear hL;intro bl w1 hL)|(refine lst' hL ?_;clear hL;intro w1 hL)))
 go_cut [] from 5 (fun wc=>Loc w wc ((b3,28,[.bool false,.slice vp vs.length vc,.slice fp fs.length fc])::(b2,24,[.int .i64 p.vars,.int .i64 p.fields,.slice p.pc p.n p.cap])::[]) []∧∀ j,j<fs.length→rowLen fs p.fields j=false)
 case first=>
  go_wp2_with (first|(with_reducible first|refine lld hL ?_|((first|refine lbx hL ?_|refine lal hL ?_|refine lbs hL ?_);clear hL;intro bl w1 hL)|(refine lst' hL ?_;clear hL;intro w1 hL)))
  go_loopw [5] (fun c wr=>∃ k:Nat,k≤fs.length∧c=.int .i64 k∧(∀ j,j<k→rowLen fs p.fields j=false)∧Loc w wr ((b3,28,[.bool false,.slice vp vs.length vc,.slice fp fs.length fc])::(b2,24,[.int .i64 p.vars,.int .i64 p.fields,.slice p.pc p.n p.cap])::[]) []) (fun c _=>fs.length - (intOf c).toNat)
  case atStart=>exact⟨0,Nat.zero_le _,rfl,fun j hj=>absurd hj (by omega),hL⟩
  case round=>
   obtain⟨k,hk,rfl,hq,hL⟩:=hrel
   have HQ:=Lib.hid hq
   clear hq
   by_cases hlt:k<fs.length
   ·obtain rfl:=HP4.out (by omega)
    clear HP4
    have hr:=HC4.out k hlt
    rw[Nat.mul_one]at hr
    have hrn:=HRN.out k hlt
    have hqk:rowLen fs p.fields k=(((rs k).n:Int) != p.fields):=rowLen_of hrn.1
    have hrm:=hrn.2
    generalize rs k=s at hr hqk hrm
    obtain⟨sp,sn,sc⟩:=s
    dsimp only[Sl.v]at hr hqk hrm
    have HR:=Lib.hid hr
    generalize hqv:rowLen fs p.fields k=qk at hqk
    have HQK:=Lib.hid hqk
    have HQV:=Lib.hid hqv
    clear hr hrn hqk hqv
    go_upto_region 10 with(first|(with_reducible first|refine lld hL ?_|((first|refine lbx hL ?_|refine lal hL ?_|refine lbs hL ?_);clear hL;intro bl w1 hL)|(refine lst' hL ?_;clear hL;intro w1 hL)))
    refine draw_begin [46,47,48,49,50,51,52,53,54] ?_
    refine dv0 ?_
    refine dv1 0 ?_
    refine dv0 ?_
    refine dv2 1 2 ?_
    apply draw_val
    ·intro g w hb hdep;replace hL:=hL.grow hb;have d3:=yv hdep 3;clear hdep;simp only[fillD,fLa,fLb,sTa,sTb];simp only[d3]
     refine loc_loadB HR.out hL rfl rfl ?_
     exact cY
    simp only[apN,apC]
    refine dv1 4 ?_
    refine dv0 ?_
    refine dv1 6 ?_
    refine dv2 5 7 ?_
    refine dnd hL ?_
    clear hL;intro w2 hL;simp only[fillX,sTa,sTb]
    rw[← HQK.out]
    cases qk with
    | true=>
     have HX:=Lib.hid (HF.out.trans (if_pos (by rw[HLD.out,anyN_yes hlt HQV.out];rfl)))
     go_wp2_with (first|(with_reducible first|refine lld hL ?_|((first|refine lbx hL ?_|refine lal hL ?_|refine lbs hL ?_);clear hL;intro bl w1 hL)|(refine lst' hL ?_;clear hL;intro w1 hL)))
     (try simp only[Exit.inBlock,Exit.then]);refine rt1 ?_
     exact⟨by rw[HX.out];rfl,hL.below⟩
    | false=>
     go_wp2_with (first|(with_reducible first|refine lld hL ?_|((first|refine lbx hL ?_|refine lal hL ?_|refine lbs hL ?_);clear hL;intro bl w1 hL)|(refine lst' hL ?_;clear hL;intro w1 hL)))
     go_roundw
     case rel=>
      refine⟨k+1,by omega,by go_num,fun j hj=>?_,hL⟩
      rcases Nat.lt_or_ge j k with h|h
      ·exact HQ.out j h
      ·obtain rfl:j=k:=by omega
       exact HQV.out
     case measure=>simp[intOf];omega
   ·obtain rfl:k=fs.length:=by omega
    clear hlt
    go_wp2_with (first|(with_reducible first|refine lld hL ?_|((first|refine lbx hL ?_|refine lal hL ?_|refine lbs hL ?_);clear hL;intro bl w1 hL)|(refine lst' hL ?_;clear hL;intro w1 hL)))
    go_meet
    case rel=>exact⟨hL,HQ.out⟩
 clear hL
 obtain⟨hL,hq⟩:=hcut
 have HF2:=Lib.hid (HF.out.trans (if_neg (by rw[HLD.out,anyN_no hq];decide)))
 have HLEN:=Lib.hid (fun k (hk:k<fs.length)=>rowLen_no (hq k hk))
 clear hq HF HLD
 go_upto_block 2 with(first|(with_reducible first|refine lld hL ?_|((first|refine lbx hL ?_|refine lal hL ?_|refine lbs hL ?_);clear hL;intro bl w1 hL)|(refine lst' hL ?_;clear hL;intro w1 hL))|(refine loc_build0 hL rfl sGuesses ?_;clear hL;intro p0 w1 hL)|(refine wp_append_new (p:=p0) rfl rfl sGuesses bGuess (by decide) rfl (HVN.out _ hL.below) (by rw[flat_len lenG,HGV.out.len];rfl) oneG' (by have:=HMX.out.2;have:maxLen=9223372036854775807:=rfl;omega) (by have:=HB.out.2;omega) ?_;intro pv cv Rv w2 hSv ho hb;replace hL:=hL.gainTail hb ho;simp only[List.cons_append,List.nil_append]at hL;clear ho hb))
 have HS0:=Lib.hid (show RowS 59 7 pv vs.length cv (gv.flatMap Gu.cells) Rv from hSv)
 clear hSv
 go_cut [6] from 5 (fun c wc=>∃ (n7:Nat) (p7:Option Addr) (cap7:Nat) (R7:List LBlk) (gl:List Gu),c=.slice p7 n7 cap7∧n7=gl.length∧GusD w gl (vs++fs.flatten)∧RowS 59 7 p7 n7 cap7 (gl.flatMap Gu.cells) R7∧Loc w wc ((b3,28,[.bool false,.slice vp vs.length vc,.slice fp fs.length fc])::(b2,24,[.int .i64 p.vars,.int .i64 p.fields,.slice p.pc p.n p.cap])::R7) [])
 case first=>
  go_wp2_with (first|(with_reducible first|refine lld hL ?_|((first|refine lbx hL ?_|refine lal hL ?_|refine lbs hL ?_);clear hL;intro bl w1 hL)|(refine lst' hL ?_;clear hL;intro w1 hL)))
  go_loopw [6,7] (fun c6 c7 wr=>∃ (k n7:Nat) (p7:Option Addr) (cap7:Nat) (R7:List LBlk) (gl:List Gu),k≤fs.length∧c6=.slice p7 n7 cap7∧c7=.int .i64 k∧n7=gl.length∧GusD w gl (vs++(fs.take k).flatten)∧RowS 59 7 p7 n7 cap7 (gl.flatMap Gu.cells) R7∧Loc w wr ((b3,28,[.bool false,.slice vp vs.length vc,.slice fp fs.length fc])::(b2,24,[.int .i64 p.vars,.int .i64 p.fields,.slice p.pc p.n p.cap])::R7) []) (fun _ c _=>fs.length - (intOf c).toNat)
  case atStart=>exact⟨0,vs.length,pv,cv,Rv,gv,Nat.zero_le _,rfl,rfl,HGV.out.len.symm,by rw[List.take_zero,List.flatten_nil,List.append_nil];exact HGV.out,HS0.out,hL⟩
  case round=>
   obtain⟨k,n7,p7,cap7,R7,gl,hk,rfl,rfl,hn7,hG7,hS7,hL⟩:=hrel
   have hle:n7≤8+k*3:=by
    rw[hn7,hG7.len,List.length_append]
    have h1:=flat_take_le (m:=3) (fun j hj=>by have:=HLEN.out j hj;have:=HSM.out.f2;omega) k hk
    have h2:=HB.out.2
    omega
   have HX:=Lib.hid (And.intro hn7 (And.intro hG7 (And.intro hS7 hle)))
   clear hn7 hG7 hS7 hle
   by_cases hlt:k<fs.length
   ·obtain rfl:=HP4.out (by omega)
    clear HP4
    have hr:=HC4.out k hlt
    rw[Nat.mul_one]at hr
    obtain⟨gk,hgk,hlk⟩:=HRG.out k hlt
    have hrn:=HRN.out k hlt
    have hl3:(rs k).n≤3:=by have:=HLEN.out k hlt;have:=HSM.out.f2;have:=hrn.1;omega
    have HNK:=Lib.hid (fun w' (hb:Below w.heap.size w w')=>ListC.news lenG (d:=zeroG) (l:=gk) (hlk.grow hb) (by rw[hrn.1,hgk.len]))
    have HGK:=Lib.hid hgk
    have HGN:=Lib.hid (show gk.length=(rs k).n by rw[hrn.1,hgk.len])
    clear hlk hgk hrn
    generalize rs k=s at hr HNK HGN hl3
    obtain⟨sp,sn,sc⟩:=s
    dsimp only[Sl.v]at hr HNK HGN hl3
    have HR:=Lib.hid hr
    clear hr
    go_wp2_with (first|(with_reducible refine ldB HR.out hL ?_)|(with_reducible first|refine lld hL ?_|((first|refine lbx hL ?_|refine lal hL ?_|refine lbs hL ?_);clear hL;intro bl w1 hL)|(refine lst' hL ?_;clear hL;intro w1 hL))|(refine loc_appendS (z:=[.bool false,.bool false,.int .i64 0,.int .i64 0,.bool false,.bool false,.slice none 0 0]) (K:=_::_::[]) (R:=R7) (news:=gk.flatMap Gu.cells) HX.out.2.2.1 hL rfl rfl rfl sGuesses bGuess (by decide) rfl (HNK.out _ hL.below) (by rw[flat_len lenG,HGN.out];rfl) oneG' (by have h1:=HX.out.2.2.2;have h4:=HB.out.1;have:maxLen=9223372036854775807:=rfl;omega) (by have h1:=HX.out.2.2.2;have h4:=HB.out.1;omega) ?_;clear hL;intro p4 cap4 R4 w4 hS4 hL;simp only[List.cons_append,List.nil_append]at hL))
    go_roundw
    case rel=>
     refine⟨k+1,n7+sn,p4,cap4,R4,gl++gk,by omega,rfl,by go_num,by rw[List.length_append,HGN.out,HX.out.1],?_,by simpa using hS4,hL⟩
     rw[take_next fs k [] hlt,List.flatten_append,List.flatten_cons,List.flatten_nil,List.append_nil,← List.append_assoc]
     exact HX.out.2.1.append HGK.out
    case measure=>simp[intOf];omega
   ·obtain rfl:k=fs.length:=by omega
    clear hlt
    go_wp2_with (first|(with_reducible first|refine lld hL ?_|((first|refine lbx hL ?_|refine lal hL ?_|refine lbs hL ?_);clear hL;intro bl w1 hL)|(refine lst' hL ?_;clear hL;intro w1 hL)))
    go_meet
    case rel=>exact⟨n7,p7,cap7,R7,gl,rfl,HX.out.1,by have h:=HX.out.2.1;rwa [List.take_length]at h,HX.out.2.2.1,hL⟩
 clear hL
 obtain⟨n7,p7,cap7,R7,gl,rfl,hn7,hG7,hS7,hL⟩:=hcut
 have hle:n7≤8+fs.length*3:=by
  rw[hn7,hG7.len,List.length_append]
  have h1:=flat_take_le (m:=3) (fun j hj=>by have:=HLEN.out j hj;have:=HSM.out.f2;omega) fs.length (Nat.le_refl _)
  rw[List.take_length]at h1
  have h2:=HB.out.2
  omega
 have HG7:=Lib.hid hG7
 have HN7:=Lib.hid (hn7.trans hG7.len)
 have hn200:n7≤200:=by have:=HB.out.1;omega
 have HS7:=Lib.hid hS7
 clear hS7 hG7 hn7 hle HVN HS0 HGV HRG
 go_upto_block 4 with(first|(with_reducible first|refine lld hL ?_|((first|refine lbx hL ?_|refine lal hL ?_|refine lbs hL ?_);clear hL;intro bl w1 hL)|(refine lst' hL ?_;clear hL;intro w1 hL)))
 go_cut [] from 5 (fun wc=>Loc w wc ((b3,28,[.bool false,.slice vp vs.length vc,.slice fp fs.length fc])::(b2,24,[.int .i64 p.vars,.int .i64 p.fields,.slice p.pc p.n p.cap])::R7) []∧rowsE p is (vs::fs)=0)
 case first=>
  go_wp2_with (first|(with_reducible first|refine lld hL ?_|((first|refine lbx hL ?_|refine lal hL ?_|refine lbs hL ?_);clear hL;intro bl w1 hL)|(refine lst' hL ?_;clear hL;intro w1 hL)))
  go_loopw [8] (fun c wr=>∃ k:Nat,k≤n7∧c=.int .i64 k∧firstE (((vs++fs.flatten).take k).map (rightD p is))=0∧Loc w wr ((b3,28,[.bool false,.slice vp vs.length vc,.slice fp fs.length fc])::(b2,24,[.int .i64 p.vars,.int .i64 p.fields,.slice p.pc p.n p.cap])::R7) []) (fun c _=>n7 - (intOf c).toNat)
  case atStart=>exact⟨0,Nat.zero_le _,rfl,rfl,hL⟩
  case round=>
   obtain⟨k,hk,rfl,hq,hL⟩:=hrel
   have HQ:=Lib.hid hq
   clear hq
   by_cases hlt:k<n7
   ·obtain⟨ga,csa,hpa,hRa,-,-⟩:=HS7.out.block (by omega)
    have hrow:=HS7.out
    rw[hRa]at hrow
    subst hRa hpa
    have hel:=hrow.elem lenG zeroG hlt
    have hgi:=HG7.out.at' k (by have:=HN7.out;omega)
    have hg1:∀ w',Below w.heap.size w w'→Calls Tryz.prog 45 #[p.v,(gl.getD k zeroG).v] w' fun e w2=>e=.returned (.int .i64 (rightD p is ((vs++fs.flatten).getD k zeroD)))∧Below w'.heap.size w' w2:=fun w' hb=>by
     have h1:=HCG.out (gl.getD k zeroG) ((vs++fs.flatten).getD k zeroD).l w' hb hgi.l
     have h2:rightG p is (gl.getD k zeroG) ((vs++fs.flatten).getD k zeroD).l=rightD p is ((vs++fs.flatten).getD k zeroD):=by rw[hgi.e];rfl
     rwa [h2]at h1
    have he:=firstE_next (rightD p is) (vs++fs.flatten) zeroD (by have:=HN7.out;omega) HQ.out
    generalize rightD p is ((vs++fs.flatten).getD k zeroD)=r at hg1 he
    generalize gl.getD k zeroG=g at hel hg1
    clear hgi hrow
    obtain⟨gn,⟨sn,lo,hi⟩,gt,gf,⟨sp,sc,scap⟩⟩:=g
    have HRD:=Lib.hid (Reads.agg (P:=Tryz.prog) tGuess hel rfl)
    have HG1:=Lib.hid hg1
    have HE:=Lib.hid he
    clear hel hg1 he
    try dsimp only at HRD HG1
    go_upto_region 20 with(first|(with_reducible first|refine lld hL ?_|((first|refine lbx hL ?_|refine lal hL ?_|refine lbs hL ?_);clear hL;intro bl w1 hL)|(refine lst' hL ?_;clear hL;intro w1 hL)))
    refine draw_begin [79,80,81,82,83,84,9] ?_
    refine dv0 ?_
    refine dv0 ?_
    refine dv0 ?_
    refine dv2 1 2 ?_
    apply draw_val
    ·intro g w hb hdep;replace hL:=hL.grow hb;have d3:=yv hdep 3;clear hdep;simp only[fillD,fLa,fLb,sTa,sTb];simp only[d3]
     refine loc_load hL rfl rfl cIn HRD.out ?_
     exact cY
    simp only[apN,apC]
    apply draw_val
    ·intro g w hb hdep;replace hL:=hL.grow hb;have d0:=yv hdep 0;have d4:=yv hdep 4;clear hdep;simp only[fillD,fLa,fLb,sTa,sTb];simp only[d0,d4]
     go_wp2_with (go_at_call 45;refine(HG1.out _ hL.below).mono ?_;rintro e w3 ⟨rfl,hb3⟩;dsimp only)
     exact⟨rfl,_,rfl,hb3,rfl⟩
    simp only[apN,apC]
    refine dv1 5 ?_
    refine dnd hL ?_
    clear hL;intro w2 hL;simp only[fillX,sTa,sTb]
    by_cases h1:r=0
    case neg=>
     have k1:(r != 0)=true:=by simpa using h1
     have hx:rowsE p is (vs::fs)=r:=by
      rw[rowsE_flat,List.flatten_cons]
      exact(firstE_found (rightD p is) (vs++fs.flatten) (k:=k+1) (by rw[HE.out];exact h1)).trans HE.out
     have HX:=Lib.hid (show rightP p is ⟨false,vs,fs⟩=r by rw[HF2.out,hx];exact if_pos h1)
     clear h1 hx
     go_wp2_with (first|(with_reducible first|refine lld hL ?_|((first|refine lbx hL ?_|refine lal hL ?_|refine lbs hL ?_);clear hL;intro bl w1 hL)|(refine lst' hL ?_;clear hL;intro w1 hL)))
     (try simp only[Exit.inBlock,Exit.then]);refine rt1 ?_
     exact⟨by rw[HX.out];rfl,hL.below⟩
    subst h1
    go_wp2_with (first|(with_reducible first|refine lld hL ?_|((first|refine lbx hL ?_|refine lal hL ?_|refine lbs hL ?_);clear hL;intro bl w1 hL)|(refine lst' hL ?_;clear hL;intro w1 hL)))
    go_roundw
    case rel=>exact⟨k+1,by omega,by go_num,HE.out,hL⟩
    case measure=>simp[intOf];omega
   ·obtain rfl:k=n7:=by omega
    clear hlt
    have HX:=Lib.hid (show rowsE p is (vs::fs)=0 by
     rw[rowsE_flat,List.flatten_cons]
     have h1:=HQ.out
     rwa [List.take_of_length_le (by have:=HN7.out;omega)]at h1)
    go_wp2_with (first|(with_reducible first|refine lld hL ?_|((first|refine lbx hL ?_|refine lal hL ?_|refine lbs hL ?_);clear hL;intro bl w1 hL)|(refine lst' hL ?_;clear hL;intro w1 hL)))
    go_meet
    case rel=>exact⟨hL,HX.out⟩
 clear hL
 obtain⟨hL,h0⟩:=hcut
 have HF3:=Lib.hid (HF2.out.trans (if_neg (by rw[h0];simp)))
 clear h0 HF2 HG7 HN7 HS7 HCG
 have HQS:=Lib.hid (show strayD p is fs=anyN (fun i=>!isSite p is i&&fullD (fs.getD i [])) fs.length from rfl)
 go_wp2_with (first|(with_reducible first|refine lld hL ?_|((first|refine lbx hL ?_|refine lal hL ?_|refine lbs hL ?_);clear hL;intro bl w1 hL)|(refine lst' hL ?_;clear hL;intro w1 hL)))
 go_loopw [10] (fun c wr=>∃ k:Nat,k≤fs.length∧c=.int .i64 k∧(∀ j,j<k→(!isSite p is j&&fullD (fs.getD j []))=false)∧Loc w wr ((b3,28,[.bool false,.slice vp vs.length vc,.slice fp fs.length fc])::(b2,24,[.int .i64 p.vars,.int .i64 p.fields,.slice p.pc p.n p.cap])::R7) []) (fun c _=>fs.length - (intOf c).toNat)
 case atStart=>exact⟨0,Nat.zero_le _,rfl,fun j hj=>absurd hj (by omega),hL⟩
 case round=>
  obtain⟨k,hk,rfl,hq,hL⟩:=hrel
  have HQ:=Lib.hid hq
  clear hq
  by_cases hlt:k<fs.length
  ·obtain rfl:=HP4.out (by omega)
   clear HP4
   have hr:=HC4.out k hlt
   rw[Nat.mul_one]at hr
   obtain⟨ss,hsl,hsi⟩:=HRX.out k hlt
   have hrn:=HRN.out k hlt
   have hpf:(((rs k).n:Nat):Int)=p.fields:=by rw[hrn.1];exact HLEN.out k hlt
   have hl3:(rs k).n≤3:=by have:=HSM.out.f2;omega
   have hfull:fullD (fs.getD k [])=anyN (fun j=>!emptyD ((fs.getD k []).getD j zeroD)) (rs k).n:=by rw[hrn.1];rfl
   obtain⟨kb,ko,hkp,hkc⟩:=hsl.ex
   have his:=fun w' (hb:Below w.heap.size w w')=>HSI.out k w' hb
   generalize hrow:fs.getD k []=row at hsl hsi hfull hkc
   have HROW:=Lib.hid hrow
   generalize rs k=s at hr hsi hpf hl3 hfull hkp hkc
   obtain⟨sp,sn,sc⟩:=s
   dsimp only[Sl.v]at hr hsi hpf hl3 hfull hkp hkc
   obtain⟨pv',pf,pc,pn,pcap⟩:=p
   dsimp only at hpf
   subst hpf
   have HR:=Lib.hid hr
   have HKP:=Lib.hid hkp
   have HKC:=Lib.hid hkc
   have HSS:=Lib.hid hsi
   have HFU:=Lib.hid hfull
   generalize hva:isSite ⟨pv',sn,pc,pn,pcap⟩ is k=va at his
   have HI:=Lib.hid his
   have HVA:=Lib.hid hva
   clear hr hsl hsi hfull hkp hkc hrn his hva hrow
   go_wp2_with (first|(with_reducible first|refine lld hL ?_|((first|refine lbx hL ?_|refine lal hL ?_|refine lbs hL ?_);clear hL;intro bl w1 hL)|(refine lst' hL ?_;clear hL;intro w1 hL)))
   go_loopw [11] (fun c wr=>∃ j:Nat,j≤sn∧c=.int .i64 j∧(∀ i,i<j→(!va && !emptyD (row.getD i zeroD))=false)∧Loc w wr ((b3,28,[.bool false,.slice vp vs.length vc,.slice (some ⟨b4,o4,none⟩) fs.length fc])::(b2,24,[.int .i64 pv',.int .i64 sn,.slice pc pn pcap])::R7) []) (fun c _=>sn - (intOf c).toNat)
   case atStart=>exact⟨0,Nat.zero_le _,rfl,fun j hj=>absurd hj (by omega),hL⟩
   case round=>
    obtain⟨j,hj,rfl,hq2,hL⟩:=hrel
    have HQ2:=Lib.hid hq2
    clear hq2
    by_cases hlt2:j<sn
    ·obtain rfl:=HKP.out (by omega)
     clear HKP
     have hr2:=ReadsAt.agg (P:=Tryz.prog) tGuess (HKC.out j hlt2).1 (HKC.out j hlt2).2 rfl
     have hem:=fun w'=>HEM.out ((row.getD j zeroD).gu (ss j)) w'
     rw[emptyD_gu (HSS.out j hlt2).n]at hem
     generalize hvb:emptyD (row.getD j zeroD)=vb at hem
     have HVB:=Lib.hid hvb
     clear hvb
     generalize row.getD j zeroD=d at hr2 hem
     generalize ss j=sj at hr2 hem
     obtain⟨nl,⟨gn,lo,hi⟩,tr,fa,l⟩:=d
     obtain⟨jp,jc,jcap⟩:=sj
     dsimp only[Res.gu]at hr2 hem
     have HR2:=Lib.hid hr2
     have HE:=Lib.hid hem
     clear hr2 hem
     go_upto_region 29 with(first|(with_reducible first|refine lld hL ?_|((first|refine lbx hL ?_|refine lal hL ?_|refine lbs hL ?_);clear hL;intro bl w1 hL)|(refine lst' hL ?_;clear hL;intro w1 hL)))
     refine seq_begin [101,102,103,104,105,106,107,108,109,110,111,112,113,114,115,116] ?_
     refine dv0 ?_
     refine dv0 ?_
     apply draw_val
     ·intro g w hb hdep;replace hL:=hL.grow hb;have d0:=yv hdep 0;have d1:=yv hdep 1;clear hdep;simp only[fillD,fLa,fLb,sTa,sTb];simp only[d0,d1]
      go_wp2_with (go_at_call 46;refine(HI.out _ hL.below).mono ?_;rintro e w3 ⟨rfl,hb3⟩;dsimp only)
      exact⟨rfl,_,rfl,hb3,rfl⟩
     simp only[apN,apC]
     refine dv1 2 ?_
     refine dv1 3 ?_
     refine dg0 4 ?_
     refine dg1 4 5 ?_
     refine dg0 4 ?_
     refine dg2 4 6 7 ?_
     refine' draw_guard (j:=4) rfl rfl rfl (by decide) (by simp) ?_ ?_;rotate_left
     ·intro hcs;simp only[Bool.and_eq_true,beqT,beqF]at hcs;intro g w hb hdep;replace hL:=hL.grow hb;have d8:=yv hdep 8;simp only[hcs,beq_self_eq_true,Bool.and_self,Bool.true_and,Bool.and_true,cnd_true]at d8;clear hdep;simp only[fillD,fLa,fLb,sTa,sTb];simp only[d8]
      refine loc_loadB HR.out hL rfl rfl ?_
      exact cY
     simp only[apN,apC]
     refine dg0 4 ?_
     refine dg2 4 9 10 ?_
     refine' draw_guard (j:=4) rfl rfl rfl (by decide) (by simp) ?_ ?_;rotate_left
     ·intro hcs;simp only[Bool.and_eq_true,beqT,beqF]at hcs;intro g w hb hdep;replace hL:=hL.grow hb;have d11:=yv hdep 11;simp only[hcs,beq_self_eq_true,Bool.and_self,Bool.true_and,Bool.and_true,cnd_true]at d11;clear hdep;simp only[fillD,fLa,fLb,sTa,sTb];simp only[d11]
      refine loc_loadB HR2.out hL rfl rfl ?_
      exact cY
     simp only[apN,apC]
     refine' draw_guard (j:=4) rfl rfl rfl (by decide) (by simp) ?_ ?_;rotate_left
     ·intro hcs;simp only[Bool.and_eq_true,beqT,beqF]at hcs;intro g w hb hdep;replace hL:=hL.grow hb;have d12:=yv hdep 12;simp only[hcs,beq_self_eq_true,Bool.and_self,Bool.true_and,Bool.and_true,cnd_true]at d12;clear hdep;simp only[fillD,fLa,fLb,sTa,sTb];simp only[d12]
      go_wp2_with (go_at_call 28;refine(HE.out _).mono ?_;rintro e w3 ⟨rfl,hb3⟩;dsimp only)
      exact⟨rfl,_,rfl,hb3,rfl⟩
     simp only[apN,apC]
     refine dg1 4 13 ?_
     refine dpa 4 14 ?_
     refine dns hL ?_
     clear hL;intro w2 hL;simp only[fillX,sTa,sTb]
     generalize hab:(!va && !vb)=ab
     cases ab with
     | true=>
      have hva2:va=false∧vb=false:=by simpa using hab
      have hx:(!isSite ⟨pv',sn,pc,pn,pcap⟩ is k&&fullD (fs.getD k []))=true:=by
       rw[HVA.out,HROW.out,HFU.out,hva2.1,anyN_yes (q:=fun j=>!emptyD (row.getD j zeroD)) hlt2 (by show (!emptyD (row.getD j zeroD))=true;rw[HVB.out,hva2.2];rfl)]
       rfl
      have HX:=Lib.hid (HF3.out.trans (if_pos (by rw[HQS.out];exact anyN_yes (q:=fun i=>!isSite ⟨pv',sn,pc,pn,pcap⟩ is i&&fullD (fs.getD i [])) hlt hx)))
      clear hab hx hva2
      go_wp2_with (first|(with_reducible first|refine lld hL ?_|((first|refine lbx hL ?_|refine lal hL ?_|refine lbs hL ?_);clear hL;intro bl w1 hL)|(refine lst' hL ?_;clear hL;intro w1 hL)))
      (try simp only[Exit.inBlock,Exit.then]);refine rt1 ?_
      exact⟨by rw[HX.out];rfl,hL.below⟩
     | false=>
      have HAB:=Lib.hid hab
      clear hab
      go_wp2_with (first|(with_reducible first|refine lld hL ?_|((first|refine lbx hL ?_|refine lal hL ?_|refine lbs hL ?_);clear hL;intro bl w1 hL)|(refine lst' hL ?_;clear hL;intro w1 hL)))
      go_roundw
      case rel=>
       refine⟨j+1,by omega,by go_num,fun i hi2=>?_,hL⟩
       rcases Nat.lt_or_ge i j with h|h
       ·exact HQ2.out i h
       ·obtain rfl:i=j:=by omega
        rw[HVB.out]
        exact HAB.out
      case measure=>simp[intOf];omega
    ·obtain rfl:j=sn:=by omega
     have HN:=Lib.hid (show (!isSite ⟨pv',j,pc,pn,pcap⟩ is k&&fullD (fs.getD k []))=false by
      rw[HVA.out,HROW.out,HFU.out]
      have h1:=HQ2.out
      cases va with
      | true=>rfl
      | false=>rw[anyN_no (q:=fun j=>!emptyD (row.getD j zeroD)) (fun i hi2=>by simpa using h1 i hi2)];rfl)
     clear hlt2 HQ2
     go_wp2_with (first|(with_reducible first|refine lld hL ?_|((first|refine lbx hL ?_|refine lal hL ?_|refine lbs hL ?_);clear hL;intro bl w1 hL)|(refine lst' hL ?_;clear hL;intro w1 hL)))
     go_roundw
     case rel=>
      refine⟨k+1,by omega,by go_num,fun i hi2=>?_,hL⟩
      rcases Nat.lt_or_ge i k with h|h
      ·exact HQ.out i h
      ·obtain rfl:i=k:=by omega
       exact HN.out
     case measure=>simp[intOf];omega
  ·obtain rfl:k=fs.length:=by omega
   have HX:=Lib.hid (HF3.out.trans (if_neg (by rw[HQS.out,anyN_no HQ.out];decide)))
   clear hlt
   go_wp2_with (first|(with_reducible first|refine lld hL ?_|((first|refine lbx hL ?_|refine lal hL ?_|refine lbs hL ?_);clear hL;intro bl w1 hL)|(refine lst' hL ?_;clear hL;intro w1 hL)))
   (try simp only[Exit.inBlock,Exit.then]);refine rt1 ?_
   exact⟨by rw[HX.out];rfl,hL.below⟩
theorem rCheckPicture_any (p:Pg) (is:Nat→Ins) (x:Pv) (d:Pd) (w:World) (hn:p.n≤9223372036854775807) (hsm:Small p) (hc:CodeAt w p is) (hx:PicIs w x d):
  Calls Tryz.prog 19 #[p.v,x.v] w fun e w'=>e=.returned (.int .i64 (rightP p is d))∧Below w.heap.size w w':=by
 obtain⟨xn,sv,sf⟩:=x
 obtain⟨dn,vs,fs⟩:=d
 obtain⟨he,hv,hf,hm⟩:=hx
 dsimp only at he hv hf hm
 subst he
 cases xn with
 | true=>exact rpic_none p is sv sf vs fs w hv.n hf.n hm
 | false=>exact rpic_some p is sv sf vs fs w hn hsm hc hv hf
theorem errs_zero {e:Int}{f:Nat→Int}{k:Nat}(h:errs e f k=0):e=0:=by
 by_cases h0:e=0
 ·exact h0
 ·exact absurd ((errs_stop (f:=f) (k:=0) (Nat.zero_le k) h0).symm.trans h) h0
theorem rCheckPictures_any (p:Pg) (is:Nat→Ins) (lp:Option Addr) (n cap:Nat) (xs:Nat→Pv) (ds:Nat→Pd) (w:World) (hn:p.n≤9223372036854775807) (hc:CodeAt w p is) (hg:PicsAt w lp n xs ds):
  Calls Tryz.prog 6 #[p.v,.slice lp n cap] w fun e w'=>e=.returned (.int .i64 (checkPs p is ds n))∧Below w.heap.size w w':=by
 obtain⟨b,o,hpp,hcc⟩:=hg.at'.ex
 have hm:=hg.m
 have HP:=Lib.hid hpp
 have HC:=Lib.hid hcc
 have HG:=Lib.hid (fun (hsm:Small p) k hk w' (hb:Below w.heap.size w w')=>rCheckPicture_any p is (xs k) (ds k) w' hn hsm (hc.grow hb) ((hg.pics k hk).grow hb))
 have hs:=fun w' (hb:Below w.heap.size w w')=>rCheckProgram_any p is w' (hc.grow hb) hn
 have HF:=Lib.hid (show checkPs p is ds n=errs (checkProg p is) (fun k=>rightP p is (ds k)) n from rfl)
 have HSM:=Lib.hid (fun (h:checkProg p is=0)=>(prog_right h).1)
 generalize checkProg p is=cp at hs HF HSM
 have HS:=Lib.hid hs
 clear hpp hcc hs hc hg
 have hL:=Loc.start w
 go_enter Tryz.func6,Tryz.ntmps6
 go_step
 go_step
 go_step
 ((with_reducible refine lbx hL ?_);clear hL;intro b2 w1 hL)
 go_wp2_with (first|(with_reducible first|refine lld hL ?_|((first|refine lbx hL ?_|refine lal hL ?_|refine lbs hL ?_);clear hL;intro bl w1 hL)|(refine lst' hL ?_;clear hL;intro w1 hL))|(go_at_call 12;refine(HS.out _ hL.below).mono ?_;rintro e w1 ⟨rfl,hb⟩;replace hL:=hL.grow hb;clear hb;dsimp only))
 go_loopw [5,6] (fun c5 c6 wr=>∃ k:Nat,k≤n∧c5=.int .i64 (errs cp (fun k=>rightP p is (ds k)) k)∧c6=.int .i64 k∧Loc w wr [(b2,24,[.int .i64 p.vars,.int .i64 p.fields,.slice p.pc p.n p.cap])] []) (fun _ c _=>n - (intOf c).toNat)
 case atStart=>exact⟨0,Nat.zero_le _,rfl,rfl,hL⟩
 case round=>
  obtain⟨k,hk,rfl,rfl,hL⟩:=hrel
  generalize hq:errs cp (fun k=>rightP p is (ds k)) k=x
  have HQ:=Lib.hid hq
  clear hq
  by_cases hlt:k<n
  ·by_cases h1:x=0
   case neg=>
    have k1:(x==0)=false:=by simpa using h1
    have HX:=Lib.hid (show checkPs p is ds n=x from HF.out.trans ((errs_stop (k:=k) (by omega) (by rw[HQ.out];exact h1)).trans HQ.out))
    clear h1
    go_wp2_with (first|(with_reducible first|refine lld hL ?_|((first|refine lbx hL ?_|refine lal hL ?_|refine lbs hL ?_);clear hL;intro bl w1 hL)|(refine lst' hL ?_;clear hL;intro w1 hL)))
    (try simp only[Exit.inBlock,Exit.then]);refine rt1 ?_
    exact⟨by rw[HX.out];rfl,hL.below⟩
   subst h1
   obtain rfl:=HP.out (by omega)
   clear HP
   have hr:=ReadsAt.agg (P:=Tryz.prog) tPic (HC.out k hlt).1 (HC.out k hlt).2 rfl
   have hg1:=HG.out (HSM.out (errs_zero HQ.out)) k hlt
   have he:=errs_next HQ.out
   try dsimp only at he hr
   rw[← he]at hg1
   generalize xs k=x at hr hg1
   obtain⟨xn,⟨vp,vn,vc⟩,⟨fp,fn,fc⟩⟩:=x
   try dsimp only[Pv.v,Pv.cells]at hr hg1
   have HR:=Lib.hid hr
   have HG1:=Lib.hid hg1
   clear hr hg1 he
   go_upto_region 5 with(first|(with_reducible first|refine lld hL ?_|((first|refine lbx hL ?_|refine lal hL ?_|refine lbs hL ?_);clear hL;intro bl w1 hL)|(refine lst' hL ?_;clear hL;intro w1 hL)))
   refine draw_begin [19,20,21,22,23,24,5] ?_
   refine dv0 ?_
   refine dv0 ?_
   refine dv0 ?_
   refine dv2 1 2 ?_
   apply draw_val
   ·intro g w hb hdep;replace hL:=hL.grow hb;have d3:=yv hdep 3;clear hdep;simp only[fillD,fLa,fLb,sTa,sTb];simp only[d3]
    refine loc_loadB HR.out hL rfl rfl ?_
    exact cY
   simp only[apN,apC]
   apply draw_val
   ·intro g w hb hdep;replace hL:=hL.grow hb;have d0:=yv hdep 0;have d4:=yv hdep 4;clear hdep;simp only[fillD,fLa,fLb,sTa,sTb];simp only[d0,d4]
    go_wp2_with (go_at_call 19;refine(HG1.out _ hL.below).mono ?_;rintro e w3 ⟨rfl,hb3⟩;dsimp only)
    exact⟨rfl,_,rfl,hb3,rfl⟩
   simp only[apN,apC]
   refine dv1 5 ?_
   refine dnd hL ?_
   clear hL;intro w2 hL;simp only[fillX,sTa,sTb]
   go_wp2_with (first|(with_reducible first|refine lld hL ?_|((first|refine lbx hL ?_|refine lal hL ?_|refine lbs hL ?_);clear hL;intro bl w1 hL)|(refine lst' hL ?_;clear hL;intro w1 hL)))
   go_roundw
   case rel=>exact⟨k+1,by omega,rfl,by go_num,hL⟩
   case measure=>simp[intOf];omega
  ·obtain rfl:k=n:=by omega
   have HX:=Lib.hid (show checkPs p is ds k=x from HF.out.trans HQ.out)
   go_wp2_with (first|(with_reducible first|refine lld hL ?_|((first|refine lbx hL ?_|refine lal hL ?_|refine lbs hL ?_);clear hL;intro bl w1 hL)|(refine lst' hL ?_;clear hL;intro w1 hL)))
   (try simp only[Exit.inBlock,Exit.then]);refine rt1 ?_
   exact⟨by rw[HX.out];rfl,hL.below⟩
end Go.Proofs.YtajgekeiflblnaaGreat
