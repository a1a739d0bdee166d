import Derived.Deep.CutBlock
import Derived.Test.YtajgekeiflblnaaGreatPicc
set_option linter.unusedSimpArgs false
set_option linter.unusedVariables false
set_option maxRecDepth 100000
set_option maxHeartbeats 1600000
namespace Go.Proofs.YtajgekeiflblnaaGreat
open Go.RowKit
theorem rpin_raw (p:Pg) (x y:Pv) (d e:Pd) (w:World) (hx:PicIs w x d) (hy:PicIs w y e) (hdn:d.none=false) (hen:e.none=false) (hd:RightPd p d) (hfe:RightPd p e) (hs:Small p):
  Calls Tryz.prog 42 #[x.v,y.v] w fun q w'=>q=.returned (.bool (insideP d e))∧Below w.heap.size w w':=by
 obtain⟨gx,hgx,hgxl⟩:=hx.vars.gus
 obtain⟨gy,hgy,hgyl⟩:=hy.vars.gus
 have hlk:=LikeP.of hd hfe
 have hv1:=hlk.vars
 have hgi:∀ (g h:Gu) (a b:Res) (w0:World),GuIs w0 g a→GuIs w0 h b→RightD a→Calls Tryz.prog 77 #[g.v,h.v] w0 fun e w'=>e=.returned (.bool (insideD a b))∧Below w0.heap.size w0 w':=fun g h a b w0 hg hh ha=>by
  have h1:=rGuessIn_any g h a.l b.l w0 (by rw[hg.e];exact ha.span) hg.l hh.l
  rw[show insideG g h a.l b.l=insideD a b by rw[hg.e,hh.e];rfl]at h1
  exact h1
 have HJV:=Lib.hid (fun k (hk:k<d.vars.length) w' (hb:Below w.heap.size w w')=>hgi (gx.getD k zeroG) (gy.getD k zeroG) (d.vars.getD k zeroD) (e.vars.getD k zeroD) w' ((hgx.at' k hk).grow hb) ((hgy.at' k (by omega)).grow hb) (hd.vg k hk))
 obtain⟨bvx,ovx,hpvx,hcvx⟩:=hgxl.ex
 obtain⟨bvy,ovy,hpvy,hcvy⟩:=hgyl.ex
 obtain⟨rx,hrx,hrx2⟩:=hx.fields.ex
 obtain⟨ry,hry,hry2⟩:=hy.fields.ex
 have hnx:=hx.fields.n
 have hny:=hy.fields.n
 have hvx:=hx.vars.n
 have hvy:=hy.vars.n
 rw[hnx]at hrx hrx2
 rw[hny]at hry hry2
 have hff:=hlk.fields
 have HRX:=Lib.hid (fun k (hk:k<d.fields.length)=>And.intro (hrx2 k hk).n (hrx2 k hk).gus)
 have HRY:=Lib.hid (fun k (hk:k<e.fields.length)=>And.intro (hry2 k hk).n (hry2 k hk).gus)
 have HROW:=Lib.hid (fun k (hk:k<d.fields.length)=>(show (d.fields.getD k []).length=(e.fields.getD k []).length from hlk.rows k hk))
 have HJR:=Lib.hid (fun k j (hk:k<d.fields.length) (hj:j<(d.fields.getD k []).length) (g h:Gu) (hg:GuIs w g ((d.fields.getD k []).getD j zeroD)) (hh:GuIs w h ((e.fields.getD k []).getD j zeroD)) w' (hb:Below w.heap.size w w')=>hgi g h ((d.fields.getD k []).getD j zeroD) ((e.fields.getD k []).getD j zeroD) w' (hg.grow hb) (hh.grow hb) (hd.fg k j hk hj))
 obtain⟨bx,ox,hpx,hcx⟩:=(rows_list hrx).ex
 obtain⟨by',oy,hpy,hcy⟩:=(rows_list hry).ex
 have hxn:=hx.e
 have hyn:=hy.e
 have h60:d.fields.length≤60:=by have:=hd.fields;have:=hs.n1;omega
 have h61:e.fields.length≤60:=by omega
 have h8:d.vars.length≤8:=by have:=hd.vars;have:=hs.v2;omega
 have h9:e.vars.length≤8:=by omega
 have H3:=Lib.hid (fun k (hk:k<d.fields.length)=>(show (d.fields.getD k []).length≤3 by have h1:((d.fields.getD k []).length:Int)=p.fields:=hd.rows k hk;have:=hs.f2;omega))
 have HQ:=Lib.hid (show insideP d e=(insideRow d.vars e.vars&&insideRows d.fields e.fields) by simp[insideP,hdn,hen])
 obtain⟨xn,⟨xp,xvn,xc⟩,⟨xfp,xfn,xfc⟩⟩:=x
 obtain⟨yn,⟨yp,yvn,yc⟩,⟨yfp,yfn,yfc⟩⟩:=y
 dsimp only at hnx hny hpx hcx hpy hcy hxn hyn hpvx hcvx hpvy hcvy hvx hvy
 rw[hdn]at hxn
 rw[hen]at hyn
 subst hxn hyn hnx hny hvx hvy
 generalize insideP d e=q0 at HQ ⊢
 have HPX:=Lib.hid hpx
 have HPY:=Lib.hid hpy
 have HCX:=Lib.hid hcx
 have HCY:=Lib.hid hcy
 have HPVX:=Lib.hid hpvx
 have HPVY:=Lib.hid hpvy
 have HCVX:=Lib.hid hcvx
 have HCVY:=Lib.hid hcvy
 have HFF:=Lib.hid (And.intro hff hv1)
 clear hx hy hdn hen hd hfe hs hlk hrx hrx2 hry hry2 hpx hcx hpy hcy hff hv1 hgx hgy hgxl hgyl hpvx hpvy hcvx hcvy hgi
 have hL:=Loc.start w
 go_enter Tryz.func42,Tryz.ntmps42
 go_step
 go_step
 go_step
 ((with_reducible refine lbx hL ?_);clear hL;intro b2 w1 hL)
 ((with_reducible refine lbx hL ?_);clear hL;intro b3 w1 hL)
 go_upto_block 0 with(first|(with_reducible first|refine lld hL ?_|((first|refine lbx hL ?_|refine lal hL ?_|refine lbs hL ?_);clear hL;intro bl w1 hL)|(refine lst' hL ?_;clear hL;intro w1 hL)))
 go_cut [] from 5 (fun wc=>Loc w wc [(b3,28,[.bool false,.slice yp e.vars.length yc,.slice yfp e.fields.length yfc]),(b2,28,[.bool false,.slice xp d.vars.length xc,.slice xfp d.fields.length xfc])] []∧insideRow d.vars e.vars=true)
 case first=>
  go_wp2_with (first|(with_reducible first|refine lld hL ?_|((first|refine lbx hL ?_|refine lal hL ?_|refine lbs hL ?_);clear hL;intro bl w1 hL)|(refine lst' hL ?_;clear hL;intro w1 hL)))
  go_loopw [5] (fun c wr=>∃ k:Nat,k≤d.vars.length∧c=.int .i64 k∧(∀ j,j<k→insideD (d.vars.getD j zeroD) (e.vars.getD j zeroD)=true)∧Loc w wr [(b3,28,[.bool false,.slice yp e.vars.length yc,.slice yfp e.fields.length yfc]),(b2,28,[.bool false,.slice xp d.vars.length xc,.slice xfp d.fields.length xfc])] []) (fun c _=>d.vars.length - (intOf c).toNat)
  case atStart=>exact⟨0,Nat.zero_le _,rfl,fun j hj=>absurd hj (by omega),hL⟩
  case round=>
   obtain⟨k,hk,rfl,hq,hL⟩:=hrel
   have HQ1:=Lib.hid hq
   clear hq
   by_cases hlt:k<d.vars.length
   ·have hlt2:k<e.vars.length:=by have:=HFF.out.2;omega
    obtain rfl:=HPVX.out (by omega)
    obtain rfl:=HPVY.out (by omega)
    clear HPVX HPVY
    have hr1:=ReadsAt.agg (P:=Tryz.prog) tGuess (HCVX.out k hlt).1 (HCVX.out k hlt).2 rfl
    have hr2:=ReadsAt.agg (P:=Tryz.prog) tGuess (HCVY.out k hlt2).1 (HCVY.out k hlt2).2 rfl
    have hput:=HJV.out k hlt
    generalize hB:insideD (d.vars.getD k zeroD) (e.vars.getD k zeroD)=B at hput
    have HB:=Lib.hid hB
    clear hB
    generalize gx.getD k zeroG=s at hr1 hput
    generalize gy.getD k zeroG=t at hr2 hput
    obtain⟨dn,⟨ds',dlo,dhi⟩,dt,df,⟨sp,sc,scap⟩⟩:=s
    obtain⟨en,⟨es',elo,ehi⟩,et,ef,⟨tp,tc,tcap⟩⟩:=t
    try dsimp only at hr1 hr2 hput
    have HR1:=Lib.hid hr1
    have HR2:=Lib.hid hr2
    have HPK:=Lib.hid hput
    clear hr1 hr2 hput
    go_upto_region 8 with(first|(with_reducible first|refine lld hL ?_|((first|refine lbx hL ?_|refine lal hL ?_|refine lbs hL ?_);clear hL;intro bl w1 hL)|(refine lst' hL ?_;clear hL;intro w1 hL)))
    refine draw_begin [19,20,21,22,23,24,25,26,27,28,29,30] ?_
    refine dv0 ?_
    refine dv1 0 ?_
    refine dv0 ?_
    refine dv2 1 2 ?_
    apply draw_val
    ·intro g w hb hdep;replace hL:=hL.grow hb;have d3:=yv hdep 3;clear hdep;simp only[fillD,fLa,fLb,sTa,sTb];simp only[d3]
     refine loc_loadB HR1.out hL rfl rfl ?_
     exact cY
    simp only[apN,apC]
    refine dv0 ?_
    refine dv1 5 ?_
    refine dv0 ?_
    refine dv2 6 7 ?_
    apply draw_val
    ·intro g w hb hdep;replace hL:=hL.grow hb;have d8:=yv hdep 8;clear hdep;simp only[fillD,fLa,fLb,sTa,sTb];simp only[d8]
     refine loc_loadB HR2.out hL rfl rfl ?_
     exact cY
    simp only[apN,apC]
    apply draw_val
    ·intro g w hb hdep;replace hL:=hL.grow hb;have d4:=yv hdep 4;have d9:=yv hdep 9;clear hdep;simp only[fillD,fLa,fLb,sTa,sTb];simp only[d4,d9]
     go_wp2_with (go_at_call 77;refine(HPK.out _ hL.below).mono ?_;rintro e w3 ⟨rfl,hb3⟩;dsimp only)
     exact⟨rfl,_,rfl,hb3,rfl⟩
    simp only[apN,apC]
    refine dv1 10 ?_
    refine dnd hL ?_
    clear hL;intro w2 hL;simp only[fillX,sTa,sTb]
    cases B with
    | false=>
     have HX:=Lib.hid (show q0=false by
      have h1:insideRow d.vars e.vars=false:=equalN_no hlt HB.out
      rw[HQ.out,h1];rfl)
     go_wp2_with (first|(with_reducible first|refine lld hL ?_|((first|refine lbx hL ?_|refine lal hL ?_|refine lbs hL ?_);clear hL;intro bl w1 hL)|(refine lst' hL ?_;clear hL;intro w1 hL)))
     (try simp only[Exit.inBlock,Exit.then]);refine rt1 ?_
     exact⟨by rw[HX.out];rfl,hL.below⟩
    | true=>
     go_wp2_with (first|(with_reducible first|refine lld hL ?_|((first|refine lbx hL ?_|refine lal hL ?_|refine lbs hL ?_);clear hL;intro bl w1 hL)|(refine lst' hL ?_;clear hL;intro w1 hL)))
     go_roundw
     case rel=>
      refine⟨k+1,by omega,by go_num,fun j hj=>?_,hL⟩
      rcases Nat.lt_or_ge j k with h|h
      ·exact HQ1.out j h
      ·obtain rfl:j=k:=by omega
       exact HB.out
     case measure=>simp[intOf];omega
   ·obtain rfl:k=d.vars.length:=by omega
    clear hlt
    have HX:=Lib.hid (show insideRow d.vars e.vars=true by
     unfold insideRow
     rw[← HFF.out.2]
     exact equalN_all HQ1.out)
    go_wp2_with (first|(with_reducible first|refine lld hL ?_|((first|refine lbx hL ?_|refine lal hL ?_|refine lbs hL ?_);clear hL;intro bl w1 hL)|(refine lst' hL ?_;clear hL;intro w1 hL)))
    go_meet
    case rel=>exact⟨hL,HX.out⟩
 clear hL
 obtain⟨hL,h0⟩:=hcut
 have HQ2:=Lib.hid (show q0=insideRows d.fields e.fields by rw[HQ.out,h0];rfl)
 clear h0 HQ HJV HCVX HCVY HPVX HPVY
 go_wp2_with (first|(with_reducible first|refine lld hL ?_|((first|refine lbx hL ?_|refine lal hL ?_|refine lbs hL ?_);clear hL;intro bl w1 hL)|(refine lst' hL ?_;clear hL;intro w1 hL)))
 go_loopw [6] (fun c wr=>∃ k:Nat,k≤d.fields.length∧c=.int .i64 k∧(∀ j,j<k→insideRow (d.fields.getD j []) (e.fields.getD j [])=true)∧Loc w wr [(b3,28,[.bool false,.slice yp e.vars.length yc,.slice yfp e.fields.length yfc]),(b2,28,[.bool false,.slice xp d.vars.length xc,.slice xfp d.fields.length xfc])] []) (fun c _=>d.fields.length - (intOf c).toNat)
 case atStart=>exact⟨0,Nat.zero_le _,rfl,fun j hj=>absurd hj (by omega),hL⟩
 case round=>
  obtain⟨k,hk,rfl,hq,hL⟩:=hrel
  have HQ1:=Lib.hid hq
  clear hq
  by_cases hlt:k<d.fields.length
  ·obtain rfl:=HPX.out (by omega)
   obtain rfl:=HPY.out (by have:=HFF.out.1;omega)
   clear HPX HPY
   have hlt2:k<e.fields.length:=by have:=HFF.out.1;omega
   have hr1:=HCX.out k hlt
   have hr2:=HCY.out k hlt2
   rw[Nat.mul_one]at hr1 hr2
   obtain⟨hn1,g1,hg1,hl1⟩:=HRX.out k hlt
   obtain⟨hn2,g2,hg2,hl2⟩:=HRY.out k hlt2
   have hrw:=HROW.out k hlt
   have hr3:=H3.out k hlt
   have hjr:=fun j (hj:j<(d.fields.getD k []).length)=>HJR.out k j hlt hj
   obtain⟨b1,o1,hp1,hc1⟩:=hl1.ex
   obtain⟨b9,o2,hp2,hc2⟩:=hl2.ex
   have hcl:∀ (h:insideRow (d.fields.getD k []) (e.fields.getD k [])=false),q0=false:=fun h=>by
    rw[HQ2.out]
    exact equalN_no (q:=fun k=>insideRow (d.fields.getD k []) (e.fields.getD k [])) hlt h
   generalize hdr:d.fields.getD k []=dr at hn1 hg1 hrw hr3 hjr hcl
   generalize her:e.fields.getD k []=er at hn2 hg2 hrw hjr hcl
   generalize rx k=s at hr1 hn1 hp1 hc1
   generalize ry k=t at hr2 hn2 hp2 hc2
   obtain⟨sp,sn,sc⟩:=s
   obtain⟨tp,tn,tc⟩:=t
   dsimp only[Sl.v]at hr1 hr2 hn1 hn2 hp1 hc1 hp2 hc2
   subst hn1 hn2
   have HDR:=Lib.hid (And.intro hdr her)
   have HR1:=Lib.hid hr1
   have HR2:=Lib.hid hr2
   have HG1:=Lib.hid hg1
   have HG2:=Lib.hid hg2
   have HP1:=Lib.hid hp1
   have HP2:=Lib.hid hp2
   have HC1:=Lib.hid hc1
   have HC2:=Lib.hid hc2
   have HRW:=Lib.hid hrw
   have HJK:=Lib.hid hjr
   have HCL:=Lib.hid hcl
   have hr4:er.length≤3:=by omega
   clear hr1 hr2 hg1 hg2 hp1 hp2 hc1 hc2 hrw hjr hl1 hl2 hdr her hcl
   go_wp2_with (first|(with_reducible first|refine lld hL ?_|((first|refine lbx hL ?_|refine lal hL ?_|refine lbs hL ?_);clear hL;intro bl w1 hL)|(refine lst' hL ?_;clear hL;intro w1 hL)))
   go_loopw [7] (fun c wr=>∃ j:Nat,j≤dr.length∧c=.int .i64 j∧(∀ i,i<j→insideD (dr.getD i zeroD) (er.getD i zeroD)=true)∧Loc w wr [(b3,28,[.bool false,.slice yp e.vars.length yc,.slice (some ⟨by',oy,none⟩) e.fields.length yfc]),(b2,28,[.bool false,.slice xp d.vars.length xc,.slice (some ⟨bx,ox,none⟩) d.fields.length xfc])] []) (fun c _=>dr.length - (intOf c).toNat)
   case atStart=>exact⟨0,Nat.zero_le _,rfl,fun j hj=>absurd hj (by omega),hL⟩
   case round=>
    obtain⟨j,hj,rfl,hq,hL⟩:=hrel
    have HQ3:=Lib.hid hq
    clear hq
    by_cases hlt3:j<dr.length
    ·have hlt4:j<er.length:=by have:=HRW.out;omega
     obtain rfl:=HP1.out (by omega)
     obtain rfl:=HP2.out (by omega)
     clear HP1 HP2
     have hr1:=ReadsAt.agg (P:=Tryz.prog) tGuess (HC1.out j hlt3).1 (HC1.out j hlt3).2 rfl
     have hr2:=ReadsAt.agg (P:=Tryz.prog) tGuess (HC2.out j hlt4).1 (HC2.out j hlt4).2 rfl
     have hput:=HJK.out j hlt3 (g1.getD j zeroG) (g2.getD j zeroG) (HG1.out.at' j hlt3) (HG2.out.at' j hlt4)
     generalize hB:insideD (dr.getD j zeroD) (er.getD j zeroD)=B at hput
     have HB:=Lib.hid hB
     clear hB
     generalize g1.getD j zeroG=s at hr1 hput
     generalize g2.getD j zeroG=t at hr2 hput
     obtain⟨dn,⟨ds',dlo,dhi⟩,dt,df,⟨sp,sc9,scap⟩⟩:=s
     obtain⟨en,⟨es',elo,ehi⟩,et,ef,⟨tp,tc9,tcap⟩⟩:=t
     try dsimp only at hr1 hr2 hput
     have HS1:=Lib.hid hr1
     have HS2:=Lib.hid hr2
     have HPK:=Lib.hid hput
     clear hr1 hr2 hput
     go_upto_region 16 with(first|(with_reducible refine ldB HR1.out hL ?_)|(with_reducible first|refine lld hL ?_|((first|refine lbx hL ?_|refine lal hL ?_|refine lbs hL ?_);clear hL;intro bl w1 hL)|(refine lst' hL ?_;clear hL;intro w1 hL)))
     refine draw_begin [48,49,50,51,52,53,54,55,56,57,58,59,60,61,62,63,64,65] ?_
     refine dv0 ?_
     refine dv1 0 ?_
     refine dv0 ?_
     refine dv2 1 2 ?_
     apply draw_val
     ·intro g w hb hdep;replace hL:=hL.grow hb;have d3:=yv hdep 3;clear hdep;simp only[fillD,fLa,fLb,sTa,sTb];simp only[d3]
      refine loc_loadB HR1.out hL rfl rfl ?_
      exact cY
     simp only[apN,apC]
     refine dv0 ?_
     refine dv2 4 5 ?_
     apply draw_val
     ·intro g w hb hdep;replace hL:=hL.grow hb;have d6:=yv hdep 6;clear hdep;simp only[fillD,fLa,fLb,sTa,sTb];simp only[d6]
      refine loc_loadB HS1.out hL rfl rfl ?_
      exact cY
     simp only[apN,apC]
     refine dv0 ?_
     refine dv1 8 ?_
     refine dv0 ?_
     refine dv2 9 10 ?_
     apply draw_val
     ·intro g w hb hdep;replace hL:=hL.grow hb;have d11:=yv hdep 11;clear hdep;simp only[fillD,fLa,fLb,sTa,sTb];simp only[d11]
      refine loc_loadB HR2.out hL rfl rfl ?_
      exact cY
     simp only[apN,apC]
     refine dv0 ?_
     refine dv2 12 13 ?_
     apply draw_val
     ·intro g w hb hdep;replace hL:=hL.grow hb;have d14:=yv hdep 14;clear hdep;simp only[fillD,fLa,fLb,sTa,sTb];simp only[d14]
      refine loc_loadB HS2.out hL rfl rfl ?_
      exact cY
     simp only[apN,apC]
     apply draw_val
     ·intro g w hb hdep;replace hL:=hL.grow hb;have d7:=yv hdep 7;have d15:=yv hdep 15;clear hdep;simp only[fillD,fLa,fLb,sTa,sTb];simp only[d7,d15]
      go_wp2_with (go_at_call 77;refine(HPK.out _ hL.below).mono ?_;rintro e w3 ⟨rfl,hb3⟩;dsimp only)
      exact⟨rfl,_,rfl,hb3,rfl⟩
     simp only[apN,apC]
     refine dv1 16 ?_
     refine dnd hL ?_
     clear hL;intro w2 hL;simp only[fillX,sTa,sTb]
     cases B with
     | false=>
      have HX:=Lib.hid (show q0=false from HCL.out (equalN_no (q:=fun k=>insideD (dr.getD k zeroD) (er.getD k zeroD)) hlt3 HB.out))
      go_wp2_with (first|(with_reducible first|refine lld hL ?_|((first|refine lbx hL ?_|refine lal hL ?_|refine lbs hL ?_);clear hL;intro bl w1 hL)|(refine lst' hL ?_;clear hL;intro w1 hL)))
      (try simp only[Exit.inBlock,Exit.then]);refine rt1 ?_
      exact⟨by rw[HX.out];rfl,hL.below⟩
     | true=>
      go_wp2_with (first|(with_reducible first|refine lld hL ?_|((first|refine lbx hL ?_|refine lal hL ?_|refine lbs hL ?_);clear hL;intro bl w1 hL)|(refine lst' hL ?_;clear hL;intro w1 hL)))
      go_roundw
      case rel=>
       refine⟨j+1,by omega,by go_num,fun i hi=>?_,hL⟩
       rcases Nat.lt_or_ge i j with h|h
       ·exact HQ3.out i h
       ·obtain rfl:i=j:=by omega
        exact HB.out
      case measure=>simp[intOf];omega
    ·obtain rfl:j=dr.length:=by omega
     have HX:=Lib.hid (show insideRow dr er=true by
      unfold insideRow
      rw[← HRW.out]
      exact equalN_all HQ3.out)
     clear hlt3
     go_wp2_with (first|(with_reducible refine ldB HR1.out hL ?_)|(with_reducible first|refine lld hL ?_|((first|refine lbx hL ?_|refine lal hL ?_|refine lbs hL ?_);clear hL;intro bl w1 hL)|(refine lst' hL ?_;clear hL;intro w1 hL)))
     go_roundw
     case rel=>
      refine⟨k+1,by omega,by go_num,fun i hi=>?_,hL⟩
      rcases Nat.lt_or_ge i k with h|h
      ·exact HQ1.out i h
      ·obtain rfl:i=k:=by omega
       rw[HDR.out.1,HDR.out.2]
       exact HX.out
     case measure=>simp[intOf];omega
  ·obtain rfl:k=d.fields.length:=by omega
   have HX:=Lib.hid (show q0=true by
    rw[HQ2.out]
    unfold insideRows
    rw[← HFF.out.1]
    exact equalN_all HQ1.out)
   clear hlt
   go_wp2_with (first|(with_reducible first|refine lld hL ?_|((first|refine lbx hL ?_|refine lal hL ?_|refine lbs hL ?_);clear hL;intro bl w1 hL)|(refine lst' hL ?_;clear hL;intro w1 hL)))
   (try simp only[Exit.inBlock,Exit.then]);refine rt1 ?_
   exact⟨by rw[HX.out];rfl,hL.below⟩
theorem rPictureIn_any (p:Pg) (is:Nat→Ins) (x y:Pv) (d e:Pd) (w:World) (hx:PicIs w x d) (hy:PicIs w y e) (hp:checkProg p is=0) (h:rightP p is d=0) (h' : rightP p is e=0):
  Calls Tryz.prog 42 #[x.v,y.v] w fun q w'=>q=.returned (.bool (insideP d e))∧Below w.heap.size w w':=by
 cases hdn:d.none with
 | true=>
  have hq:insideP d e=true:=by simp[insideP,hdn]
  rw[hq]
  have hxe:=hx.e
  rw[hdn]at hxe
  clear hx hy h h' hp hq hdn
  obtain⟨xn,⟨xp,xvn,xc⟩,⟨xfp,xfn,xfc⟩⟩:=x
  obtain⟨yn,⟨yp,yvn,yc⟩,⟨yfp,yfn,yfc⟩⟩:=y
  dsimp only at hxe
  subst hxe
  have hL:=Loc.start w
  go_enter Tryz.func42,Tryz.ntmps42
  go_wp2_with (first|(with_reducible first|refine lld hL ?_|((first|refine lbx hL ?_|refine lal hL ?_|refine lbs hL ?_);clear hL;intro bl w1 hL)|(refine lst' hL ?_;clear hL;intro w1 hL)))
  (try simp only[Exit.inBlock,Exit.then]);refine rt1 ?_
  exact⟨rfl,hL.below⟩
 | false=>
  cases hen:e.none with
  | true=>
   have hq:insideP d e=false:=by simp[insideP,hdn,hen]
   rw[hq]
   have hxe:=hx.e
   have hye:=hy.e
   rw[hdn]at hxe
   rw[hen]at hye
   clear hx hy h h' hp hq hdn hen
   obtain⟨xn,⟨xp,xvn,xc⟩,⟨xfp,xfn,xfc⟩⟩:=x
   obtain⟨yn,⟨yp,yvn,yc⟩,⟨yfp,yfn,yfc⟩⟩:=y
   dsimp only at hxe hye
   subst hxe hye
   have hL:=Loc.start w
   go_enter Tryz.func42,Tryz.ntmps42
   go_wp2_with (first|(with_reducible first|refine lld hL ?_|((first|refine lbx hL ?_|refine lal hL ?_|refine lbs hL ?_);clear hL;intro bl w1 hL)|(refine lst' hL ?_;clear hL;intro w1 hL)))
   (try simp only[Exit.inBlock,Exit.then]);refine rt1 ?_
   exact⟨rfl,hL.below⟩
  | false=>exact rpin_raw p x y d e w hx hy hdn hen (RightPd.of h hp hdn) (RightPd.of h' hp hen) (prog_right hp).1
end Go.Proofs.YtajgekeiflblnaaGreat
