/- The walk over the reference's JoinPicture at two pictures of runs. Conditions: right pictures. | The reference's JoinPicture, whole; what both sides' joins are, as data. Conditions: right pictures. -/
import Derived.Deep.CutBlock
import Derived.Test.YtplcndmdkabmeaaGreatDoorPicc
import Derived.Test.YtplcndmdkabmeaaGreatDoorGue
set_option linter.unusedSimpArgs false
set_option linter.unusedVariables false
set_option maxRecDepth 100000
set_option maxHeartbeats 1600000
namespace Go.Proofs.YtplcndmdkabmeaaGreatDoor
open Go.RowKit
theorem Ga (wd:Bool) (f:zq→zq→zq) (hf:∀ (s t:zq) (w:World),Calls Tryz.prog 119 #[s.v,t.v,.bool wd] w fun e w'=>e=.returned (f s t).v∧Below w.heap.size w w')
  (g h:Gu) (d e:Res) (w:World) (hg:qq w g d) (hh:qq w h e) (hd:inS d.l) (he:inS e.l):
  Calls Tryz.prog 81 #[g.v,h.v,.bool wd] w fun x w'=>∃ r:Sl,x=.returned ((qB f d e).gu r).v∧Q7 w.heap.size w' r (y7 d.l e.l)∧Below w.heap.size w w':=by
 have hb:=Vd wd f hf g h d.l e.l w hg.l hh.l
 rw[← Yt hd he]at hb
 have e1:=hg.e
 have e2:=hh.e
 have hq:∀ r:Sl,(⟨g.null || h.null,f g.span h.span,g.tr || h.tr,g.fa || h.fa,r⟩:Gu)=(qB f d e).gu r:=fun r=>by rw[e1,e2]
 simp only[hq]at hb
 exact hb
theorem zc6 (wd:Bool) (f:zq→zq→zq) (hf:∀ (s t:zq) (w:World),Calls Tryz.prog 119 #[s.v,t.v,.bool wd] w fun e w'=>e=.returned (f s t).v∧Below w.heap.size w w')
  (p:Pg) (x y:Pv) (d e:Pd) (w:World) (hx:zN w x d) (hy:zN w y e) (hdn:d.none=false) (hen:e.none=false) (hd:qk p d) (hfe:qk p e) (hs:UU p):
  Calls Tryz.prog 57 #[x.v,y.v,.bool wd] w fun q w'=>∃ r:Pv,q=.returned r.v∧QX w w' r (qb f d e):=by
 obtain⟨gx,hgx,hgxl⟩:=hx.vars.gus
 obtain⟨gy,hgy,hgyl⟩:=hy.vars.gus
 have hlk:=YO.of hd hfe
 have hv1:=hlk.vars
 have HJV:=Lib.hid (fun k (hk:k<d.vars.length) w' (hb:Below w.heap.size w w')=>Ga wd f hf (gx.getD k zT) (gy.getD k zT) (d.var k) (e.var k) w' ((hgx.at' k hk).grow hb) ((hgy.at' k (by omega)).grow hb) (hd.vg k hk).ins (hfe.vg k (by omega)).ins)
 obtain⟨bvx,ovx,hpvx,hcvx⟩:=hgxl.ex
 obtain⟨bvy,ovy,hpvy,hcvy⟩:=hgyl.ex
 obtain⟨rx,hrx,hrx2⟩:=hx.fields.ex
 obtain⟨ry,hry,hry2⟩:=hy.fields.ex
 have hnx:=hx.fields.n
 have hny:=hy.fields.n
 have hvx:=hx.vars.n
 have hvy:=hy.vars.n
 rw[hnx]at hrx hrx2
 rw[hny]at hry hry2
 have hff:=hlk.fields
 have HRX:=Lib.hid (fun k (hk:k<d.fields.length)=>And.intro (hrx2 k hk).n (hrx2 k hk).gus)
 have HRY:=Lib.hid (fun k (hk:k<e.fields.length)=>And.intro (hry2 k hk).n (hry2 k hk).gus)
 have HROW:=Lib.hid (fun k (hk:k<d.fields.length)=>hlk.rows k hk)
 have HJR:=Lib.hid (fun k j (hk:k<d.fields.length) (hj:j<(d.row k).length) (g h:Gu) (hg:qq w g (d.field k j)) (hh:qq w h (e.field k j)) w' (hb:Below w.heap.size w w')=>Ga wd f hf g h (d.field k j) (e.field k j) w' (hg.grow hb) (hh.grow hb) (hd.fg k j hk hj).ins (hfe.fg k j (by omega) (by have:=hlk.rows k hk;omega)).ins)
 obtain⟨bx,ox,hpx,hcx⟩:=(QG hrx).ex
 obtain⟨by',oy,hpy,hcy⟩:=(QG hry).ex
 have hxn:=hx.e
 have hyn:=hy.e
 have h60:d.fields.length≤60:=by have:=hd.fields;have:=hs.n1;omega
 have h61:e.fields.length≤60:=by omega
 have h8:d.vars.length≤8:=by have:=hd.vars;have:=hs.v2;omega
 have h9:e.vars.length≤8:=by omega
 have H3:=Lib.hid (fun k (hk:k<d.fields.length)=>(show (d.row k).length≤3 by have:=hd.rows k hk;have:=hs.f2;omega))
 have HRAW:=Lib.hid (fun k=>YP f d e k)
 have HVN:=Lib.hid (fun k=>Z0 f d.vars e.vars k)
 have HRV:=Lib.hid (show (qb f d e).vars=yi f d.vars e.vars d.vars.length from rfl)
 have HRF:=Lib.hid (show (qb f d e).fields=qG f d e d.fields.length from rfl)
 have HR0:=Lib.hid (show qG f d e 0=[] from rfl)
 have HRN:=Lib.hid (show (qb f d e).none=false from rfl)
 obtain⟨xn,⟨xp,xvn,xc⟩,⟨xfp,xfn,xfc⟩⟩:=x
 obtain⟨yn,⟨yp,yvn,yc⟩,⟨yfp,yfn,yfc⟩⟩:=y
 dsimp only at hnx hny hpx hcx hpy hcy hxn hyn hpvx hcvx hpvy hcvy hvx hvy
 rw[hdn]at hxn
 rw[hen]at hyn
 subst hxn hyn hnx hny hvx hvy
 generalize qb f d e=braw at HRV HRF HRN ⊢
 have HPX:=Lib.hid hpx
 have HPY:=Lib.hid hpy
 have HCX:=Lib.hid hcx
 have HCY:=Lib.hid hcy
 have HPVX:=Lib.hid hpvx
 have HPVY:=Lib.hid hpvy
 have HCVX:=Lib.hid hcvx
 have HCVY:=Lib.hid hcvy
 have HFF:=Lib.hid (And.intro hff hv1)
 clear hx hy hdn hen hd hfe hs hlk hrx hrx2 hry hry2 hpx hcx hpy hcy hff hv1 hgx hgy hgxl hgyl hpvx hpvy hcvx hcvy
 have hL:=Loc.start w
 go_enter Tryz.func57,Tryz.ntmps57
 go_step
 go_step
 go_step
 ((with_reducible refine lbx hL ?_);clear hL;intro b3 w1 hL)
 ((with_reducible refine lbx hL ?_);clear hL;intro b4 w1 hL)
 ((with_reducible refine lal hL ?_);clear hL;intro b6 w1 hL)
 go_upto_block 0 with(first|(with_reducible first|refine lld hL ?_|((first|refine lbx hL ?_|refine lal hL ?_|refine lbs hL ?_);clear hL;intro bl w1 hL)|(refine zd hL ?_;clear hL;intro w1 hL)))
 obtain⟨b7,hb7⟩:∃ b,b=bl:=⟨_,rfl⟩
 subst hb7
 go_cut [] from 8 (fun wc=>∃ (p7:Option Addr) (cap7:Nat) (gv:List Gu) (R7:List zj),zM 108 7 p7 d.vars.length cap7 (gv.flatMap Gu.cells) R7∧Loc w wc ((b7,54,[.bool false,.slice p7 d.vars.length cap7,.slice none 0 0])::(b6,54,[.bool false,.slice none 0 0,.slice none 0 0])::(b4,54,[.bool false,.slice yp e.vars.length yc,.slice yfp e.fields.length yfc])::(b3,54,[.bool false,.slice xp d.vars.length xc,.slice xfp d.fields.length xfc])::(R7)) [fun w=>zX w gv (yi f d.vars e.vars d.vars.length)])
 case first=>
  go_wp2_with (first|(with_reducible first|refine lld hL ?_|((first|refine lbx hL ?_|refine lal hL ?_|refine lbs hL ?_);clear hL;intro bl w1 hL)|(refine zd hL ?_;clear hL;intro w1 hL)))
  go_loopw [8] (fun c wr=>∃ (k:Nat) (p7:Option Addr) (cap7:Nat) (gv:List Gu) (R7:List zj),k≤d.vars.length∧c=.int .i64 k∧zM 108 7 p7 k cap7 (gv.flatMap Gu.cells) R7∧Loc w wr ((b7,54,[.bool false,.slice p7 k cap7,.slice none 0 0])::(b6,54,[.bool false,.slice none 0 0,.slice none 0 0])::(b4,54,[.bool false,.slice yp e.vars.length yc,.slice yfp e.fields.length yfc])::(b3,54,[.bool false,.slice xp d.vars.length xc,.slice xfp d.fields.length xfc])::(R7)) [fun w=>zX w gv (yi f d.vars e.vars k)]) (fun c _=>d.vars.length - (intOf c).toNat)
  case atStart=>exact⟨0,none,0,[],[],Nat.zero_le _,rfl,zM.nil,hL.pure (fun w=>zX.nil w)⟩
  case round=>
   obtain⟨k,p7,cap7,gv,R7,hk,rfl,hS7,hL⟩:=hrel
   have HS7:=Lib.hid hS7
   clear hS7
   by_cases hlt:k<d.vars.length
   ·have hlt2:k<e.vars.length:=by have:=HFF.out.2;omega
    obtain rfl:=HPVX.out (by omega)
    obtain rfl:=HPVY.out (by omega)
    clear HPVX HPVY
    have hr1:=zg.agg (P:=Tryz.prog) zZ (HCVX.out k hlt).1 (HCVX.out k hlt).2 rfl
    have hr2:=zg.agg (P:=Tryz.prog) zZ (HCVY.out k hlt2).1 (HCVY.out k hlt2).2 rfl
    have hput:=HJV.out k hlt
    have hnx:=HVN.out k
    generalize hB:qB f (d.vars.getD k zy) (e.vars.getD k zy)=B at hput hnx
    have hml:y7 (d.vars.getD k zy).l (e.vars.getD k zy).l=B.l:=by rw[← hB]
    rw[hml]at hput
    clear hB hml
    generalize gx.getD k zT=s at hr1 hput
    generalize gy.getD k zT=t at hr2 hput
    obtain⟨dn,⟨ds',dlo,dhi⟩,dt,df,⟨sp,sc,scap⟩⟩:=s
    obtain⟨en,⟨es',elo,ehi⟩,et,ef,⟨tp,tc,tcap⟩⟩:=t
    obtain⟨Bn,⟨Bs,Blo,Bhi⟩,Bt,Bf,Bl⟩:=B
    dsimp only[Res.gu]at hr1 hr2 hput
    have HR1:=Lib.hid hr1
    have HR2:=Lib.hid hr2
    have HPK:=Lib.hid hput
    have HNX:=Lib.hid hnx
    clear hr1 hr2 hput hnx
    obtain⟨wq,hwq⟩:∃ x,x=wr:=⟨_,rfl⟩
    subst hwq
    go_upto_region 9 with(first|(with_reducible first|refine lld hL ?_|((first|refine lbx hL ?_|refine lal hL ?_|refine lbs hL ?_);clear hL;intro bl w1 hL)|(refine zd hL ?_;clear hL;intro w1 hL)))
    refine zf [25,26,27,28,29,30,31,32,33,34,35,36,37,38,39] ?_
    refine dv0 ?_
    refine dv1 0 ?_
    refine dv0 ?_
    refine dv1 2 ?_
    refine dv0 ?_
    refine dv2 3 4 ?_
    apply zb
    ·intro g w hb v;replace hL:=hL.grow hb;have d5:=yv v 5;clear v;simp only[za,fLa,fLb,sTa,sTb];simp only[d5]
     refine zo HR1.out hL rfl rfl ?_
     exact cY
    simp only[apN,apC]
    refine dv0 ?_
    refine dv1 7 ?_
    refine dv0 ?_
    refine dv2 8 9 ?_
    apply zb
    ·intro g w hb v;replace hL:=hL.grow hb;have d10:=yv v 10;clear v;simp only[za,fLa,fLb,sTa,sTb];simp only[d10]
     refine zo HR2.out hL rfl rfl ?_
     exact cY
    simp only[apN,apC]
    refine dv0 ?_
    refine zh (GuR wq.heap.size Bn ⟨Bs,Blo,Bhi⟩ Bt Bf Bl) GuR.stable ?_ ?_
    ·intro g w hb v;replace hL:=hL.grow hb;have d6:=yv v 6;have d11:=yv v 11;have d12:=yv v 12;clear v;simp only[za,fLa,fLb,sTa,sTb];simp only[d6,d11,d12]
     go_wp2_with (go_at_call 81;refine(HPK.out _ hL.below).mono ?_;rintro e w3 ⟨r,rfl,⟨R,hr,ho⟩,hb3⟩;dsimp only)
     exact⟨rfl,_,rfl,hb3,r,R,rfl,hr,ho.mono hb.size⟩
    simp only[apN,apC]
    refine zh (y5 wq.heap.size Bn ⟨Bs,Blo,Bhi⟩ Bt Bf Bl) y5.stable ?_ ?_
    ·intro g w hb v;replace hL:=hL.grow hb;have d13:(GuR wq.heap.size Bn ⟨Bs,Blo,Bhi⟩ Bt Bf Bl) (g 38) w:=yr v 13;obtain⟨q13,Q13,d13,hq13,hO13⟩:=d13;clear v;simp only[za,fLa,fLb,sTa,sTb];simp only[d13]
     go_wp2_with (fail)
     exact⟨rfl,_,rfl,(Below.refl _ _).alloc (Nat.le_refl _) _,q13,Q13,_,rfl,hq13,hO13.grow ((Below.refl _ _).alloc (Nat.le_refl _) _),zI _ _⟩
    simp only[apN,apC]
    refine zO hL (by kernel_rfl) (by kernel_rfl) ?_
    intro g w2 hb hR;simp only[List.length_cons,List.length_nil,Nat.reduceAdd]at hR
    have e0:=yv hR 0
    have e1:=yv hR 1
    have e2:=yv hR 2
    have e3:=yv hR 3
    have e4:=yv hR 4
    have e5:=yv hR 5
    have e6:=yv hR 6
    have e7:=yv hR 7
    have e8:=yv hR 8
    have e9:=yv hR 9
    have e10:=yv hR 10
    have e11:=yv hR 11
    have e12:=yv hR 12
    have e13:(GuR wq.heap.size Bn ⟨Bs,Blo,Bhi⟩ Bt Bf Bl) (g 38) w2:=yr hR 13
    obtain⟨q13,Q13,e13,-,-⟩:=e13
    have e14:(y5 wq.heap.size Bn ⟨Bs,Blo,Bhi⟩ Bt Bf Bl) (g 39) w2:=yr hR 14
    obtain⟨qf,Qf,bf,e14,hSf,hOf,hHf⟩:=e14
    clear hR;simp only[za,fLa,fLb,sTa,sTb]
    simp only[e0,e1,e2,e3,e4,e5,e6,e7,e8,e9,e10,e11,e12,e13,e14]
    clear e0 e1 e2 e3 e4 e5 e6 e7 e8 e9 e10 e11 e12 e13 e14
    replace hL:=hL.more hb (Q4 hSf hOf);clear hSf hOf
    clear hb
    go_wp2_with (first|(refine zz (z:=[.bool false,.bool false,.int .i64 0,.int .i64 0,.bool false,.bool false,.slice none 0 0]) (K:=(b7,_,_)::(b6,_,_)::(b4,_,_)::(b3,_,_)::[]) (R:=R7) (news:=Gu.cells ⟨Bn,⟨Bs,Blo,Bhi⟩,Bt,Bf,qf⟩) HS7.out hL rfl rfl rfl jO Z9 (by decide) rfl (fun _=>⟨⟨bf,0,none⟩,rfl,fun j u hj=>by rw[zH,Nat.zero_add];exact zF hHf j hj⟩) rfl (by simp[Value.oneCell']) (by have:maxLen=9223372036854775807:=rfl;omega) (by omega) ?_;clear hL;intro p4 cap4 R4 w4 hS4 hL;simp only[List.cons_append,List.nil_append]at hL)|(with_reducible first|refine lld hL ?_|((first|refine lbx hL ?_|refine lal hL ?_|refine lbs hL ?_);clear hL;intro bl w1 hL)|(refine zd hL ?_;clear hL;intro w1 hL)))
    go_roundw
    case rel=>
     refine⟨k+1,p4,cap4,gv++[⟨Bn,⟨Bs,Blo,Bhi⟩,Bt,Bf,qf⟩],R4,by omega,by go_num,by simpa using hS4,hL.both fun w h1 h2=>?_⟩
     rw[HNX.out]
     exact h2.append (zX.one (qq.mk' (d:=⟨Bn,⟨Bs,Blo,Bhi⟩,Bt,Bf,Bl⟩) h1))
    case measure=>simp[intOf];omega
   ·obtain rfl:k=d.vars.length:=by omega
    clear hlt
    go_wp2_with (first|(with_reducible first|refine lld hL ?_|((first|refine lbx hL ?_|refine lal hL ?_|refine lbs hL ?_);clear hL;intro bl w1 hL)|(refine zd hL ?_;clear hL;intro w1 hL)))
    go_meet
    case rel=>exact⟨p7,cap7,gv,R7,HS7.out,hL⟩
 clear hL
 obtain⟨vp,vc,gv,Rv,hSv,hL⟩:=hcut
 have HSV:=Lib.hid hSv
 clear hSv HJV HVN HCVX HCVY HPVX HPVY
 go_wp2_with (first|(with_reducible first|refine lld hL ?_|((first|refine lbx hL ?_|refine lal hL ?_|refine lbs hL ?_);clear hL;intro bl w1 hL)|(refine zd hL ?_;clear hL;intro w1 hL)))
 go_loopw [9] (fun c wr=>∃ (k:Nat) (hp:Option Addr) (hcap:Nat) (rs:List Sl) (gf:List (List Gu)) (Rh Rf:List zj),k≤d.fields.length∧c=.int .i64 k∧zM 51 1 hp k hcap (rs.flatMap Sl.row) Rh∧j9 rs gf Rf∧Loc w wr ((b7,54,[.bool false,.slice vp d.vars.length vc,.slice hp k hcap])::(b6,54,[.bool false,.slice none 0 0,.slice none 0 0])::(b4,54,[.bool false,.slice yp e.vars.length yc,.slice yfp e.fields.length yfc])::(b3,54,[.bool false,.slice xp d.vars.length xc,.slice xfp d.fields.length xfc])::(Rv++(Rf++Rh))) [fun w=>ju w gf (qG f d e k),fun w=>zX w gv (yi f d.vars e.vars d.vars.length)]) (fun c _=>d.fields.length - (intOf c).toNat)
 case atStart=>exact⟨0,none,0,[],[],[],[],Nat.zero_le _,rfl,zM.nil,.nil,(hL.conv (by simp)).pure (fun w=>by rw[HR0.out];exact ju.nil w)⟩
 case round=>
  obtain⟨k,hp,hcap,rs,gf,Rh,Rf,hk,rfl,hSh,hGf,hL⟩:=hrel
  have HSH:=Lib.hid hSh
  have HGF:=Lib.hid hGf
  clear hSh hGf
  by_cases hlt:k<d.fields.length
  ·obtain rfl:=HPX.out (by omega)
   obtain rfl:=HPY.out (by have:=HFF.out.1;omega)
   clear HPX HPY
   have hlt2:k<e.fields.length:=by have:=HFF.out.1;omega
   have hr1:=HCX.out k hlt
   have hr2:=HCY.out k hlt2
   rw[Nat.mul_one]at hr1 hr2
   obtain⟨hn1,g1,hg1,hl1⟩:=HRX.out k hlt
   obtain⟨hn2,g2,hg2,hl2⟩:=HRY.out k hlt2
   have hrw:=HROW.out k hlt
   have hr3:=H3.out k hlt
   have hnx:=HRAW.out k
   have hjr:=fun j (hj:j<(d.row k).length)=>HJR.out k j hlt hj
   obtain⟨b1,o1,hp1,hc1⟩:=hl1.ex
   obtain⟨b2,o2,hp2,hc2⟩:=hl2.ex
   have hbt:=fun j=>Z0 f (d.row k) (e.row k) j
   dsimp only[Pd.row,Pd.field]at hrw hr3 hnx hjr hbt
   generalize d.fields.getD k []=dr at hn1 hg1 hrw hr3 hnx hjr hbt
   generalize e.fields.getD k []=er at hn2 hg2 hrw hnx hjr hbt
   generalize rx k=s at hr1 hn1 hp1 hc1
   generalize ry k=t at hr2 hn2 hp2 hc2
   obtain⟨sp,sn,sc⟩:=s
   obtain⟨tp,tn,tc⟩:=t
   dsimp only[Sl.v]at hr1 hr2 hn1 hn2 hp1 hc1 hp2 hc2
   subst hn1 hn2
   have HR1:=Lib.hid hr1
   have HR2:=Lib.hid hr2
   have HG1:=Lib.hid hg1
   have HG2:=Lib.hid hg2
   have HP1:=Lib.hid hp1
   have HP2:=Lib.hid hp2
   have HC1:=Lib.hid hc1
   have HC2:=Lib.hid hc2
   have HRW:=Lib.hid hrw
   have HNX:=Lib.hid hnx
   have HJK:=Lib.hid hjr
   have HBT:=Lib.hid hbt
   have hr4:er.length≤3:=by omega
   clear hr1 hr2 hg1 hg2 hp1 hp2 hc1 hc2 hrw hnx hjr hl1 hl2 hbt
   go_wp2_with (first|(with_reducible first|refine lld hL ?_|((first|refine lbx hL ?_|refine lal hL ?_|refine lbs hL ?_);clear hL;intro bl w1 hL)|(refine zd hL ?_;clear hL;intro w1 hL)))
   go_loopw [10,11] (fun c10 c11 wr=>∃ (j:Nat) (p7:Option Addr) (cap7:Nat) (gl:List Gu) (R7:List zj),j≤dr.length∧c10=.slice p7 j cap7∧c11=.int .i64 j∧zM 108 7 p7 j cap7 (gl.flatMap Gu.cells) R7∧Loc w wr ((b7,54,[.bool false,.slice vp d.vars.length vc,.slice hp k hcap])::(b6,54,[.bool false,.slice none 0 0,.slice none 0 0])::(b4,54,[.bool false,.slice yp e.vars.length yc,.slice (some ⟨by',oy,none⟩) e.fields.length yfc])::(b3,54,[.bool false,.slice xp d.vars.length xc,.slice (some ⟨bx,ox,none⟩) d.fields.length xfc])::((Rv++(Rf++Rh))++R7)) [fun w=>zX w gl (yi f dr er j),fun w=>ju w gf (qG f d e k),fun w=>zX w gv (yi f d.vars e.vars d.vars.length)]) (fun _ c _=>dr.length - (intOf c).toNat)
   case atStart=>exact⟨0,none,0,[],[],Nat.zero_le _,rfl,rfl,zM.nil,(hL.conv (by simp)).pure (fun w=>zX.nil w)⟩
   case round=>
    obtain⟨j,p7,cap7,gl,R7,hj,rfl,rfl,hS7,hL⟩:=hrel
    have HS7:=Lib.hid hS7
    clear hS7
    by_cases hlt3:j<dr.length
    ·have hlt4:j<er.length:=by have:=HRW.out;omega
     obtain rfl:=HP1.out (by omega)
     obtain rfl:=HP2.out (by omega)
     clear HP1 HP2
     have hr1:=zg.agg (P:=Tryz.prog) zZ (HC1.out j hlt3).1 (HC1.out j hlt3).2 rfl
     have hr2:=zg.agg (P:=Tryz.prog) zZ (HC2.out j hlt4).1 (HC2.out j hlt4).2 rfl
     have hput:=HJK.out j hlt3 (g1.getD j zT) (g2.getD j zT) (HG1.out.at' j hlt3) (HG2.out.at' j hlt4)
     have hnx:=HBT.out j
     generalize hB:qB f (dr.getD j zy) (er.getD j zy)=B at hput hnx
     have hml:y7 (dr.getD j zy).l (er.getD j zy).l=B.l:=by rw[← hB]
     rw[hml]at hput
     clear hB hml
     generalize g1.getD j zT=s at hr1 hput
     generalize g2.getD j zT=t at hr2 hput
     obtain⟨dn,⟨ds',dlo,dhi⟩,dt,df,⟨sp,sc9,scap⟩⟩:=s
     obtain⟨en,⟨es',elo,ehi⟩,et,ef,⟨tp,tc9,tcap⟩⟩:=t
     obtain⟨Bn,⟨Bs,Blo,Bhi⟩,Bt,Bf,Bl⟩:=B
     dsimp only[Res.gu]at hr1 hr2 hput
     have HQ1:=Lib.hid hr1
     have HQ2:=Lib.hid hr2
     have HPK:=Lib.hid hput
     have HNX2:=Lib.hid hnx
     clear hr1 hr2 hput hnx
     obtain⟨wq,hwq⟩:∃ x,x=wr:=⟨_,rfl⟩
     subst hwq
     go_upto_region 15 with(first|(with_reducible first|refine lld hL ?_|((first|refine lbx hL ?_|refine lal hL ?_|refine lbs hL ?_);clear hL;intro bl w1 hL)|(refine zd hL ?_;clear hL;intro w1 hL)))
     go_upto_region 17 with(first|(with_reducible refine ldB HR1.out hL ?_)|(with_reducible first|refine lld hL ?_|((first|refine lbx hL ?_|refine lal hL ?_|refine lbs hL ?_);clear hL;intro bl w1 hL)|(refine zd hL ?_;clear hL;intro w1 hL)))
     refine zf [59,60,61,62,63,64,65,66,67,68,69,70,71,72,73,74,75,76,77,78] ?_
     refine dv0 ?_
     refine dv0 ?_
     refine dv1 1 ?_
     refine dv0 ?_
     refine dv2 2 3 ?_
     apply zb
     ·intro g w hb v;replace hL:=hL.grow hb;have d4:=yv v 4;clear v;simp only[za,fLa,fLb,sTa,sTb];simp only[d4]
      refine zo HR1.out hL rfl rfl ?_
      exact cY
     simp only[apN,apC]
     refine dv0 ?_
     refine dv2 5 6 ?_
     apply zb
     ·intro g w hb v;replace hL:=hL.grow hb;have d7:=yv v 7;clear v;simp only[za,fLa,fLb,sTa,sTb];simp only[d7]
      refine zo HQ1.out hL rfl rfl ?_
      exact cY
     simp only[apN,apC]
     refine dv0 ?_
     refine dv1 9 ?_
     refine dv0 ?_
     refine dv2 10 11 ?_
     apply zb
     ·intro g w hb v;replace hL:=hL.grow hb;have d12:=yv v 12;clear v;simp only[za,fLa,fLb,sTa,sTb];simp only[d12]
      refine zo HR2.out hL rfl rfl ?_
      exact cY
     simp only[apN,apC]
     refine dv0 ?_
     refine dv2 13 14 ?_
     apply zb
     ·intro g w hb v;replace hL:=hL.grow hb;have d15:=yv v 15;clear v;simp only[za,fLa,fLb,sTa,sTb];simp only[d15]
      refine zo HQ2.out hL rfl rfl ?_
      exact cY
     simp only[apN,apC]
     refine dv0 ?_
     refine zh (GuR wq.heap.size Bn ⟨Bs,Blo,Bhi⟩ Bt Bf Bl) GuR.stable ?_ ?_
     ·intro g w hb v;replace hL:=hL.grow hb;have d8:=yv v 8;have d16:=yv v 16;have d17:=yv v 17;clear v;simp only[za,fLa,fLb,sTa,sTb];simp only[d8,d16,d17]
      go_wp2_with (go_at_call 81;refine(HPK.out _ hL.below).mono ?_;rintro e w3 ⟨r,rfl,⟨R,hr,ho⟩,hb3⟩;dsimp only)
      exact⟨rfl,_,rfl,hb3,r,R,rfl,hr,ho.mono hb.size⟩
     simp only[apN,apC]
     refine zh (y5 wq.heap.size Bn ⟨Bs,Blo,Bhi⟩ Bt Bf Bl) y5.stable ?_ ?_
     ·intro g w hb v;replace hL:=hL.grow hb;have d18:(GuR wq.heap.size Bn ⟨Bs,Blo,Bhi⟩ Bt Bf Bl) (g 77) w:=yr v 18;obtain⟨q18,Q18,d18,hq18,hO18⟩:=d18;clear v;simp only[za,fLa,fLb,sTa,sTb];simp only[d18]
      go_wp2_with (fail)
      exact⟨rfl,_,rfl,(Below.refl _ _).alloc (Nat.le_refl _) _,q18,Q18,_,rfl,hq18,hO18.grow ((Below.refl _ _).alloc (Nat.le_refl _) _),zI _ _⟩
     simp only[apN,apC]
     refine zO hL (by kernel_rfl) (by kernel_rfl) ?_
     intro g w2 hb hR;simp only[List.length_cons,List.length_nil,Nat.reduceAdd]at hR
     have e0:=yv hR 0
     have e1:=yv hR 1
     have e2:=yv hR 2
     have e3:=yv hR 3
     have e4:=yv hR 4
     have e5:=yv hR 5
     have e6:=yv hR 6
     have e7:=yv hR 7
     have e8:=yv hR 8
     have e9:=yv hR 9
     have e10:=yv hR 10
     have e11:=yv hR 11
     have e12:=yv hR 12
     have e13:=yv hR 13
     have e14:=yv hR 14
     have e15:=yv hR 15
     have e16:=yv hR 16
     have e17:=yv hR 17
     have e18:(GuR wq.heap.size Bn ⟨Bs,Blo,Bhi⟩ Bt Bf Bl) (g 77) w2:=yr hR 18
     obtain⟨q18,Q18,e18,-,-⟩:=e18
     have e19:(y5 wq.heap.size Bn ⟨Bs,Blo,Bhi⟩ Bt Bf Bl) (g 78) w2:=yr hR 19
     obtain⟨qf,Qf,bf,e19,hSf,hOf,hHf⟩:=e19
     clear hR;simp only[za,fLa,fLb,sTa,sTb]
     simp only[e0,e1,e2,e3,e4,e5,e6,e7,e8,e9,e10,e11,e12,e13,e14,e15,e16,e17,e18,e19]
     clear e0 e1 e2 e3 e4 e5 e6 e7 e8 e9 e10 e11 e12 e13 e14 e15 e16 e17 e18 e19
     replace hL:=hL.more hb (Q4 hSf hOf);clear hSf hOf
     clear hb
     go_wp2_with (first|(refine zz (z:=[.bool false,.bool false,.int .i64 0,.int .i64 0,.bool false,.bool false,.slice none 0 0]) (K:=(b7,_,_)::(b6,_,_)::(b4,_,_)::(b3,_,_)::(Rv++(Rf++Rh))) (R:=R7) (news:=Gu.cells ⟨Bn,⟨Bs,Blo,Bhi⟩,Bt,Bf,qf⟩) HS7.out hL rfl rfl rfl jO Z9 (by decide) rfl (fun _=>⟨⟨bf,0,none⟩,rfl,fun j u hj=>by rw[zH,Nat.zero_add];exact zF hHf j hj⟩) rfl (by simp[Value.oneCell']) (by have:maxLen=9223372036854775807:=rfl;omega) (by omega) ?_;clear hL;intro p4 cap4 R4 w4 hS4 hL;simp only[List.cons_append,List.nil_append]at hL)|(with_reducible first|refine lld hL ?_|((first|refine lbx hL ?_|refine lal hL ?_|refine lbs hL ?_);clear hL;intro bl w1 hL)|(refine zd hL ?_;clear hL;intro w1 hL)))
     go_roundw
     case rel=>
      refine⟨j+1,p4,cap4,gl++[⟨Bn,⟨Bs,Blo,Bhi⟩,Bt,Bf,qf⟩],R4,by omega,rfl,by go_num,by simpa using hS4,hL.both fun w h1 h2=>?_⟩
      rw[HNX2.out]
      exact h2.append (zX.one (qq.mk' (d:=⟨Bn,⟨Bs,Blo,Bhi⟩,Bt,Bf,Bl⟩) h1))
     case measure=>simp[intOf];omega
    ·obtain rfl:j=dr.length:=by omega
     clear hlt3
     replace hL:=hL.perm (((((Z2 Rv Rf Rh R7).cons _).cons _).cons _).cons _)
     go_wp2_with (first|(with_reducible refine ldB HR1.out hL ?_)|(refine zz (z:=[.slice none 0 0]) (K:=(bl,_,_)::(b7,_,_)::(b6,_,_)::(b4,_,_)::(b3,_,_)::(Rv++(Rf++R7))) (R:=Rh) (news:=Sl.row ⟨p7,dr.length,cap7⟩) HSH.out hL (by simp only[List.cons_append,List.append_assoc];rfl) rfl rfl XJ zeG (by decide) rfl (fun _=>⟨⟨bl,0,none⟩,rfl,fun j u hj=>by rw[zH,Nat.zero_add];exact zF (hL.heap (b:=bl) cIn) j hj⟩) rfl (by simp[Value.oneCell']) (by have:maxLen=9223372036854775807:=rfl;omega) (by omega) ?_;clear hL;intro p4 cap4 R4 w4 hS4 hL;simp only[List.cons_append,List.append_assoc]at hL)|(with_reducible first|refine lld hL ?_|((first|refine lbx hL ?_|refine lal hL ?_|refine lbs hL ?_);clear hL;intro bl w1 hL)|(refine zd hL ?_;clear hL;intro w1 hL)))
     go_roundw
     case rel=>
      refine⟨k+1,p4,cap4,rs++[⟨p7,dr.length,cap7⟩],gf++[gl],R4,Rf++R7,by omega,by go_num,by simpa using hS4,HGF.out.snoc HS7.out,((hL.drop (List.sublist_cons_self _ _) (fun _ h=>h)).conv (by simp only[List.append_assoc])).both fun w h1 h2=>?_⟩
      rw[HNX.out]
      exact h2.snoc h1
     case measure=>simp[intOf];omega
  ·obtain rfl:k=d.fields.length:=by omega
   clear hlt
   go_wp2_with (first|(with_reducible first|refine lld hL ?_|((first|refine lbx hL ?_|refine lal hL ?_|refine lbs hL ?_);clear hL;intro bl w1 hL)|(refine zd hL ?_;clear hL;intro w1 hL)))
   (try simp only[Exit.inBlock,Exit.then]);refine rt1 ?_
   exact⟨⟨false,⟨vp,d.vars.length,vc⟩,⟨hp,d.fields.length,hcap⟩⟩,rfl,gv,gf,rs,Rv,Rh,Rf,by rw[HRN.out],⟨HSV.out,HSH.out,HGF.out⟩,(hL.both (U:=zS gv gf braw.vars braw.fields) fun w h1 h2=>⟨by rw[HRV.out];exact h2,by rw[HRF.out];exact h1⟩).drop (List.sublist_append_right [_,_,_,_] _) (fun _ h=>h)⟩
def zfO (wb w w' : World) (r:Pv) (d:Pd):Prop:=∃ S:zw,(∀ (w0:World) (L:List zj) (D:List zw),Loc w0 w L D→Loc w0 w' L (S::D))∧∀ w2,S w2→Below wb.heap.size wb w2→zN w2 r d
theorem zfO.old {wb w w' : World}{r:Pv}{d:Pd}(hx:zN wb r d) (hb:Below w.heap.size w w'):zfO wb w w' r d:=
 ⟨fun _=>True,fun _ _ _ h=>(h.grow hb).pure (fun _=>trivial),fun _ _ hb2=>hx.grow hb2⟩
def QL (f:zq→zq→zq) (d e:Pd):Pd:=if d.none=true then e else if e.none=true then d else qb f d e
theorem JQ {p:Pg}{is:Nat→Ins}{f:zq→zq→zq}{d e:Pd}(hp:zl p is=0) (h:qd p is d=0) (h' : qd p is e=0):yl f d e=QL f d e:=by
 unfold yl QL
 cases hd:d.none with
 | true=>
  cases he:e.none with
  | true=>rw[qk.none h' he];rfl
  | false=>
   rw[Qm (qk.of h' hp he) he]
   simp
 | false=>
  cases he:e.none with
  | true=>
   rw[Qm (qk.of h hp hd) hd]
   simp
  | false=>simp
end Go.Proofs.YtplcndmdkabmeaaGreatDoor
