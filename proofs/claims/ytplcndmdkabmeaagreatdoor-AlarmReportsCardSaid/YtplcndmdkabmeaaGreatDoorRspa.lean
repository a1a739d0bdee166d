/- The walk over the reference's CopyPicture. Conditions: few guesses, few sites. | The walk over the reference's StepPicture, kind by kind: where nothing comes, or all goes on. Conditions: the picture is right and of runs; the instruction is right. | The walk over the reference's StepPicture, kind by kind: the plain ones. Conditions: the picture is right and of runs; the instruction is right. -/
import Derived.Test.YtplcndmdkabmeaaGreatDoorPicc
import Derived.Test.YtplcndmdkabmeaaGreatDoorStpc
import Derived.Test.YtplcndmdkabmeaaGreatDoorPil
set_option linter.unusedSimpArgs false
set_option linter.unusedVariables false
set_option maxRecDepth 100000
set_option maxHeartbeats 4000000
namespace Go.Proofs.YtplcndmdkabmeaaGreatDoor
open Go.RowKit
theorem Xj (g:Gu) (d:Res) (w:World) (hg:qq w g d) (hlen:d.l.length≤1000):
  Calls Tryz.prog 53 #[g.v] w fun e w'=>∃ r:Sl,e=.returned ((d.gu r).v)∧Q7 w.heap.size w' r d.l∧Below w.heap.size w w':=by
 have hl:=hg.l
 have hn:=hl.n
 have he:=hg.e
 obtain⟨nl,⟨sn,slo,shi⟩,tr,fa,⟨sp,sc,scap⟩⟩:=g
 obtain⟨dn,⟨dsn,dlo,dhi⟩,dt,df,dl⟩:=d
 simp only[Res.gu,Gu.mk.injEq,zq.mk.injEq,and_true]at he
 obtain⟨rfl,⟨rfl,rfl,rfl⟩,rfl,rfl⟩:=he
 dsimp only at hl hn hlen
 subst hn
 obtain⟨b,o,hp,hc⟩:=hl.at'.ex
 have HS:=Lib.hid (fun (w' : World) (hb:Below w.heap.size w w') (h0:0<dl.length)=>show ∃ ad,sp=some ad∧∀ j u,(dl.map (Value.int .i64))[j]? = some u→w'.cell? (ad.add j)=some u from ⟨⟨b,o,none⟩,hp h0,fun j u hj=>by
  rw[zH]
  obtain⟨hj1,hj2⟩:=List.getElem?_eq_some_iff.1 hj
  have hj3:j<dl.length:=by simpa using hj1
  obtain⟨h1,h2⟩:=hc j hj3
  rw[hb.cell (p:=⟨b,o+j,none⟩) h1]
  have h3:=h2 0 (.int .i64 (dl.getD j 0)) rfl
  simp only[Nat.add_zero,Nat.mul_one]at h3
  rw[h3]
  rw[← hj2]
  simp[List.getD_eq_getElem?_getD,List.getElem?_eq_getElem hj3]⟩)
 have H1:=Lib.hid (show ∀ u∈dl.map (Value.int .i64),u.oneCell'=true from fun u hu=>by obtain⟨x,_,rfl⟩:=List.mem_map.1 hu;rfl)
 clear hl hp hc hg
 have hL:=Loc.start w
 go_enter Tryz.func53,Tryz.ntmps53
 go_wp2_with (first|(refine zaW hL rfl Qr ?_;clear hL;intro p0 w1 hL)|(refine zz (z:=[.int .i64 0]) (K:=_::_::[]) (R:=[]) (xs:=[]) (news:=dl.map (Value.int .i64)) (zM.nil) hL rfl rfl rfl Qr Z8 (by decide) rfl (fun h0=>HS.out _ hL.below h0) (by simp) H1.out (by have:maxLen=9223372036854775807:=rfl;omega) (by omega) ?_;clear hL;intro p4 cap4 R4 w4 hS4 hL;simp only[List.cons_append,List.nil_append]at hL)|(with_reducible first|refine lld hL ?_|((first|refine lbx hL ?_|refine lal hL ?_);clear hL;intro bl w1 hL)|(refine zd hL ?_;clear hL;intro w1 hL)))
 refine rt1 ?_
 exact⟨⟨p4,dl.length,cap4⟩,rfl,⟨R4,by simpa using hS4,hL.ownOf (List.sublist_append_right [_,_] _)⟩,hL.below⟩
abbrev zb7 : List Value:=[.bool false,.bool false,.int .i64 0,.int .i64 0,.bool false,.bool false,.slice none 0 0]
theorem qR (x:Pv) (d:Pd) (w:World) (hx:zN w x d) (hd:yE d):
  Calls Tryz.prog 20 #[x.v] w fun q w'=>∃ r:Pv,q=.returned r.v∧QX w w' r d:=by
 obtain⟨gx,hgx,hgxl⟩:=hx.vars.gus
 have HCV:=Lib.hid (fun k (hk:k<d.vars.length) w' (hb:Below w.heap.size w w')=>Xj (gx.getD k zT) (d.var k) w' ((hgx.at' k hk).grow hb) (hd.sites k hk))
 obtain⟨bvx,ovx,hpvx,hcvx⟩:=hgxl.ex
 obtain⟨rx,hrx,hrx2⟩:=hx.fields.ex
 have hnx:=hx.fields.n
 have hvx:=hx.vars.n
 rw[hnx]at hrx hrx2
 have HRX:=Lib.hid (fun k (hk:k<d.fields.length)=>And.intro (hrx2 k hk).n (hrx2 k hk).gus)
 have HCR:=Lib.hid (fun k j (hk:k<d.fields.length) (hj:j<(d.row k).length) (g:Gu) (hg:qq w g (d.field k j)) w' (hb:Below w.heap.size w w')=>Xj g (d.field k j) w' (hg.grow hb) (hd.rsites k j hk hj))
 obtain⟨bx,ox,hpx,hcx⟩:=(QG hrx).ex
 have hxn:=hx.e
 have h1000:=hd.vars
 have h1001:=hd.fields
 have H3:=Lib.hid (fun k (hk:k<d.fields.length)=>hd.rows k hk)
 have HVN:=Lib.hid (fun k (hk:k<d.vars.length)=>QC d.vars k zy hk)
 have HFN:=Lib.hid (fun k (hk:k<d.fields.length)=>QC d.fields k [] hk)
 obtain⟨xn,⟨xp,xvn,xc⟩,⟨xfp,xfn,xfc⟩⟩:=x
 dsimp only at hnx hpx hcx hxn hpvx hcvx hvx
 subst hxn hnx hvx
 have HPX:=Lib.hid hpx
 have HCX:=Lib.hid hcx
 have HPVX:=Lib.hid hpvx
 have HCVX:=Lib.hid hcvx
 clear hx hd hrx hrx2 hpx hcx hgx hgxl hpvx hcvx
 have hL:=Loc.start w
 go_enter Tryz.func20,Tryz.ntmps20
 go_step
 go_step
 go_step
 ((with_reducible refine lbx hL ?_);clear hL;intro b1 w1 hL)
 ((with_reducible refine lal hL ?_);clear hL;intro b2 w1 hL)
 go_upto_region 2 with(first|((with_reducible refine lal hL ?_);clear hL;intro b7 w1 hL)|(with_reducible first|refine lld hL ?_|(refine zd hL ?_;clear hL;intro w1 hL)))
 go_wp2
 go_loopw [5] (fun c wr=>∃ (k:Nat) (p7:Option Addr) (cap7:Nat) (gv:List Gu) (R7:List zj),k≤d.vars.length∧c=.int .i64 k∧zM 108 7 p7 k cap7 (gv.flatMap Gu.cells) R7∧Loc w wr ((b7,54,[.bool d.none,.slice p7 k cap7,.slice none 0 0])::(b2,54,[.bool false,.slice none 0 0,.slice none 0 0])::(b1,54,[.bool d.none,.slice xp d.vars.length xc,.slice xfp d.fields.length xfc])::R7) [fun w=>zX w gv (d.vars.take k)]) (fun c _=>d.vars.length - (intOf c).toNat)
 case atStart=>exact⟨0,none,0,[],[],Nat.zero_le _,rfl,zM.nil,hL.pure (fun w=>zX.nil w)⟩
 case round=>
  obtain⟨k,p7,cap7,gv,R7,hk,rfl,hS7,hL⟩:=hrel
  have HS7:=Lib.hid hS7
  clear hS7
  by_cases hlt:k<d.vars.length
  ·have hpp:=HPVX.out (by omega)
   subst hpp
   clear HPVX
   have hr1:=zg.agg (P:=Tryz.prog) zZ (HCVX.out k hlt).1 (HCVX.out k hlt).2 rfl
   have hput:=HCV.out k hlt
   have hnx:=HVN.out k hlt
   dsimp only[Pd.var]at hput
   generalize gx.getD k zT=s at hr1 hput
   generalize d.vars.getD k zy=B at hput hnx
   obtain⟨dn,⟨ds',dlo,dhi⟩,dt,df,⟨sp,sc,scap⟩⟩:=s
   obtain⟨Bn,⟨Bs,Blo,Bhi⟩,Bt,Bf,Bl⟩:=B
   dsimp only[Res.gu]at hr1 hput
   have HR1:=Lib.hid hr1
   have HPK:=Lib.hid hput
   have HNX:=Lib.hid hnx
   clear hr1 hput hnx
   obtain⟨wq,hwq⟩:∃ x,x=wr:=⟨_,rfl⟩
   subst hwq
   go_upto_region 6 with(first|(with_reducible refine lld hL ?_))
   refine zf [19,20,21,22,23,24,25,26,27,28] ?_
   refine dv0 ?_
   refine dv1 0 ?_
   refine dv0 ?_
   refine dv0 ?_
   refine dv1 3 ?_
   refine dv0 ?_
   refine dv2 4 5 ?_
   apply zb
   ·intro g w hb y;replace hL:=hL.grow hb;have d6:=yv y 6;clear y;simp only[za,fLa,fLb,sTa,sTb];simp only[d6]
    refine zo HR1.out hL rfl rfl ?_
    exact cY
   simp only[apN,apC]
   refine zh (GuR wq.heap.size Bn ⟨Bs,Blo,Bhi⟩ Bt Bf Bl) GuR.stable ?_ ?_
   ·intro g w hb y;replace hL:=hL.grow hb;have d2:=yv y 2;have d7:=yv y 7;clear y;simp only[za,fLa,fLb,sTa,sTb];simp only[d2,d7]
    go_wp2_with ((with_reducible refine(HPK.out _ hL.below).mono ?_);rintro e w3 ⟨r,rfl,⟨R,hr,ho⟩,hb3⟩;dsimp only)
    exact⟨rfl,_,rfl,hb3,r,R,rfl,hr,ho.mono hb.size⟩
   simp only[apN,apC]
   refine zh (y5 wq.heap.size Bn ⟨Bs,Blo,Bhi⟩ Bt Bf Bl) y5.stable ?_ ?_
   ·intro g w hb y;replace hL:=hL.grow hb;have d8:(GuR wq.heap.size Bn ⟨Bs,Blo,Bhi⟩ Bt Bf Bl) (g 27) w:=yr y 8;obtain⟨q8,Q8,d8,hq8,hO8⟩:=d8;clear y;simp only[za,fLa,fLb,sTa,sTb];simp only[d8]
    go_wp2_with (fail)
    exact⟨rfl,_,rfl,(Below.refl _ _).alloc (Nat.le_refl _) _,q8,Q8,_,rfl,hq8,hO8.grow ((Below.refl _ _).alloc (Nat.le_refl _) _),zI _ _⟩
   simp only[apN,apC]
   refine zO hL (by kernel_rfl) (by kernel_rfl) ?_
   intro g w2 hb hR;simp only[List.length_cons,List.length_nil,Nat.reduceAdd]at hR
   have e0:=yv hR 0
   have e1:=yv hR 1
   have e2:=yv hR 2
   have e3:=yv hR 3
   have e4:=yv hR 4
   have e5:=yv hR 5
   have e6:=yv hR 6
   have e7:=yv hR 7
   have e8:(GuR wq.heap.size Bn ⟨Bs,Blo,Bhi⟩ Bt Bf Bl) (g 27) w2:=yr hR 8
   obtain⟨q8,Q8,e8,-,-⟩:=e8
   have e9:(y5 wq.heap.size Bn ⟨Bs,Blo,Bhi⟩ Bt Bf Bl) (g 28) w2:=yr hR 9
   obtain⟨qf,Qf,bf,e9,hSf,hOf,hHf⟩:=e9
   clear hR;simp only[za,fLa,fLb,sTa,sTb]
   simp only[e0,e1,e2,e3,e4,e5,e6,e7,e8,e9]
   clear e0 e1 e2 e3 e4 e5 e6 e7 e8 e9
   replace hL:=hL.more hb (Q4 hSf hOf);clear hSf hOf
   clear hb
   go_wp2_with (first|(refine zz (z:=zb7) (K:=(b7,_,_)::(b2,_,_)::(b1,_,_)::[]) (R:=R7) (news:=Gu.cells ⟨Bn,⟨Bs,Blo,Bhi⟩,Bt,Bf,qf⟩) HS7.out hL rfl rfl rfl jO Z9 (by decide) rfl (fun _=>⟨⟨bf,0,none⟩,rfl,fun j u hj=>by rw[zH,Nat.zero_add];exact zF hHf j hj⟩) rfl (by simp[Value.oneCell']) (by have:maxLen=9223372036854775807:=rfl;omega) (by omega) ?_;clear hL;intro p4 cap4 R4 w4 hS4 hL;simp only[List.cons_append,List.nil_append]at hL)|(with_reducible refine zd hL ?_;clear hL;intro w1 hL))
   go_roundw
   case rel=>
    refine⟨k+1,p4,cap4,gv++[⟨Bn,⟨Bs,Blo,Bhi⟩,Bt,Bf,qf⟩],R4,by omega,by go_num,by simpa using hS4,hL.both fun w h1 h2=>?_⟩
    rw[HNX.out]
    exact h2.append (zX.one (qq.mk' (d:=⟨Bn,⟨Bs,Blo,Bhi⟩,Bt,Bf,Bl⟩) h1))
   case measure=>simp[intOf];omega
  ·obtain rfl:k=d.vars.length:=by omega
   clear hlt
   rw[List.take_length]at hL
   go_wp2_with (first|(with_reducible refine lld hL ?_))
   go_loopw [6] (fun c wr=>∃ (k:Nat) (hp:Option Addr) (hcap:Nat) (rs:List Sl) (gf:List (List Gu)) (Rh Rf:List zj),k≤d.fields.length∧c=.int .i64 k∧zM 51 1 hp k hcap (rs.flatMap Sl.row) Rh∧j9 rs gf Rf∧Loc w wr ((b7,54,[.bool d.none,.slice p7 d.vars.length cap7,.slice hp k hcap])::(b2,54,[.bool false,.slice none 0 0,.slice none 0 0])::(b1,54,[.bool d.none,.slice xp d.vars.length xc,.slice xfp d.fields.length xfc])::(R7++(Rf++Rh))) [fun w=>ju w gf (d.fields.take k),fun w=>zX w gv d.vars]) (fun c _=>d.fields.length - (intOf c).toNat)
   case atStart=>exact⟨0,none,0,[],[],[],[],Nat.zero_le _,rfl,zM.nil,.nil,(hL.conv (by simp)).pure (fun w=>ju.nil w)⟩
   case round=>
    obtain⟨k,hp,hcap,rs,gf,Rh,Rf,hk,rfl,hSh,hGf,hL⟩:=hrel
    have HSH:=Lib.hid hSh
    have HGF:=Lib.hid hGf
    clear hSh hGf
    by_cases hlt:k<d.fields.length
    ·have hpp:=HPX.out (by omega)
     subst hpp
     clear HPX
     have hr1:=HCX.out k hlt
     rw[Nat.mul_one]at hr1
     obtain⟨hn1,g1,hg1,hl1⟩:=HRX.out k hlt
     have hr3:=H3.out k hlt
     have hnx:=HFN.out k hlt
     have hjr:=fun j (hj:j<(d.row k).length)=>HCR.out k j hlt hj
     obtain⟨b3,o3,hp1,hc1⟩:=hl1.ex
     dsimp only[Pd.row,Pd.field]at hr3 hnx hjr
     generalize d.fields.getD k []=dr at hn1 hg1 hr3 hnx hjr
     generalize rx k=s at hr1 hn1 hp1 hc1
     obtain⟨sp,sn,sc⟩:=s
     dsimp only[Sl.v]at hr1 hn1 hp1 hc1
     subst hn1
     have hjn:=fun j (hj:j<dr.length)=>QC dr j zy hj
     have HR1:=Lib.hid hr1
     have HG1:=Lib.hid hg1
     have HP1:=Lib.hid hp1
     have HC1:=Lib.hid hc1
     have HNX:=Lib.hid hnx
     have HJK:=Lib.hid hjr
     have HJN:=Lib.hid hjn
     clear hr1 hg1 hp1 hc1 hnx hjr hl1 hjn
     go_wp2_with (first|(with_reducible refine lld hL ?_))
     go_loopw [7,8] (fun c10 c11 wr=>∃ (j:Nat) (p8:Option Addr) (cap8:Nat) (gl:List Gu) (R8:List zj),j≤dr.length∧c10=.slice p8 j cap8∧c11=.int .i64 j∧zM 108 7 p8 j cap8 (gl.flatMap Gu.cells) R8∧Loc w wr ((b7,54,[.bool d.none,.slice p7 d.vars.length cap7,.slice hp k hcap])::(b2,54,[.bool false,.slice none 0 0,.slice none 0 0])::(b1,54,[.bool d.none,.slice xp d.vars.length xc,.slice (some ⟨bx,ox,none⟩) d.fields.length xfc])::((R7++(Rf++Rh))++R8)) [fun w=>zX w gl (dr.take j),fun w=>ju w gf (d.fields.take k),fun w=>zX w gv d.vars]) (fun _ c _=>dr.length - (intOf c).toNat)
     case atStart=>exact⟨0,none,0,[],[],Nat.zero_le _,rfl,rfl,zM.nil,(hL.conv (by simp)).pure (fun w=>zX.nil w)⟩
     case round=>
      obtain⟨j,p8,cap8,gl,R8,hj,rfl,rfl,hS8,hL⟩:=hrel
      have HS8:=Lib.hid hS8
      clear hS8
      by_cases hlt3:j<dr.length
      ·have hpp:=HP1.out (by omega)
       subst hpp
       clear HP1
       have hr2:=zg.agg (P:=Tryz.prog) zZ (HC1.out j hlt3).1 (HC1.out j hlt3).2 rfl
       have hput:=HJK.out j hlt3 (g1.getD j zT) (HG1.out.at' j hlt3)
       have hnx:=HJN.out j hlt3
       generalize dr.getD j zy=B at hput hnx
       generalize g1.getD j zT=s at hr2 hput
       obtain⟨dn,⟨ds',dlo,dhi⟩,dt,df,⟨tp,tc9,tcap⟩⟩:=s
       obtain⟨Bn,⟨Bs,Blo,Bhi⟩,Bt,Bf,Bl⟩:=B
       dsimp only[Res.gu]at hr2 hput
       have HQ1:=Lib.hid hr2
       have HPK:=Lib.hid hput
       have HNX2:=Lib.hid hnx
       clear hr2 hput hnx
       go_wp2_with (first|(with_reducible refine ldB HR1.out hL ?_)|(with_reducible refine ldB HQ1.out hL ?_)|((with_reducible refine lbs hL ?_);clear hL;intro b9 w1 hL)|((with_reducible refine(HPK.out _ hL.below).mono ?_);rintro e w3 ⟨⟨r1,r2,r3⟩,rfl,⟨R,hr,ho⟩,hb3⟩;replace hL:=hL.more hb3 (Q4 hr ho);clear hr ho hb3;dsimp only)|(refine zz (z:=zb7) (K:=(b9,_,_)::(b7,_,_)::(b2,_,_)::(b1,_,_)::(R7++(Rf++Rh))) (R:=R8) (news:=Gu.cells ⟨Bn,⟨Bs,Blo,Bhi⟩,Bt,Bf,⟨r1,r2,r3⟩⟩) HS8.out hL (by simp only[List.cons_append,List.append_assoc];rfl) rfl rfl jO Z9 (by decide) rfl (fun _=>⟨⟨b9,0,none⟩,rfl,fun j u hj=>by rw[zH,Nat.zero_add];exact zF (hL.heap (b:=b9) cIn) j hj⟩) rfl (by simp[Value.oneCell']) (by have:maxLen=9223372036854775807:=rfl;omega) (by omega) ?_;clear hL;intro p4 cap4 R4 w4 hS4 hL;simp only[List.cons_append,List.nil_append]at hL)|(with_reducible refine lld hL ?_))
       go_roundw
       case rel=>
        refine⟨j+1,p4,cap4,gl++[⟨Bn,⟨Bs,Blo,Bhi⟩,Bt,Bf,⟨r1,r2,r3⟩⟩],R4,by omega,rfl,by go_num,by simpa using hS4,(hL.drop (.cons _ (List.Sublist.refl _)) (fun _ h=>h)).both fun w h1 h2=>?_⟩
        rw[HNX2.out]
        exact h2.append (zX.one (qq.mk' (d:=⟨Bn,⟨Bs,Blo,Bhi⟩,Bt,Bf,Bl⟩) h1))
       case measure=>simp[intOf];omega
      ·obtain rfl:j=dr.length:=by omega
       clear hlt3
       rw[List.take_length]at hL
       replace hL:=hL.perm ((((Z2 R7 Rf Rh R8).cons _).cons _).cons _)
       go_wp2_with (first|((with_reducible refine lbs hL ?_);clear hL;intro b9 w1 hL)|(with_reducible refine ldB HR1.out hL ?_)|(refine zz (z:=[.slice none 0 0]) (K:=(b9,_,_)::(b7,_,_)::(b2,_,_)::(b1,_,_)::(R7++(Rf++R8))) (R:=Rh) (news:=Sl.row ⟨p8,dr.length,cap8⟩) HSH.out hL (by simp only[List.cons_append,List.append_assoc];rfl) rfl rfl XJ zeG (by decide) rfl (fun _=>⟨⟨b9,0,none⟩,rfl,fun j u hj=>by rw[zH,Nat.zero_add];exact zF (hL.heap (b:=b9) cIn) j hj⟩) rfl (by simp[Value.oneCell']) (by have:maxLen=9223372036854775807:=rfl;omega) (by omega) ?_;clear hL;intro p4 cap4 R4 w4 hS4 hL;simp only[List.cons_append,List.append_assoc]at hL)|(with_reducible first|refine lld hL ?_|(refine zd hL ?_;clear hL;intro w1 hL)))
       go_roundw
       case rel=>
        refine⟨k+1,p4,cap4,rs++[⟨p8,dr.length,cap8⟩],gf++[gl],R4,Rf++R8,by omega,by go_num,by simpa using hS4,HGF.out.snoc HS8.out,((hL.drop (.cons _ (List.Sublist.refl _)) (fun _ h=>h)).conv (by simp only[List.append_assoc])).both fun w h1 h2=>?_⟩
        rw[HNX.out]
        exact h2.snoc h1
       case measure=>simp[intOf];omega
    ·obtain rfl:k=d.fields.length:=by omega
     clear hlt
     rw[List.take_length]at hL
     go_wp2_with (first|(with_reducible first|refine lld hL ?_|(refine zd hL ?_;clear hL;intro w1 hL)))
     refine rt1 ?_
     exact⟨⟨d.none,⟨p7,d.vars.length,cap7⟩,⟨hp,d.fields.length,hcap⟩⟩,rfl,gv,gf,rs,R7,Rh,Rf,rfl,⟨HS7.out,HSH.out,HGF.out⟩,(hL.both (U:=zS gv gf d.vars d.fields) fun w h1 h2=>⟨h2,h1⟩).drop (List.sublist_append_right [_,_,_] _) (fun _ h=>h)⟩
def Q2 (w w' : World) (C:zw) (s:Sl) (es:List (Int × Pd)):Prop:=Loc w w' [] [fun w=>C w→y9 w s es]
theorem Q2.nil {w w' : World}{C:zw}(hb:Below w.heap.size w w'):Q2 w w' C zn []:=((Loc.start w).grow hb).pure (fun w _=>y9.nil w)
structure J6 (w:World) (x:Pv) (d:Pd) (gx:List Gu):Prop where
 d:zX w gx d.vars
 l:je w 7 x.vars.p x.vars.n (fun k=>Gu.cells (gx.getD k zT))
def jj (p:Pg) (at' : Nat) (x:Pv) (d:Pd) (gx:List Gu) (o:Y0) (w:World):Prop:=
 Calls Tryz.prog 40 #[p.v,.int .i64 at',x.v] w fun e w'=>∃ s:Sl,e=.returned (.tuple #[.slice s.p s.n s.cap,.bool o.wr,.bool o.fl])∧Q2 w w' (fun w=>zX w gx d.vars) s o.es
theorem Loc.edge1 {w0 w:World}{K:List zj}{D:List zw}{C:zw}{be:Nat}{go:Int}{r:Pv}{gv:List Gu}{gf:List (List Gu)}{rs:List Sl}{Rv Rh Rf:List zj}{d:Pd}
  (h:Loc w0 w (K++((be,75,EdV.cells ⟨go,r⟩)::(Rv++(Rf++Rh)))) ((fun w=>C w→zS gv gf d.vars d.fields w)::D)) (hO:Ge r gv gf rs Rv Rh Rf) (he:r.none=d.none) (hm:d.vars.length+d.fields.length≤9223372036854775807):Q2 w0 w C ⟨some ⟨be,0,none⟩,1,1⟩ [(go,d)]:=by
 refine(h.facts (S:=fun w=>C w→y9 w ⟨some ⟨be,0,none⟩,1,1⟩ [(go,d)]) (fun w' hr ht hc=>?_)).drop (List.nil_sublist _) (fun S hS=>by rw[List.mem_singleton.1 hS];exact List.mem_cons_self)
 have hn:=((List.sublist_append_right K ((be,75,EdV.cells ⟨go,r⟩)::(Rv++(Rf++Rh)))).map (fun e:zj=>e.1)).nodup h.nodup
 have hown:Own w0.heap.size w' (Rv++(Rf++Rh)):=⟨(List.nodup_cons.1 hn).2,fun e he=>⟨h.ids e (List.mem_append_right _ (List.mem_cons_of_mem _ he)),hr e (List.mem_cons_of_mem _ he)⟩⟩
 have hp:zN w' r d:=hO.is hown (ht hc) he hm
 have hb:w'.heap[be]? = some (.cells (EdV.cells ⟨go,r⟩).toArray 75 (0,0)):=hr _ List.mem_cons_self
 refine⟨rfl,(show (1:Nat)≤9223372036854775807 by decide),[⟨go,r⟩],(ym.nil w').snoc hp,be,0,fun _=>rfl,fun k hk=>⟨zL hb,fun j v hj=>?_⟩⟩
 obtain rfl:k=0:=by
  have:k<1:=hk
  omega
 have e:w'.cell? ⟨be,0+0*4+j,none⟩=(EdV.cells ⟨go,r⟩)[j]? :=by simp[World.cell?,hb]
 rw[e];exact hj
theorem zf0 (p:Pg) (is:Nat→Ins) (i:Ins) (x:Pv) (d:Pd) (gx:List Gu) (at' : Nat) (w:World) (hp:zl p is=0) (hc:qc w p is) (hx:zN w x d) (hgx:J6 w x d gx) (ok:jh p is d) (hat:at' < p.n) (hi:is at'=i) (hk:i.kind=19):jj p at' x d gx (zU i at' d) w:=by
 have hs:=(zx hp).1
 have hk6:=hs.n1
 have hone:=(zx hp).2 at' hat
 rw[hi]at hone
 have hr:=qN hone
 have hf:=jL hone
 have hd:=qw.of ok hp
 have hfew:=yE.of hd.r hs
 have HCP:=Lib.hid (fun w' (hb:Below w.heap.size w w')=>qR x d w' (hx.grow hb) hfew)
 have hpm:d.vars.length+d.fields.length≤9223372036854775807:=(qS.of ok hp hx).m
 have HPM:=Lib.hid hpm
 obtain⟨bc,oc,hpc,hcr⟩:=hc
 have hpc2:=hpc (by omega)
 have hI1:=zg.agg (P:=Tryz.prog) jE (hcr at' hat).1 (fun j v hj=>(hcr at' hat).2 j v hj) rfl
 rw[hi]at hI1
 have HI:=Lib.hid (show zg Tryz.prog 86 w bc (oc+at' * 6) (Ins.v i) from hI1)
 have hxe:=hx.e
 have hdn:=ok.none
 rw[hdn]at hxe
 have hvn:=hx.vars.n
 have hvm:=hx.vars.m
 rw[show zU i at' d=⟨[],false,false⟩ by unfold zU;rw[if_neg (by omega),if_neg (by omega),if_neg (by omega),if_neg (by omega),if_neg (by omega),if_neg (by omega),if_neg (by omega),if_neg (by omega),if_pos hk]]
 have HN0:=Lib.hid hdn
 clear hx hgx hp hr hf hd hs hone hfew hpc hcr hI1 hi hdn hpm ok
 unfold jj
 obtain⟨ik,ito,ia,ib,inn,ig⟩:=i
 obtain⟨xn,⟨xp,xvn,xc⟩,⟨xfp,xfn,xfc⟩⟩:=x
 obtain⟨pv,pf,pc,pn,pcap⟩:=p
 dsimp only at hk hpc2 hk6 hat hxe hvn hvm
 subst hk hpc2 hxe hvn
 have hna:nA 19=false:=by decide
 have hnb:nB 19=false:=by decide
 have hL:=Loc.start w
 go_enter Tryz.func40,Tryz.ntmps40
 go_step
 go_step
 go_step
 ((with_reducible refine lbx hL ?_);clear hL;intro b3 w1 hL)
 ((with_reducible refine lbx hL ?_);clear hL;intro b5 w1 hL)
 go_upto_region 4 with(first|(with_reducible refine ldB HI.out hL ?_)|((with_reducible refine lal hL ?_);clear hL;intro b9 w1 hL)|(with_reducible first|refine lld hL ?_|(refine zd hL ?_;clear hL;intro w1 hL)))
 go_upto_region 5 with(first|(go_at_call 20;refine(HCP.out _ hL.below).mono ?_;rintro q w3 ⟨⟨rn,⟨vp,vn,vc⟩,⟨fp,fn,fc⟩⟩,rfl,gv,gf,rs,Rv,Rh,Rf,hrn,hO,hl3⟩;replace hL:=hL.gave hl3;simp only[List.cons_append,List.nil_append]at hL;clear hl3;dsimp only)|((with_reducible refine lal hL ?_);clear hL;intro b10 w1 hL)|(with_reducible first|refine lld hL ?_|(refine zd hL ?_;clear hL;intro w1 hL)))
 have hrn2:rn=false:=by rw[show rn=d.none from hrn];exact HN0.out
 subst hrn2
 clear hrn
 go_upto_region 6 with(first|((with_reducible refine lbs hL ?_);clear hL;intro be w1 hL)|(with_reducible refine lld hL ?_))
 go_upto_region 7 with(first|(go_at_call 78;refine(zt _).mono ?_;rintro e w1 ⟨rfl,hb⟩;replace hL:=hL.grow hb;clear hb;dsimp only)|((with_reducible refine lal hL ?_);clear hL;first|(have hq12:b12=b12:=rfl;clear hq12;intro b13 w1 hL)|intro b12 w1 hL)|(with_reducible refine zd hL ?_;clear hL;intro w1 hL))
 go_upto_region 13 with(first|(go_at_call 74;refine(qe _ _).mono ?_;rintro e w1 ⟨rfl,hb⟩;replace hL:=hL.grow hb;clear hb;dsimp only)|(go_at_call 75;refine(qg _ _).mono ?_;rintro e w1 ⟨rfl,hb⟩;replace hL:=hL.grow hb;clear hb;dsimp only)|(go_at_call 78;refine(zt _).mono ?_;rintro e w1 ⟨rfl,hb⟩;replace hL:=hL.grow hb;clear hb;dsimp only)|((with_reducible refine lal hL ?_);clear hL;intro b14 w1 hL)|(with_reducible first|refine lld hL ?_|(refine zd hL ?_;clear hL;intro w1 hL)))
 go_wp2_with (first|(with_reducible refine lld hL ?_))
 refine rt3 ?_
 exact⟨zn,rfl,Q2.nil hL.below⟩
theorem zf1 (p:Pg) (is:Nat→Ins) (i:Ins) (x:Pv) (d:Pd) (gx:List Gu) (at' : Nat) (w:World) (hp:zl p is=0) (hc:qc w p is) (hx:zN w x d) (hgx:J6 w x d gx) (ok:jh p is d) (hat:at' < p.n) (hi:is at'=i) (hk:i.kind=18):jj p at' x d gx (zU i at' d) w:=by
 have hs:=(zx hp).1
 have hk6:=hs.n1
 have hone:=(zx hp).2 at' hat
 rw[hi]at hone
 have hr:=qN hone
 have hf:=jL hone
 have hd:=qw.of ok hp
 have hfew:=yE.of hd.r hs
 have HCP:=Lib.hid (fun w' (hb:Below w.heap.size w w')=>qR x d w' (hx.grow hb) hfew)
 have hpm:d.vars.length+d.fields.length≤9223372036854775807:=(qS.of ok hp hx).m
 have HPM:=Lib.hid hpm
 obtain⟨bc,oc,hpc,hcr⟩:=hc
 have hpc2:=hpc (by omega)
 have hI1:=zg.agg (P:=Tryz.prog) jE (hcr at' hat).1 (fun j v hj=>(hcr at' hat).2 j v hj) rfl
 rw[hi]at hI1
 have HI:=Lib.hid (show zg Tryz.prog 86 w bc (oc+at' * 6) (Ins.v i) from hI1)
 have hxe:=hx.e
 have hdn:=ok.none
 rw[hdn]at hxe
 have hvn:=hx.vars.n
 have hvm:=hx.vars.m
 rw[show zU i at' d=⟨[((at' : Int)+1,d)],false,false⟩ by unfold zU;rw[if_neg (by omega),if_neg (by omega),if_neg (by omega),if_neg (by omega),if_neg (by omega),if_neg (by omega),if_neg (by omega),if_pos hk]]
 obtain⟨hia,hal⟩:=idx (hr.a (by rw[hk];decide)) hd.r.vars
 obtain⟨bo,oo,hpo,hco⟩:=hgx.l.ex
 have hpo2:=hpo (by omega)
 have hga:=hgx.d.at' i.a.toNat hal
 have hra:=zg.agg (P:=Tryz.prog) zZ (hco i.a.toNat (by omega)).1 (hco i.a.toNat (by omega)).2 rfl
 obtain⟨sa,hsa⟩:∃ s,gx.getD i.a.toNat zT=(d.var i.a.toNat).gu s:=⟨_,hga.e⟩
 have hla:zp w sa (d.var i.a.toNat).l:=by have:=hga.l;rw[hsa]at this;exact this
 rw[hsa]at hra
 have HA:=Lib.hid (show zg Tryz.prog 108 w bo (oo+i.a.toNat*7) ((d.var i.a.toNat).gu sa).v from hra)
 have hav:i.a.toNat<x.vars.n:=by omega
 have HN0:=Lib.hid hdn
 clear hx hgx hp hr hf hd hs hone hfew hpc hcr hI1 hi hdn hpm ok hpo hco hga hra hsa hla hal
 unfold jj
 generalize i.a.toNat=a at *
 generalize d.var a=g at *
 obtain⟨ik,ito,ia,ib,inn,ig⟩:=i
 obtain⟨xn,⟨xp,xvn,xc⟩,⟨xfp,xfn,xfc⟩⟩:=x
 obtain⟨pv,pf,pc,pn,pcap⟩:=p
 dsimp only at hk hpc2 hk6 hat hxe hvn hvm hia hpo2 hav
 subst hk hpc2 hxe hvn hia hpo2
 obtain⟨gn,⟨gsn,glo,ghi⟩,gt,gff,gl⟩:=g
 obtain⟨s1,s2,s3⟩:=sa
 dsimp only[Res.gu]at HA
 have hna:nA 18=true:=by decide
 have hnb:nB 18=false:=by decide
 have hL:=Loc.start w
 go_enter Tryz.func40,Tryz.ntmps40
 go_step
 go_step
 go_step
 ((with_reducible refine lbx hL ?_);clear hL;intro b3 w1 hL)
 ((with_reducible refine lbx hL ?_);clear hL;intro b5 w1 hL)
 go_upto_region 4 with(first|(with_reducible refine ldB HI.out hL ?_)|((with_reducible refine lal hL ?_);clear hL;intro b9 w1 hL)|(with_reducible first|refine lld hL ?_|(refine zd hL ?_;clear hL;intro w1 hL)))
 go_upto_region 5 with(first|(go_at_call 20;refine(HCP.out _ hL.below).mono ?_;rintro q w3 ⟨⟨rn,⟨vp,vn,vc⟩,⟨fp,fn,fc⟩⟩,rfl,gv,gf,rs,Rv,Rh,Rf,hrn,hO,hl3⟩;replace hL:=hL.gave hl3;simp only[List.cons_append,List.nil_append]at hL;clear hl3;dsimp only)|((with_reducible refine lal hL ?_);clear hL;intro b10 w1 hL)|(with_reducible first|refine lld hL ?_|(refine zd hL ?_;clear hL;intro w1 hL)))
 have hrn2:rn=false:=by rw[show rn=d.none from hrn];exact HN0.out
 subst hrn2
 clear hrn
 go_upto_region 6 with(first|((with_reducible refine lbs hL ?_);clear hL;intro be w1 hL)|(with_reducible refine lld hL ?_))
 go_upto_region 7 with(first|(go_at_call 78;refine(zt _).mono ?_;rintro e w1 ⟨rfl,hb⟩;replace hL:=hL.grow hb;clear hb;dsimp only)|((with_reducible refine lal hL ?_);clear hL;first|(have hq12:b12=b12:=rfl;clear hq12;intro b13 w1 hL)|intro b12 w1 hL)|(with_reducible refine zd hL ?_;clear hL;intro w1 hL))
 go_upto_region 13 with(first|(with_reducible refine ldB HA.out hL ?_)|(go_at_call 74;refine(qe _ _).mono ?_;rintro e w1 ⟨rfl,hb⟩;replace hL:=hL.grow hb;clear hb;dsimp only)|(go_at_call 75;refine(qg _ _).mono ?_;rintro e w1 ⟨rfl,hb⟩;replace hL:=hL.grow hb;clear hb;dsimp only)|(go_at_call 78;refine(zt _).mono ?_;rintro e w1 ⟨rfl,hb⟩;replace hL:=hL.grow hb;clear hb;dsimp only)|((with_reducible refine lal hL ?_);clear hL;intro b14 w1 hL)|(with_reducible first|refine lld hL ?_|(refine zd hL ?_;clear hL;intro w1 hL)))
 go_wp2_with (first|(with_reducible refine lld hL ?_))
 refine rt3 ?_
 exact⟨⟨some ⟨be,0,none⟩,1,1⟩,rfl,((hL.turn (U:=fun w=>zX w gx d.vars→zS gv gf d.vars d.fields w) (fun w h _=>h)).drop (.cons _ (.cons _ (.cons _ (.cons_cons _ (.cons _ (.cons _ (.cons _ (.cons _ (List.Sublist.refl _))))))))) (fun _ h=>h)).edge1 (K:=[]) hO HN0.out.symm HPM.out⟩
theorem zf2 (p:Pg) (is:Nat→Ins) (i:Ins) (x:Pv) (d:Pd) (gx:List Gu) (at' : Nat) (w:World) (hp:zl p is=0) (hc:qc w p is) (hx:zN w x d) (hgx:J6 w x d gx) (ok:jh p is d) (hat:at' < p.n) (hi:is at'=i) (hk:i.kind=16):jj p at' x d gx (zU i at' d) w:=by
 have hs:=(zx hp).1
 have hk6:=hs.n1
 have hone:=(zx hp).2 at' hat
 rw[hi]at hone
 have hr:=qN hone
 have hf:=jL hone
 have hd:=qw.of ok hp
 have hfew:=yE.of hd.r hs
 have HCP:=Lib.hid (fun w' (hb:Below w.heap.size w w')=>qR x d w' (hx.grow hb) hfew)
 have hpm:d.vars.length+d.fields.length≤9223372036854775807:=(qS.of ok hp hx).m
 have HPM:=Lib.hid hpm
 obtain⟨bc,oc,hpc,hcr⟩:=hc
 have hpc2:=hpc (by omega)
 have hI1:=zg.agg (P:=Tryz.prog) jE (hcr at' hat).1 (fun j v hj=>(hcr at' hat).2 j v hj) rfl
 rw[hi]at hI1
 have HI:=Lib.hid (show zg Tryz.prog 86 w bc (oc+at' * 6) (Ins.v i) from hI1)
 have hxe:=hx.e
 have hdn:=ok.none
 rw[hdn]at hxe
 have hvn:=hx.vars.n
 have hvm:=hx.vars.m
 rw[show zU i at' d=⟨[(i.goto,d)],false,false⟩ by unfold zU;rw[if_neg (by omega),if_neg (by omega),if_neg (by omega),if_neg (by omega),if_neg (by omega),if_neg (by omega),if_pos hk]]
 have HN0:=Lib.hid hdn
 clear hx hgx hp hr hf hd hs hone hfew hpc hcr hI1 hi hdn hpm ok
 unfold jj
 obtain⟨ik,ito,ia,ib,inn,ig⟩:=i
 obtain⟨xn,⟨xp,xvn,xc⟩,⟨xfp,xfn,xfc⟩⟩:=x
 obtain⟨pv,pf,pc,pn,pcap⟩:=p
 dsimp only at hk hpc2 hk6 hat hxe hvn hvm
 subst hk hpc2 hxe hvn
 have hna:nA 16=false:=by decide
 have hnb:nB 16=false:=by decide
 have hL:=Loc.start w
 go_enter Tryz.func40,Tryz.ntmps40
 go_step
 go_step
 go_step
 ((with_reducible refine lbx hL ?_);clear hL;intro b3 w1 hL)
 ((with_reducible refine lbx hL ?_);clear hL;intro b5 w1 hL)
 go_upto_region 4 with(first|(with_reducible refine ldB HI.out hL ?_)|((with_reducible refine lal hL ?_);clear hL;intro b9 w1 hL)|(with_reducible first|refine lld hL ?_|(refine zd hL ?_;clear hL;intro w1 hL)))
 go_upto_region 5 with(first|(go_at_call 20;refine(HCP.out _ hL.below).mono ?_;rintro q w3 ⟨⟨rn,⟨vp,vn,vc⟩,⟨fp,fn,fc⟩⟩,rfl,gv,gf,rs,Rv,Rh,Rf,hrn,hO,hl3⟩;replace hL:=hL.gave hl3;simp only[List.cons_append,List.nil_append]at hL;clear hl3;dsimp only)|((with_reducible refine lal hL ?_);clear hL;intro b10 w1 hL)|(with_reducible first|refine lld hL ?_|(refine zd hL ?_;clear hL;intro w1 hL)))
 have hrn2:rn=false:=by rw[show rn=d.none from hrn];exact HN0.out
 subst hrn2
 clear hrn
 go_upto_region 6 with(first|((with_reducible refine lbs hL ?_);clear hL;intro be w1 hL)|(with_reducible refine lld hL ?_))
 go_upto_region 7 with(first|(go_at_call 78;refine(zt _).mono ?_;rintro e w1 ⟨rfl,hb⟩;replace hL:=hL.grow hb;clear hb;dsimp only)|((with_reducible refine lal hL ?_);clear hL;first|(have hq12:b12=b12:=rfl;clear hq12;intro b13 w1 hL)|intro b12 w1 hL)|(with_reducible refine zd hL ?_;clear hL;intro w1 hL))
 go_upto_region 13 with(first|(go_at_call 74;refine(qe _ _).mono ?_;rintro e w1 ⟨rfl,hb⟩;replace hL:=hL.grow hb;clear hb;dsimp only)|(go_at_call 75;refine(qg _ _).mono ?_;rintro e w1 ⟨rfl,hb⟩;replace hL:=hL.grow hb;clear hb;dsimp only)|(go_at_call 78;refine(zt _).mono ?_;rintro e w1 ⟨rfl,hb⟩;replace hL:=hL.grow hb;clear hb;dsimp only)|((with_reducible refine lal hL ?_);clear hL;intro b14 w1 hL)|(with_reducible first|refine lld hL ?_|(refine zd hL ?_;clear hL;intro w1 hL)))
 go_wp2_with (first|(with_reducible first|refine lld hL ?_|(refine zd hL ?_;clear hL;intro w1 hL)))
 refine rt3 ?_
 exact⟨⟨some ⟨be,0,none⟩,1,1⟩,rfl,((hL.turn (U:=fun w=>zX w gx d.vars→zS gv gf d.vars d.fields w) (fun w h _=>h)).drop (.cons _ (.cons _ (.cons _ (.cons_cons _ (.cons _ (.cons _ (.cons _ (.cons _ (List.Sublist.refl _))))))))) (fun _ h=>h)).edge1 (K:=[]) hO HN0.out.symm HPM.out⟩
theorem zgA (p:Pg) (is:Nat→Ins) (i:Ins) (x:Pv) (d:Pd) (gx:List Gu) (at' : Nat) (w:World) (hp:zl p is=0) (hc:qc w p is) (hx:zN w x d) (hgx:J6 w x d gx) (ok:jh p is d) (hat:at' < p.n) (hi:is at'=i) (hk:i.kind=1):jj p at' x d gx (zU i at' d) w:=by
 have hs:=(zx hp).1
 have hk6:=hs.n1
 have hone:=(zx hp).2 at' hat
 rw[hi]at hone
 have hr:=qN hone
 have hf:=jL hone
 have hd:=qw.of ok hp
 have hfew:=yE.of hd.r hs
 have HCP:=Lib.hid (fun w' (hb:Below w.heap.size w w')=>qR x d w' (hx.grow hb) hfew)
 have hpm:d.vars.length+d.fields.length≤9223372036854775807:=(qS.of ok hp hx).m
 have HPM:=Lib.hid hpm
 obtain⟨bc,oc,hpc,hcr⟩:=hc
 have hpc2:=hpc (by omega)
 have hI1:=zg.agg (P:=Tryz.prog) jE (hcr at' hat).1 (fun j v hj=>(hcr at' hat).2 j v hj) rfl
 rw[hi]at hI1
 have HI:=Lib.hid (show zg Tryz.prog 86 w bc (oc+at' * 6) (Ins.v i) from hI1)
 have hxe:=hx.e
 have hdn:=ok.none
 rw[hdn]at hxe
 have hvn:=hx.vars.n
 have hvm:=hx.vars.m
 rw[show zU i at' d=⟨jV d at' i.to.toNat (jb i),false,false⟩ by unfold zU;rw[if_pos (by omega)]]
 have HN0:=Lib.hid hdn
 obtain⟨hit,hkl⟩:=idx (hr.to (by rw[hk];decide)) hd.r.vars
 have HK:=Lib.hid hkl
 have hrng:=hr.n1 hk
 clear hx hgx hp hr hf hd hs hone hfew hpc hcr hI1 hi hdn hpm ok
 clear hkl
 unfold jj
 generalize i.to.toNat=k at *
 obtain⟨ik,ito,ia,ib,inn,ig⟩:=i
 obtain⟨xn,⟨xp,xvn,xc⟩,⟨xfp,xfn,xfc⟩⟩:=x
 obtain⟨pv,pf,pc,pn,pcap⟩:=p
 dsimp only at hit hrng
 subst hit
 dsimp only at hk hpc2 hk6 hat hxe hvn hvm
 subst hk hpc2 hxe hvn
 have hna:nA 1=false:=by decide
 have hnb:nB 1=false:=by decide
 have hL:=Loc.start w
 go_enter Tryz.func40,Tryz.ntmps40
 go_step
 go_step
 go_step
 ((with_reducible refine lbx hL ?_);clear hL;intro b3 w1 hL)
 ((with_reducible refine lbx hL ?_);clear hL;intro b5 w1 hL)
 go_upto_region 4 with(first|(with_reducible refine ldB HI.out hL ?_)|((with_reducible refine lal hL ?_);clear hL;intro b9 w1 hL)|(with_reducible first|refine lld hL ?_|(refine zd hL ?_;clear hL;intro w1 hL)))
 go_upto_region 5 with(first|(go_at_call 20;refine(HCP.out _ hL.below).mono ?_;rintro q w3 ⟨⟨rn,⟨vp,vn,vc⟩,⟨fp,fn,fc⟩⟩,rfl,gv,gf,rs,Rv,Rh,Rf,hrn,hO,hl3⟩;replace hL:=hL.gave hl3;simp only[List.cons_append,List.nil_append]at hL;clear hl3;dsimp only)|((with_reducible refine lal hL ?_);clear hL;intro b10 w1 hL)|(with_reducible first|refine lld hL ?_|(refine zd hL ?_;clear hL;intro w1 hL)))
 have hrn2:rn=false:=by rw[show rn=d.none from hrn];exact HN0.out
 subst hrn2
 clear hrn
 have hgd:=(hL.get (S:=zS gv gf d.vars d.fields) List.mem_cons_self).1
 have hnv:=hO.vars.flatlen jl (by decide)
 have hgl:=hgd.len
 (try dsimp only at hnv)
 obtain⟨bv,cs,hpv,rfl,htk,hlen⟩:=hO.vars.block (show 0<vn by have:=HK.out;omega)
 have hput:=fun g=>hO.vars.put jl zT (k:=k) (show k<vn by have:=HK.out;omega) g
 have hle:=hO.vars.fits
 (try dsimp only at hpv hput hle hlen)
 subst hpv
 have hkn:k<vn:=by have:=HK.out;omega
 have HPV:=Lib.hid (fun g:Gu=>show k*7+g.cells.length≤cs.length by show k*7+7≤_;rw[hlen];omega)
 have HO:=Lib.hid (And.intro hput hO)
 clear hgd hnv hgl htk hput hle hlen hO
 simp only[List.cons_append,List.nil_append]at hL
 go_upto_region 6 with(first|((with_reducible refine lbs hL ?_);clear hL;intro be w1 hL)|(with_reducible refine lld hL ?_))
 go_upto_region 7 with(first|(go_at_call 78;refine(zt _).mono ?_;rintro e w1 ⟨rfl,hb⟩;replace hL:=hL.grow hb;clear hb;dsimp only)|((with_reducible refine lal hL ?_);clear hL;first|(have hq12:b12=b12:=rfl;clear hq12;intro b13 w1 hL)|intro b12 w1 hL)|(with_reducible refine zd hL ?_;clear hL;intro w1 hL))
 go_upto_region 13 with(first|(go_at_call 74;refine(qe _ _).mono ?_;rintro e w1 ⟨rfl,hb⟩;replace hL:=hL.grow hb;clear hb;dsimp only)|(go_at_call 75;refine(qg _ _).mono ?_;rintro e w1 ⟨rfl,hb⟩;replace hL:=hL.grow hb;clear hb;dsimp only)|(go_at_call 78;refine(zt _).mono ?_;rintro e w1 ⟨rfl,hb⟩;replace hL:=hL.grow hb;clear hb;dsimp only)|((with_reducible refine lal hL ?_);clear hL;intro b14 w1 hL)|(with_reducible first|refine lld hL ?_|(refine zd hL ?_;clear hL;intro w1 hL)))
 have HE:=Lib.hid (fun w'=>zW ⟨false,⟨false,inn,inn⟩,false,false,zn⟩ w')
 go_upto_region 84 with(first|(with_reducible first|refine lld hL ?_|(refine zd hL ?_;clear hL;intro w1 hL)))
 replace hL:=hL.pure (S:=fun w=>zX w gx d.vars→qq w ⟨false,⟨false,inn,inn⟩,false,false,zn⟩ ⟨false,⟨false,inn,inn⟩,false,false,[]⟩) (fun w _=>⟨rfl,zp.nil w⟩)
 go_wp2_with (first|(go_at_call 83;refine(HE.out _).mono ?_;rintro e w1 ⟨rfl,hb⟩;replace hL:=hL.grow hb;clear hb;dsimp only)|(refine qa (b:=bv) (off:=k*7) (vs:=Gu.cells ⟨false,⟨false,inn,inn⟩,false,false,zn⟩) (cs':=zk cs (k*7) (Gu.cells ⟨false,⟨false,inn,inn⟩,false,false,zn⟩)) hL rfl rfl cIn rfl zZ.sz rfl (HPV.out ⟨false,⟨false,inn,inn⟩,false,false,zn⟩) rfl ?_;clear hL;intro w' hL)|(with_reducible refine lld hL ?_))
 refine rt3 ?_
 obtain⟨hput,hO⟩:=HO.out
 refine⟨⟨some ⟨be,0,none⟩,1,1⟩,rfl,?_⟩
 exact((hL.both (U:=fun w=>zX w gx d.vars→zS (gv.set k ⟨false,⟨false,inn,inn⟩,false,false,zn⟩) gf (d.setVar k ⟨false,⟨false,inn,inn⟩,false,false,[]⟩).vars (d.setVar k ⟨false,⟨false,inn,inn⟩,false,false,[]⟩).fields w) (fun w h1 h2 hc=>⟨h2.1.set HK.out (h1 hc),h2.2⟩)).drop (.cons _ (.cons _ (.cons _ (.cons_cons _ (.cons _ (.cons _ (.cons _ (.cons _ (List.Sublist.refl _))))))))) (fun _ h=>h)).edge1 (K:=[]) (r:=⟨false,⟨some ⟨bv,0,none⟩,vn,vc⟩,⟨fp,fn,fc⟩⟩) (Rv:=[(bv,108,zk cs (k*7) (Gu.cells ⟨false,⟨false,inn,inn⟩,false,false,zn⟩))]) ⟨hput ⟨false,⟨false,inn,inn⟩,false,false,zn⟩,hO.heads,hO.rows⟩ HN0.out.symm (by show (d.vars.set k _).length+_≤_;rw[List.length_set];exact HPM.out)
theorem zf3 (p:Pg) (is:Nat→Ins) (i:Ins) (x:Pv) (d:Pd) (gx:List Gu) (at' : Nat) (w:World) (hp:zl p is=0) (hc:qc w p is) (hx:zN w x d) (hgx:J6 w x d gx) (ok:jh p is d) (hat:at' < p.n) (hi:is at'=i) (hk:i.kind=14):jj p at' x d gx (zU i at' d) w:=by
 have hs:=(zx hp).1
 have hk6:=hs.n1
 have hone:=(zx hp).2 at' hat
 rw[hi]at hone
 have hr:=qN hone
 have hf:=jL hone
 have hd:=qw.of ok hp
 have hfew:=yE.of hd.r hs
 have HCP:=Lib.hid (fun w' (hb:Below w.heap.size w w')=>qR x d w' (hx.grow hb) hfew)
 have hpm:d.vars.length+d.fields.length≤9223372036854775807:=(qS.of ok hp hx).m
 have HPM:=Lib.hid hpm
 obtain⟨bc,oc,hpc,hcr⟩:=hc
 have hpc2:=hpc (by omega)
 have hI1:=zg.agg (P:=Tryz.prog) jE (hcr at' hat).1 (fun j v hj=>(hcr at' hat).2 j v hj) rfl
 rw[hi]at hI1
 have HI:=Lib.hid (show zg Tryz.prog 86 w bc (oc+at' * 6) (Ins.v i) from hI1)
 have hxe:=hx.e
 have hdn:=ok.none
 rw[hdn]at hxe
 have hvn:=hx.vars.n
 have hvm:=hx.vars.m
 rw[show zU i at' d=⟨jV d at' i.to.toNat (jb i),false,false⟩ by unfold zU;rw[if_pos (by omega)]]
 have HN0:=Lib.hid hdn
 obtain⟨hit,hkl⟩:=idx (hr.to (by rw[hk];decide)) hd.r.vars
 have HK:=Lib.hid hkl
 have hrng:=hr.n14 hk
 clear hx hgx hp hr hf hd hs hone hfew hpc hcr hI1 hi hdn hpm ok
 clear hkl
 unfold jj
 generalize i.to.toNat=k at *
 obtain⟨ik,ito,ia,ib,inn,ig⟩:=i
 obtain⟨xn,⟨xp,xvn,xc⟩,⟨xfp,xfn,xfc⟩⟩:=x
 obtain⟨pv,pf,pc,pn,pcap⟩:=p
 dsimp only at hit hrng
 subst hit
 dsimp only at hk hpc2 hk6 hat hxe hvn hvm
 subst hk hpc2 hxe hvn
 have hna:nA 14=false:=by decide
 have hnb:nB 14=false:=by decide
 have hL:=Loc.start w
 go_enter Tryz.func40,Tryz.ntmps40
 go_step
 go_step
 go_step
 ((with_reducible refine lbx hL ?_);clear hL;intro b3 w1 hL)
 ((with_reducible refine lbx hL ?_);clear hL;intro b5 w1 hL)
 go_upto_region 4 with(first|(with_reducible refine ldB HI.out hL ?_)|((with_reducible refine lal hL ?_);clear hL;intro b9 w1 hL)|(with_reducible first|refine lld hL ?_|(refine zd hL ?_;clear hL;intro w1 hL)))
 go_upto_region 5 with(first|(go_at_call 20;refine(HCP.out _ hL.below).mono ?_;rintro q w3 ⟨⟨rn,⟨vp,vn,vc⟩,⟨fp,fn,fc⟩⟩,rfl,gv,gf,rs,Rv,Rh,Rf,hrn,hO,hl3⟩;replace hL:=hL.gave hl3;simp only[List.cons_append,List.nil_append]at hL;clear hl3;dsimp only)|((with_reducible refine lal hL ?_);clear hL;intro b10 w1 hL)|(with_reducible first|refine lld hL ?_|(refine zd hL ?_;clear hL;intro w1 hL)))
 have hrn2:rn=false:=by rw[show rn=d.none from hrn];exact HN0.out
 subst hrn2
 clear hrn
 have hgd:=(hL.get (S:=zS gv gf d.vars d.fields) List.mem_cons_self).1
 have hnv:=hO.vars.flatlen jl (by decide)
 have hgl:=hgd.len
 (try dsimp only at hnv)
 obtain⟨bv,cs,hpv,rfl,htk,hlen⟩:=hO.vars.block (show 0<vn by have:=HK.out;omega)
 have hput:=fun g=>hO.vars.put jl zT (k:=k) (show k<vn by have:=HK.out;omega) g
 have hle:=hO.vars.fits
 (try dsimp only at hpv hput hle hlen)
 subst hpv
 have hkn:k<vn:=by have:=HK.out;omega
 have HPV:=Lib.hid (fun g:Gu=>show k*7+g.cells.length≤cs.length by show k*7+7≤_;rw[hlen];omega)
 have HO:=Lib.hid (And.intro hput hO)
 clear hgd hnv hgl htk hput hle hlen hO
 simp only[List.cons_append,List.nil_append]at hL
 go_upto_region 6 with(first|((with_reducible refine lbs hL ?_);clear hL;intro be w1 hL)|(with_reducible refine lld hL ?_))
 go_upto_region 7 with(first|(go_at_call 78;refine(zt _).mono ?_;rintro e w1 ⟨rfl,hb⟩;replace hL:=hL.grow hb;clear hb;dsimp only)|((with_reducible refine lal hL ?_);clear hL;first|(have hq12:b12=b12:=rfl;clear hq12;intro b13 w1 hL)|intro b12 w1 hL)|(with_reducible refine zd hL ?_;clear hL;intro w1 hL))
 go_upto_region 13 with(first|(go_at_call 74;refine(qe _ _).mono ?_;rintro e w1 ⟨rfl,hb⟩;replace hL:=hL.grow hb;clear hb;dsimp only)|(go_at_call 75;refine(qg _ _).mono ?_;rintro e w1 ⟨rfl,hb⟩;replace hL:=hL.grow hb;clear hb;dsimp only)|(go_at_call 78;refine(zt _).mono ?_;rintro e w1 ⟨rfl,hb⟩;replace hL:=hL.grow hb;clear hb;dsimp only)|((with_reducible refine lal hL ?_);clear hL;intro b14 w1 hL)|(with_reducible first|refine lld hL ?_|(refine zd hL ?_;clear hL;intro w1 hL)))
 have HE:=Lib.hid (fun w'=>zW ⟨false,⟨false,-inn,inn⟩,false,false,zn⟩ w')
 go_upto_region 84 with(first|(with_reducible first|refine lld hL ?_|(refine zd hL ?_;clear hL;intro w1 hL)))
 replace hL:=hL.pure (S:=fun w=>zX w gx d.vars→qq w ⟨false,⟨false,-inn,inn⟩,false,false,zn⟩ ⟨false,⟨false,-inn,inn⟩,false,false,[]⟩) (fun w _=>⟨rfl,zp.nil w⟩)
 go_wp2_with (first|(go_at_call 83;refine(HE.out _).mono ?_;rintro e w1 ⟨rfl,hb⟩;replace hL:=hL.grow hb;clear hb;dsimp only)|(refine qa (b:=bv) (off:=k*7) (vs:=Gu.cells ⟨false,⟨false,-inn,inn⟩,false,false,zn⟩) (cs':=zk cs (k*7) (Gu.cells ⟨false,⟨false,-inn,inn⟩,false,false,zn⟩)) hL rfl rfl cIn rfl zZ.sz rfl (HPV.out ⟨false,⟨false,-inn,inn⟩,false,false,zn⟩) rfl ?_;clear hL;intro w' hL)|(with_reducible refine lld hL ?_))
 refine rt3 ?_
 obtain⟨hput,hO⟩:=HO.out
 refine⟨⟨some ⟨be,0,none⟩,1,1⟩,rfl,?_⟩
 exact((hL.both (U:=fun w=>zX w gx d.vars→zS (gv.set k ⟨false,⟨false,-inn,inn⟩,false,false,zn⟩) gf (d.setVar k ⟨false,⟨false,-inn,inn⟩,false,false,[]⟩).vars (d.setVar k ⟨false,⟨false,-inn,inn⟩,false,false,[]⟩).fields w) (fun w h1 h2 hc=>⟨h2.1.set HK.out (h1 hc),h2.2⟩)).drop (.cons _ (.cons _ (.cons _ (.cons_cons _ (.cons _ (.cons _ (.cons _ (.cons _ (List.Sublist.refl _))))))))) (fun _ h=>h)).edge1 (K:=[]) (r:=⟨false,⟨some ⟨bv,0,none⟩,vn,vc⟩,⟨fp,fn,fc⟩⟩) (Rv:=[(bv,108,zk cs (k*7) (Gu.cells ⟨false,⟨false,-inn,inn⟩,false,false,zn⟩))]) ⟨hput ⟨false,⟨false,-inn,inn⟩,false,false,zn⟩,hO.heads,hO.rows⟩ HN0.out.symm (by show (d.vars.set k _).length+_≤_;rw[List.length_set];exact HPM.out)
theorem zgB (p:Pg) (is:Nat→Ins) (i:Ins) (x:Pv) (d:Pd) (gx:List Gu) (at' : Nat) (w:World) (hp:zl p is=0) (hc:qc w p is) (hx:zN w x d) (hgx:J6 w x d gx) (ok:jh p is d) (hat:at' < p.n) (hi:is at'=i) (hk:i.kind=3):jj p at' x d gx (zU i at' d) w:=by
 have hs:=(zx hp).1
 have hk6:=hs.n1
 have hone:=(zx hp).2 at' hat
 rw[hi]at hone
 have hr:=qN hone
 have hf:=jL hone
 have hd:=qw.of ok hp
 have hfew:=yE.of hd.r hs
 have HCP:=Lib.hid (fun w' (hb:Below w.heap.size w w')=>qR x d w' (hx.grow hb) hfew)
 have hpm:d.vars.length+d.fields.length≤9223372036854775807:=(qS.of ok hp hx).m
 have HPM:=Lib.hid hpm
 obtain⟨bc,oc,hpc,hcr⟩:=hc
 have hpc2:=hpc (by omega)
 have hI1:=zg.agg (P:=Tryz.prog) jE (hcr at' hat).1 (fun j v hj=>(hcr at' hat).2 j v hj) rfl
 rw[hi]at hI1
 have HI:=Lib.hid (show zg Tryz.prog 86 w bc (oc+at' * 6) (Ins.v i) from hI1)
 have hxe:=hx.e
 have hdn:=ok.none
 rw[hdn]at hxe
 have hvn:=hx.vars.n
 have hvm:=hx.vars.m
 rw[show zU i at' d=⟨jV d at' i.to.toNat (jb i),false,false⟩ by unfold zU;rw[if_pos (by omega)]]
 have HN0:=Lib.hid hdn
 obtain⟨hit,hkl⟩:=idx (hr.to (by rw[hk];decide)) hd.r.vars
 have HK:=Lib.hid hkl
 clear hx hgx hp hr hf hd hs hone hfew hpc hcr hI1 hi hdn hpm ok
 clear hkl
 unfold jj
 generalize i.to.toNat=k at *
 obtain⟨ik,ito,ia,ib,inn,ig⟩:=i
 obtain⟨xn,⟨xp,xvn,xc⟩,⟨xfp,xfn,xfc⟩⟩:=x
 obtain⟨pv,pf,pc,pn,pcap⟩:=p
 dsimp only at hit
 subst hit
 dsimp only at hk hpc2 hk6 hat hxe hvn hvm
 subst hk hpc2 hxe hvn
 have hna:nA 3=false:=by decide
 have hnb:nB 3=false:=by decide
 have hL:=Loc.start w
 go_enter Tryz.func40,Tryz.ntmps40
 go_step
 go_step
 go_step
 ((with_reducible refine lbx hL ?_);clear hL;intro b3 w1 hL)
 ((with_reducible refine lbx hL ?_);clear hL;intro b5 w1 hL)
 go_upto_region 4 with(first|(with_reducible refine ldB HI.out hL ?_)|((with_reducible refine lal hL ?_);clear hL;intro b9 w1 hL)|(with_reducible first|refine lld hL ?_|(refine zd hL ?_;clear hL;intro w1 hL)))
 go_upto_region 5 with(first|(go_at_call 20;refine(HCP.out _ hL.below).mono ?_;rintro q w3 ⟨⟨rn,⟨vp,vn,vc⟩,⟨fp,fn,fc⟩⟩,rfl,gv,gf,rs,Rv,Rh,Rf,hrn,hO,hl3⟩;replace hL:=hL.gave hl3;simp only[List.cons_append,List.nil_append]at hL;clear hl3;dsimp only)|((with_reducible refine lal hL ?_);clear hL;intro b10 w1 hL)|(with_reducible first|refine lld hL ?_|(refine zd hL ?_;clear hL;intro w1 hL)))
 have hrn2:rn=false:=by rw[show rn=d.none from hrn];exact HN0.out
 subst hrn2
 clear hrn
 have hgd:=(hL.get (S:=zS gv gf d.vars d.fields) List.mem_cons_self).1
 have hnv:=hO.vars.flatlen jl (by decide)
 have hgl:=hgd.len
 (try dsimp only at hnv)
 obtain⟨bv,cs,hpv,rfl,htk,hlen⟩:=hO.vars.block (show 0<vn by have:=HK.out;omega)
 have hput:=fun g=>hO.vars.put jl zT (k:=k) (show k<vn by have:=HK.out;omega) g
 have hle:=hO.vars.fits
 (try dsimp only at hpv hput hle hlen)
 subst hpv
 have hkn:k<vn:=by have:=HK.out;omega
 have HPV:=Lib.hid (fun g:Gu=>show k*7+g.cells.length≤cs.length by show k*7+7≤_;rw[hlen];omega)
 have HO:=Lib.hid (And.intro hput hO)
 clear hgd hnv hgl htk hput hle hlen hO
 simp only[List.cons_append,List.nil_append]at hL
 go_upto_region 6 with(first|((with_reducible refine lbs hL ?_);clear hL;intro be w1 hL)|(with_reducible refine lld hL ?_))
 go_upto_region 7 with(first|(go_at_call 78;refine(zt _).mono ?_;rintro e w1 ⟨rfl,hb⟩;replace hL:=hL.grow hb;clear hb;dsimp only)|((with_reducible refine lal hL ?_);clear hL;first|(have hq12:b12=b12:=rfl;clear hq12;intro b13 w1 hL)|intro b12 w1 hL)|(with_reducible refine zd hL ?_;clear hL;intro w1 hL))
 go_upto_region 13 with(first|(go_at_call 74;refine(qe _ _).mono ?_;rintro e w1 ⟨rfl,hb⟩;replace hL:=hL.grow hb;clear hb;dsimp only)|(go_at_call 75;refine(qg _ _).mono ?_;rintro e w1 ⟨rfl,hb⟩;replace hL:=hL.grow hb;clear hb;dsimp only)|(go_at_call 78;refine(zt _).mono ?_;rintro e w1 ⟨rfl,hb⟩;replace hL:=hL.grow hb;clear hb;dsimp only)|((with_reducible refine lal hL ?_);clear hL;intro b14 w1 hL)|(with_reducible first|refine lld hL ?_|(refine zd hL ?_;clear hL;intro w1 hL)))
 have HE:=Lib.hid (fun w'=>zW ⟨true,zC,false,false,zn⟩ w')
 go_upto_region 84 with(first|(with_reducible first|refine lld hL ?_|(refine zd hL ?_;clear hL;intro w1 hL)))
 replace hL:=hL.pure (S:=fun w=>zX w gx d.vars→qq w ⟨true,zC,false,false,zn⟩ ⟨true,zC,false,false,[]⟩) (fun w _=>⟨rfl,zp.nil w⟩)
 go_wp2_with (first|(go_at_call 83;refine(HE.out _).mono ?_;rintro e w1 ⟨rfl,hb⟩;replace hL:=hL.grow hb;clear hb;dsimp only)|(refine qa (b:=bv) (off:=k*7) (vs:=Gu.cells ⟨true,zC,false,false,zn⟩) (cs':=zk cs (k*7) (Gu.cells ⟨true,zC,false,false,zn⟩)) hL rfl rfl cIn rfl zZ.sz rfl (HPV.out ⟨true,zC,false,false,zn⟩) rfl ?_;clear hL;intro w' hL)|(with_reducible refine lld hL ?_))
 refine rt3 ?_
 obtain⟨hput,hO⟩:=HO.out
 refine⟨⟨some ⟨be,0,none⟩,1,1⟩,rfl,?_⟩
 exact((hL.both (U:=fun w=>zX w gx d.vars→zS (gv.set k ⟨true,zC,false,false,zn⟩) gf (d.setVar k ⟨true,zC,false,false,[]⟩).vars (d.setVar k ⟨true,zC,false,false,[]⟩).fields w) (fun w h1 h2 hc=>⟨h2.1.set HK.out (h1 hc),h2.2⟩)).drop (.cons _ (.cons _ (.cons _ (.cons_cons _ (.cons _ (.cons _ (.cons _ (.cons _ (List.Sublist.refl _))))))))) (fun _ h=>h)).edge1 (K:=[]) (r:=⟨false,⟨some ⟨bv,0,none⟩,vn,vc⟩,⟨fp,fn,fc⟩⟩) (Rv:=[(bv,108,zk cs (k*7) (Gu.cells ⟨true,zC,false,false,zn⟩))]) ⟨hput ⟨true,zC,false,false,zn⟩,hO.heads,hO.rows⟩ HN0.out.symm (by show (d.vars.set k _).length+_≤_;rw[List.length_set];exact HPM.out)
end Go.Proofs.YtplcndmdkabmeaaGreatDoor
