/- The walks over the stepper's thing and get. Conditions: the picture is right and of runs; the indexes that a right program has. | The walk over the function that create hands to edge. Conditions: the picture is right and of runs; the indexes that a right program has. | The walks over the stepper's create, put and the functions that do nothing. Conditions: the picture is right and of runs; the indexes that a right program has. | The walk over the function that put hands to edge. Conditions: the picture is right and of runs; the indexes that a right program has. | The walk over the stepper's put. Conditions: the picture is right and of runs; the indexes that a right program has. | The walk over the stepper's step, kind by kind. Conditions: the picture is right and of runs; the instruction is right. -/
import Derived.Test.YtplcndmdkabmeaaGreatDoorStpa
import Derived.Test.YtplcndmdkabmeaaGreatDoorReady
set_option linter.unusedSimpArgs false
set_option linter.unusedVariables false
set_option maxRecDepth 100000
set_option maxHeartbeats 4000000
namespace Go.Proofs.YtplcndmdkabmeaaGreatDoor
open Go.RowKit
theorem Xm (w0:World) (bs:Nat) (i:Ins) (at' : Nat) (x:Pv) (d:Pd) (es:List (Int × Pd)) (wr fl:Bool) (A:List zj) (D:List zw) (w:World) (a:Nat) (h:Stp w0 bs i at' x es wr fl A D w) (hx:zN w0 x d) (hi:i.a=a) (ha:a<d.vars.length):
  Calls Tryz.prog 200 #[.pointer (some ⟨bs,0,none⟩)] w fun e w2=>∃ t:Sl,e=.returned t.v∧zp w0 t (d.var a).l∧Stp w0 bs i at' x es (jU (d.var a)) fl A D w2:=by
 obtain⟨s,evs,Re,hR,hL⟩:=h
 obtain⟨ss,hl,hii⟩:=hx.vars.ex
 have hn:=hx.vars.n
 have hm:=hx.vars.m
 obtain⟨bv,ov,hp,hc⟩:=hl.ex
 have hpp:=hp (by omega)
 have hr:=zg.agg (P:=Tryz.prog) zZ (hc a (by omega)).1 (hc a (by omega)).2 rfl
 have hit:=hii a (by omega)
 have hav:a<x.vars.n:=by omega
 have HF:=Lib.hid (show jU (d.var a)=((d.var a).null || (d.var a).tr || (d.var a).fa || !(d.var a).span.none) from rfl)
 dsimp only[Pd.var]at HF hr hit ⊢
 generalize d.vars.getD a zy=g at HF hr hit ⊢
 generalize ss a=t at hr hit
 generalize jU g=wg at HF ⊢
 have HR:=Lib.hid hR
 have HI:=Lib.hid hit
 have HG:=Lib.hid hr
 clear hR hx hl hii hn hp hc hr hit ha
 obtain⟨gn,⟨gsn,glo,ghi⟩,gt,gff,gl⟩:=g
 obtain⟨tp,tn,tc⟩:=t
 obtain⟨ik,ito,ia,ib,inn,ig⟩:=i
 obtain⟨xn,⟨xp,xvn,xc⟩,⟨xfp,xfn,xfc⟩⟩:=x
 obtain⟨sp,sn,sc⟩:=s
 dsimp only at hi hpp hav hm HF
 subst hi hpp
 dsimp only[Res.gu]at HG
 go_enter Tryz.func200,Tryz.ntmps200
 go_upto_region 1 with(first|(with_reducible first|refine lld hL ?_|((first|refine lbx hL ?_|refine lal hL ?_|refine lbs hL ?_);clear hL;intro bl w1 hL)|(refine zd hL ?_;clear hL;intro w1 hL)))
 refine zf [4,5,6,7,8,9,10,11,12,13,14,15,3] ?_
 refine dv0 ?_
 refine dv1 0 ?_
 refine dv1 1 ?_
 refine dv1 2 ?_
 refine dv1 3 ?_
 refine dv0 ?_
 refine dv1 5 ?_
 refine dv1 6 ?_
 refine dv1 7 ?_
 refine dv1 8 ?_
 refine dv2 4 9 ?_
 apply zb
 ·intro g w hb y;replace hL:=hL.grow hb;have d10:=yv y 10;clear y;simp only[za,fLa,fLb,sTa,sTb];simp only[d10]
  refine zo HG.out hL rfl rfl ?_
  exact cY
 simp only[apN,apC]
 apply Qi
 ·intro g w hb y;replace hL:=hL.grow hb;clear y;simp only[za,fLa,fLb,sTa,sTb]
  go_wp2
  exact⟨rfl,_,rfl,(Below.refl _ _).alloc (Nat.le_refl _) _,_,hb.size,rfl,zI _ _⟩
 simp only[apN,apC]
 refine zO hL (by kernel_rfl) (by kernel_rfl) ?_
 intro g w2 hb hR;simp only[List.length_cons,List.length_nil,Nat.reduceAdd]at hR
 have e0:=yv hR 0
 have e1:=yv hR 1
 have e2:=yv hR 2
 have e3:=yv hR 3
 have e4:=yv hR 4
 have e5:=yv hR 5
 have e6:=yv hR 6
 have e7:=yv hR 7
 have e8:=yv hR 8
 have e9:=yv hR 9
 have e10:=yv hR 10
 have e11:=yv hR 11
 obtain⟨b12,p12,e12,c12⟩:=Q1 (zA hR (j:=12) (by decide)) rfl rfl
 clear hR;simp only[za,fLa,fLb,sTa,sTb]
 simp only[e0,e1,e2,e3,e4,e5,e6,e7,e8,e9,e10,e11,e12]
 clear e0 e1 e2 e3 e4 e5 e6 e7 e8 e9 e10 e11 e12
 replace hL:=hL.gain hb p12 c12
 clear p12 c12
 clear hb
 go_upto_region 2 with(first|(with_reducible first|refine lld hL ?_|((first|refine lbx hL ?_|refine lal hL ?_|refine lbs hL ?_);clear hL;intro bl w1 hL)|(refine zd hL ?_;clear hL;intro w1 hL)))
 refine zJ [16,17,18,19,20,21,22,23,24,25,26,27,28,29,30,31,32,33,34] ?_
 refine dv0 ?_
 refine dv0 ?_
 refine dv1 1 ?_
 refine dv1 2 ?_
 refine dg0 3 ?_
 refine dg1 3 4 ?_
 refine dpo 3 5 ?_
 refine dv1 6 ?_
 refine dg0 7 ?_
 refine dg1 7 8 ?_
 refine dpo 7 9 ?_
 refine dv1 10 ?_
 refine dg0 11 ?_
 refine dg1 11 12 ?_
 refine dg1 11 13 ?_
 refine dg1 11 14 ?_
 refine dpo 11 15 ?_
 refine dv1 0 ?_
 refine dv1 17 ?_
 refine dns hL ?_
 clear hL;intro w3 hL;simp only[zV,sTa,sTb]
 go_wp2_with (first|(with_reducible first|refine lld hL ?_|((first|refine lbx hL ?_|refine lal hL ?_|refine lbs hL ?_);clear hL;intro bl w1 hL)|(refine zd hL ?_;clear hL;intro w1 hL)))
 (try simp only[Exit.inBlock,Exit.then]);refine rt1 ?_
 refine⟨⟨tp,tn,tc⟩,rfl,HI.out,⟨sp,sn,sc⟩,evs,Re,HR.out,(hL.drop (.cons _ (List.Sublist.refl _)) (fun _ h=>h)).conv ?_⟩
 rw[HF.out]
theorem U6 (d:Pd) (n:Nat) (l:List Int) (k:Nat) (hk:k<l.length):qM d n (l.take (k+1))=qB both (qM d n (l.take k)) (d.field (l.getD k 0).toNat n):=by
 unfold qM
 rw[QC l k 0 hk,List.foldl_append]
 rfl
structure UD (d:Pd) (n:Nat) (l:List Int):Prop where
 at' : ∀ k,k<l.length→∃ m:Nat,l.getD k 0=m∧m<d.fields.length∧n<(d.row m).length
 few:l.length≤1000
 rows:∀ m,m<d.fields.length→n<(d.row m).length→(d.field m n).l.length≤1000
theorem ze5 (w0:World) (bs:Nat) (i:Ins) (at' : Nat) (x:Pv) (d:Pd) (es:List (Int × Pd)) (wr fl:Bool) (A:List zj) (D:List zw) (w:World) (a n k:Nat) (h:Stp w0 bs i at' x es wr fl A D w) (ok:qS w0 x d) (hi:i.a=a) (ha:a<d.vars.length) (hin:i.n=n) (hit:i.to=k) (hk:k<d.vars.length)
  (hs:UD d n (d.var a).l) (hlen:∀ k,k≤(d.var a).l.length→(qM d n ((d.var a).l.take k)).l.length≤1000) (hle:es.length≤10) (hat:at'≤1000000):
  Calls Tryz.prog 156 #[.pointer (some ⟨bs,0,none⟩)] w fun e w2=>e=.returned (.tuple #[])∧Stp w0 bs i at' x (es++jV d at' k (qM d n (d.var a).l)) (jU (d.var a)) fl A D w2:=by
 obtain⟨s,evs,Re,hR,hL⟩:=h
 have hth:=fun (b2:Nat) (w1:World) (h1:Stp w0 bs i at' x es wr fl ((b2,108,qu.cells)::A) D w1)=>Xm w0 bs i at' x d es wr fl _ D w1 a h1 ok.x hi ha
 have hset:=fun (w1:World) (g:Gu) (A2:List zj) (D2:List zw) (h1:Stp w0 bs i at' x es (jU (d.var a)) fl A2 D2 w1) (hg:(fun w=>qq w g (qM d n (d.var a).l))∈D2)=>J9 w0 bs i at' x d es (jU (d.var a)) fl A2 D2 w1 k g (qM d n (d.var a).l) h1 ok hit hk hg hle hat
 obtain⟨rs,hlr,hir⟩:=ok.x.fields.ex
 have hfn:=ok.x.fields.n
 have hfm:=ok.x.fields.m
 obtain⟨bf,of,hpf,hcf⟩:=hlr.ex
 have h1:=fun m (hm:m<d.fields.length) (hmn:n<(d.row m).length)=>show ∃ (r:Sl) (bg og:Nat) (t:Sl),r.p=some ⟨bg,og,none⟩∧n<r.n∧r.n≤9223372036854775807∧zg Tryz.prog 51 w0 bf (of+m) r.v∧zg Tryz.prog 108 w0 bg (og+n*7) ((d.field m n).gu t).v∧zp w0 t (d.field m n).l from by
  have h2:=hir m (by omega)
  obtain⟨ss,hl2,hi2⟩:=h2.ex
  obtain⟨bg,og,hp2,hc2⟩:=hl2.ex
  have hn2:(rs m).n=(d.row m).length:=h2.n
  have hm2:=h2.m
  exact⟨rs m,bg,og,ss n,hp2 (by rw[hn2];omega),by rw[hn2];exact hmn,hm2,UI (hcf m (by omega)).1 (hcf m (by omega)).2,zg.agg (P:=Tryz.prog) zZ (hc2 n (by rw[hn2];exact hmn)).1 (hc2 n (by rw[hn2];exact hmn)).2 rfl,hi2 n (by rw[hn2];exact hmn)⟩
 have hpf2:0<d.fields.length→x.fields.p=some ⟨bf,of,none⟩:=fun h=>hpf (by omega)
 have HTH:=Lib.hid hth
 have HSET:=Lib.hid hset
 have H1:=Lib.hid h1
 have HPF:=Lib.hid hpf2
 have HLEN:=Lib.hid hlen
 have HSO:=Lib.hid hs.at'
 have HRW:=Lib.hid hs.rows
 have hfew:=hs.few
 have HGN:=Lib.hid (fun k hk=>U6 d n (d.var a).l k hk)
 have HG0:=Lib.hid (show qM d n ((d.var a).l.take 0)=Ko from rfl)
 have HGE:=Lib.hid (show qM d n ((d.var a).l.take (d.var a).l.length)=qM d n (d.var a).l by rw[List.take_length])
 have HR:=Lib.hid hR
 clear hth hset h1 hpf2 hlen hs hR hir hlr hpf hcf ok ha hk
 dsimp only[Pd.var]at *
 generalize jU (d.vars.getD a zy)=wg at *
 generalize (d.vars.getD a zy).l=l at *
 obtain⟨ik,ito,ia,ib,inn,ig⟩:=i
 obtain⟨xn,⟨xp,xvn,xc⟩,⟨xfp,xfn,xfc⟩⟩:=x
 obtain⟨sp,sn,sc⟩:=s
 dsimp only at hi hin hit hfn hfm HPF
 subst hi hin hit hfn
 go_enter Tryz.func156,Tryz.ntmps156
 go_upto_region 1 with(first|((with_reducible refine lal hL ?_);clear hL;intro b2 w1 hL)|(with_reducible first|refine lld hL ?_|((first|refine lbx hL ?_|refine lal hL ?_|refine lbs hL ?_);clear hL;intro bl w1 hL)|(refine zd hL ?_;clear hL;intro w1 hL))|(go_at_call 136;refine(jk _).mono ?_;rintro e w1 ⟨rfl,hb⟩;replace hL:=hL.grow hb;clear hb;dsimp only))
 have hM:Stp w0 bs ⟨ik,k,a,ib,n,ig⟩ at' ⟨xn,⟨xp,xvn,xc⟩,⟨xfp,d.fields.length,xfc⟩⟩ es wr fl ((b2,108,qu.cells)::A) D w1:=⟨⟨sp,sn,sc⟩,evs,Re,HR.out,hL.perm (List.Perm.swap _ _ _)⟩
 have HTC:=Lib.hid (HTH.out b2 w1 hM)
 clear hM hL HTH
 go_wp2_with (first|(go_at_call 200;refine HTC.out.mono ?_;rintro e w3 ⟨⟨tp,tn,tc⟩,rfl,hti,hM⟩;clear HTC;dsimp only[Sl.v]))
 obtain⟨⟨sp,sn,sc⟩,evs,Re,hR2,hL⟩:=hM
 have HR2:=Lib.hid hR2
 have htn:tn=l.length:=hti.n
 subst htn
 obtain⟨bt,ot,hpt,hct⟩:=hti.at'.ex
 have HPT:=Lib.hid hpt
 have HCT:=Lib.hid hct
 have htm:=hti.m
 dsimp only at htm
 clear hR2 hti hpt hct HR
 go_loopw [9] (fun c wr=>∃ (j:Nat) (g:Gu),j≤l.length∧c=.int .i64 j∧Loc w0 wr ((b2,108,g.cells)::(bs,153,stC ⟨ik,k,a,ib,n,ig⟩ at' ⟨xn,⟨xp,xvn,xc⟩,⟨xfp,d.fields.length,xfc⟩⟩ ⟨sp,sn,sc⟩ wg fl)::(A++Re)) ((fun w=>qq w g (qM d n (l.take j)))::(fun w=>ym w evs es)::D)) (fun c _=>l.length - (intOf c).toNat)
 case atStart=>exact⟨0,qu,Nat.zero_le _,rfl,(hL.perm (List.Perm.swap _ _ _)).pure (fun w=>by rw[HG0.out];exact⟨rfl,zp.nil w⟩)⟩
 case round=>
  obtain⟨j,g,hj,rfl,hL⟩:=hrel
  by_cases hlt:j<l.length
  ·obtain⟨m,hm1,hm2,hm3⟩:=HSO.out j hlt
   obtain⟨r,bg,og,t,hr1,hr2,hr3,hr4,hr5,hr6⟩:=H1.out m hm2 hm3
   have hrl:=HRW.out m hm2 hm3
   have hrt:=zg.cell (P:=Tryz.prog) QQ (HCT.out j hlt).1 ((HCT.out j hlt).2 0 _ rfl)
   simp only[Nat.mul_one,Nat.add_zero]at hrt
   rw[hm1]at hrt
   have hpp:=HPT.out (by show 0<l.length;omega)
   have hpp2:=HPF.out (by omega)
   dsimp only at hpp
   subst hpp hpp2
   clear HPT HPF
   have hgd:=hL.get (S:=fun w=>qq w g (qM d n (l.take j))) List.mem_cons_self
   have hnx:=HGN.out j hlt
   rw[hm1]at hnx
   have hbo:=fun w' (hb:Below wr.heap.size wr w')=>Yu 60 both KU Js g ((d.field m n).gu t) (qM d n (l.take j)).l (d.field m n).l w' (hgd.l.grow hb) (hr6.grow (hL.below.trans (hb.mono hL.below.size))) (by have:=HLEN.out j hj;omega)
   have hq:∀ r,(⟨g.null || (d.field m n).null,both g.span (d.field m n).span,g.tr || (d.field m n).tr,g.fa || (d.field m n).fa,r⟩:Gu)=(qB both (qM d n (l.take j)) (d.field m n)).gu r:=fun r=>by rw[hgd.e]
   have hq2:y7 (qM d n (l.take j)).l (d.field m n).l=(qB both (qM d n (l.take j)) (d.field m n)).l:=rfl
   dsimp only[Res.gu]at hbo
   simp only[hq]at hbo
   rw[hq2]at hbo
   have hmm:((m:Int)).toNat=m:=rfl
   rw[hmm]at hnx
   clear hq hq2 hgd hrl hr6 hmm
   generalize hB:qB both (qM d n (l.take j)) (d.field m n)=B at hbo hnx
   clear hB
   dsimp only[Pd.field,Pd.row]at hr5 hbo
   generalize (d.fields.getD m []).getD n zy=fd at hr5 hbo
   obtain⟨rp,rn,rc⟩:=r
   obtain⟨t1,t2,t3⟩:=t
   obtain⟨fn1,⟨fs,flo,fhi⟩,ft,ff,fl'⟩:=fd
   obtain⟨Bn,⟨Bs,Blo,Bhi⟩,Bt,Bf,Bl⟩:=B
   dsimp only[Res.gu,Sl.v]at hr1 hr2 hr3 hr4 hr5 hbo
   subst hr1
   obtain⟨gn,⟨gsn,glo,ghi⟩,gt,gff,⟨gp,gk,gc⟩⟩:=g
   have HRT:=Lib.hid hrt
   have HR4:=Lib.hid hr4
   have HR5:=Lib.hid hr5
   have HBO:=Lib.hid hbo
   have HNX:=Lib.hid hnx
   clear hrt hr4 hr5 hbo hnx hm1 hm3
   obtain⟨wq,hwq⟩:∃ x,x=wr:=⟨_,rfl⟩
   subst hwq
   go_upto_region 4 with(first|(with_reducible refine ldB HRT.out hL ?_)|(with_reducible first|refine lld hL ?_|((first|refine lbx hL ?_|refine lal hL ?_|refine lbs hL ?_);clear hL;intro bl w1 hL)|(refine zd hL ?_;clear hL;intro w1 hL)))
   refine zf [13,14,15,16,17,18,19,20,21,22,23,24,25,26,27,28,29] ?_
   refine dv0 ?_
   refine dv0 ?_
   refine dv1 1 ?_
   refine dv1 2 ?_
   refine dv1 3 ?_
   refine dv1 4 ?_
   refine dv0 ?_
   refine dv2 5 6 ?_
   apply zb
   ·intro g w hb y;replace hL:=hL.grow hb;have d7:=yv y 7;clear y;simp only[za,fLa,fLb,sTa,sTb];simp only[d7]
    refine zo HR4.out hL rfl rfl ?_
    exact cY
   simp only[apN,apC]
   refine dv0 ?_
   refine dv1 9 ?_
   refine dv1 10 ?_
   refine dv1 11 ?_
   refine dv1 12 ?_
   refine dv2 8 13 ?_
   apply zb
   ·intro g w hb y;replace hL:=hL.grow hb;have d14:=yv y 14;clear y;simp only[za,fLa,fLb,sTa,sTb];simp only[d14]
    refine zo HR5.out hL rfl rfl ?_
    exact cY
   simp only[apN,apC]
   refine zh (GuR wq.heap.size Bn ⟨Bs,Blo,Bhi⟩ Bt Bf Bl) GuR.stable ?_ ?_
   ·intro g w hb y;replace hL:=hL.grow hb;have d0:=yv y 0;have d15:=yv y 15;clear y;simp only[za,fLa,fLb,sTa,sTb];simp only[d0,d15]
    go_wp2_with (go_at_call 104;refine(HBO.out _ hb).mono ?_;rintro e w3 ⟨r,rfl,⟨R,hr,ho⟩,hb3⟩;dsimp only)
    exact⟨rfl,_,rfl,hb3,r,R,rfl,hr,ho.mono hb.size⟩
   simp only[apN,apC]
   refine zO hL (by kernel_rfl) (by kernel_rfl) ?_
   intro g w2 hb hR;simp only[List.length_cons,List.length_nil,Nat.reduceAdd]at hR
   have e0:=yv hR 0
   have e1:=yv hR 1
   have e2:=yv hR 2
   have e3:=yv hR 3
   have e4:=yv hR 4
   have e5:=yv hR 5
   have e6:=yv hR 6
   have e7:=yv hR 7
   have e8:=yv hR 8
   have e9:=yv hR 9
   have e10:=yv hR 10
   have e11:=yv hR 11
   have e12:=yv hR 12
   have e13:=yv hR 13
   have e14:=yv hR 14
   have e15:=yv hR 15
   have e16:(GuR wq.heap.size Bn ⟨Bs,Blo,Bhi⟩ Bt Bf Bl) (g 29) w2:=yr hR 16
   obtain⟨⟨qf1,qf2,qf3⟩,Qf,e16,hSf,hOf⟩:=e16
   clear hR;simp only[za,fLa,fLb,sTa,sTb]
   simp only[e0,e1,e2,e3,e4,e5,e6,e7,e8,e9,e10,e11,e12,e13,e14,e15,e16]
   clear e0 e1 e2 e3 e4 e5 e6 e7 e8 e9 e10 e11 e12 e13 e14 e15 e16
   replace hL:=hL.more hb (Q4 hSf hOf);clear hSf hOf
   clear hb
   go_wp2_with (first|(with_reducible first|refine lld hL ?_|((first|refine lbx hL ?_|refine lal hL ?_|refine lbs hL ?_);clear hL;intro bl w1 hL)|(refine zd hL ?_;clear hL;intro w1 hL)))
   go_roundw
   case rel=>
    refine⟨j+1,⟨Bn,⟨Bs,Blo,Bhi⟩,Bt,Bf,⟨qf1,qf2,qf3⟩⟩,by omega,by go_num,hL.both fun w h1 _=>?_⟩
    rw[HNX.out]
    exact qq.mk' (d:=⟨Bn,⟨Bs,Blo,Bhi⟩,Bt,Bf,Bl⟩) h1
   case measure=>simp[intOf];omega
  ·obtain rfl:j=l.length:=by omega
   clear hlt
   rw[HGE.out]at hL
   have hM2:Stp w0 bs ⟨ik,k,a,ib,n,ig⟩ at' ⟨xn,⟨xp,xvn,xc⟩,⟨xfp,d.fields.length,xfc⟩⟩ es wg fl ((b2,108,g.cells)::A) ((fun w=>qq w g (qM d n l))::D) wr:=⟨⟨sp,sn,sc⟩,evs,Re,HR2.out,(hL.perm (List.Perm.swap _ _ _)).drop (List.Sublist.refl _) (fun S hS=>by
    rcases List.mem_cons.1 hS with rfl|hS
    ·exact List.mem_cons_of_mem _ List.mem_cons_self
    ·rcases List.mem_cons.1 hS with rfl|hS
     ·exact List.mem_cons_self
     ·exact List.mem_cons_of_mem _ (List.mem_cons_of_mem _ hS))⟩
   have HS3:=Lib.hid (HSET.out wr g _ _ hM2 List.mem_cons_self)
   clear hM2 HSET
   obtain⟨gn,⟨gsn,glo,ghi⟩,gt,gff,⟨gp,gk,gc⟩⟩:=g
   go_wp2_with (first|(go_at_call 153;refine HS3.out.mono ?_;rintro e w3 ⟨rfl,hM⟩;dsimp only)|(with_reducible first|refine lld hL ?_|((first|refine lbx hL ?_|refine lal hL ?_|refine lbs hL ?_);clear hL;intro bl w1 hL)|(refine zd hL ?_;clear hL;intro w1 hL)))
   (try simp only[Exit.inBlock,Exit.then]);(first|refine yP rfl rfl ?_|refine yQ rfl rfl ?_)
   obtain⟨s4,evs4,Re4,hR4,hL4⟩:=hM
   exact⟨rfl,s4,evs4,Re4,hR4,hL4.drop (.cons_cons _ (.cons _ (List.Sublist.refl _))) (fun S hS=>by
    rcases List.mem_cons.1 hS with rfl|hS
    ·exact List.mem_cons_self
    ·exact List.mem_cons_of_mem _ (List.mem_cons_of_mem _ hS))⟩
theorem Loc.facts1' {w0 w:World}{L:List zj}{D:List zw}{S U:zw}(h:Loc w0 w L (S::D)) (hu:∀ w,S w→U w):Loc w0 w L (U::D):=by
 have h2:=h.drop (List.Sublist.refl _) (D':=S::S::D) (fun V hV=>by
  rcases List.mem_cons.1 hV with rfl|hV
  ·exact List.mem_cons_self
  ·exact hV)
 exact h2.both (fun w h1 _=>hu w h1)
theorem ze6:∀ args w,(callFunc 198 args).run Tryz.prog w=.ok (.enter 198 args) w:=fun args w=>by kernel_rfl
theorem Xn (H V:zj) (R A Ra Rb N:List zj):(A++(([V]++((Ra++(R++Rb))++[H]))++N)).Perm (H::(R++(V::(A++(Ra++(Rb++N)))))):=by
 have e1:A++(([V]++((Ra++(R++Rb))++[H]))++N)=A++(V::(Ra++(R++(Rb++(H::N))))):=by simp
 rw[e1]
 refine List.perm_middle.trans ?_
 have e2:(A++(Ra++(R++(Rb++(H::N))))).Perm (H::(R++(A++(Ra++(Rb++N))))):=by
  have a1:(Rb++(H::N)).Perm (H::(Rb++N)):=List.perm_middle
  have a2:(R++(Rb++(H::N))).Perm (H::(R++(Rb++N))):=(a1.append_left R).trans List.perm_middle
  have a3:(Ra++(R++(Rb++(H::N)))).Perm (H::(Ra++(R++(Rb++N)))):=(a2.append_left Ra).trans List.perm_middle
  have a4:(A++(Ra++(R++(Rb++(H::N))))).Perm (H::(A++(Ra++(R++(Rb++N))))):=(a3.append_left A).trans List.perm_middle
  refine a4.trans (List.Perm.cons _ ?_)
  have b1:(Ra++(R++(Rb++N))).Perm (R++(Ra++(Rb++N))):=List.perm_append_comm_assoc _ _ _
  exact(b1.append_left A).trans (List.perm_append_comm_assoc _ _ _)
 exact(e2.cons V).trans ((List.Perm.swap _ _ _).trans (List.Perm.cons _ List.perm_middle.symm))
def jr (ds:List Res) (j:Nat):List Res:=(ds.take j).map (fun g=>{ g with null:=true })++ds.drop j
theorem U7 (ds:List Res):jr ds ds.length=ds.map fun g=>{ g with null:=true }:=by simp[jr]
theorem U8 (ds:List Res) {j:Nat}(hj:j≤ds.length):(jr ds j).length=ds.length:=by simp[jr];omega
theorem Xo (ds:List Res) {j:Nat}(hj:j<ds.length):(jr ds j).getD j zy=ds.getD j zy:=by
 unfold jr
 rw[y4 (by simp;omega)]
 have:j - ((ds.take j).map (fun g:Res=>{ g with null:=true })).length=0:=by simp;omega
 rw[this]
 simp[List.getD_eq_getElem?_getD]
theorem Uh (ds:List Res) {j:Nat} (hj:j<ds.length):(jr ds j).set j { ds.getD j zy with null:=true }=jr ds (j+1):=by
 unfold jr
 have hl:((ds.take j).map (fun g:Res=>{ g with null:=true })).length=j:=by simp;omega
 rw[List.set_append_right _ _ (by omega),hl,Nat.sub_self,QC ds j zy hj,List.map_append,List.append_assoc]
 congr 1
 rw[List.drop_eq_getElem_cons hj,List.set_cons_zero,List.getD_eq_getElem?_getD,List.getElem?_eq_getElem hj]
 rfl
theorem YF {cs:List Value}{k:Nat}{a b:Value}{l:List Value}(h:(cs.drop k).take (l.length+1)=a::l):zk cs k [b]=zk cs k (b::l):=by
 have e1:cs.drop k=a::(l++cs.drop (k+(l.length+1))):=by
  conv=>lhs;rw[← List.take_append_drop (l.length+1) (cs.drop k),h,List.drop_drop]
  rfl
 have e2:cs.drop (k+1)=l++cs.drop (k+(l.length+1)):=by
  rw[← List.drop_drop,e1];rfl
 unfold zk
 simp only[List.length_cons,List.length_nil,Nat.zero_add]
 rw[e2]
 simp
theorem X0 (w0:World) (bs bp:Nat) (i:Ins) (at' : Nat) (x:Pv) (wr fl:Bool) (A:List zj) (D:List zw) (d:Pd) (k:Nat) (hi:i.to=k) (hk:k<d.vars.length) (hat:at' < d.fields.length) (hrow:(d.row at').length≤1000):
  U9 w0 bs i at' x wr fl ((bp,151,[.pointer (some ⟨bs,0,none⟩)])::A) D 198 [.pointer (some ⟨bp,0,none⟩)] d (KT d at' k):=by
 intro bx r s N D2 w hsub hrn hP
 obtain⟨gv,gf,rs,Rv,Rh,Rf,hO,hL⟩:=hP
 have hgd:=hL.get (S:=zS gv gf d.vars d.fields) List.mem_cons_self
 have hn:=hO.vars.flatlen jl (by decide)
 have hgl:=hgd.1.len
 obtain⟨bv,cs,hp,rfl,htk,hlen⟩:=hO.vars.block (by omega)
 have hle:=hO.vars.fits
 have hkn:k<r.vars.n:=by omega
 have hput:=fun g=>hO.vars.put jl zT (k:=k) (by omega) g
 have hfn:r.fields.n=d.fields.length:=by
  have h1:=hO.heads.flatlen (f:=Sl.row) (es:=1) (fun _=>rfl) (by decide)
  rw[h1,hO.rows.len,hgd.2.len]
 obtain⟨bh,ch,hph,rfl,-,-⟩:=hO.heads.block (by omega)
 have hch:=hO.heads.at1 (k:=at') (by omega)
 obtain⟨Ra,R,Rb,rfl,hRow,hrep⟩:=hO.rows.get at' (by rw[hO.rows.len,hgd.2.len];exact hat)
 have hg1:=hgd.2.at' at' hat
 have hrn2:=hRow.flatlen jl (by decide)
 have hrl:(rs.getD at' zn).n=(d.row at').length:=hrn2.trans hg1.len
 have HS:=Lib.hid (fun g:Gu=>show k*7+g.cells.length≤cs.length by show k*7+7≤_;rw[hlen];omega)
 have HO:=Lib.hid (And.intro hO.heads hput)
 have HREP:=Lib.hid hrep
 have HROW:=Lib.hid hRow
 have HCH:=Lib.hid (show ze Tryz.prog 51 ch at' (rs.getD at' zn).v from ze.cell yA hch)
 have hmax:=hRow.max
 have hL1:Loc w0 w ((bx,54,r.cells)::(bs,153,stC i at' x s wr fl)::(bp,151,[.pointer (some ⟨bs,0,none⟩)])::(bh,51,ch)::(bv,108,cs)::(R++(A++(Ra++(Rb++N))))) (zS gv gf d.vars d.fields::D2):=
  hL.perm (((((Xn (bh,51,ch) (bv,108,cs) R A Ra Rb N).trans (List.perm_middle.cons _)).cons _).cons _).cons _).symm
 replace hL:=hL1
 have hfm:=hO.heads.max
 clear hL1 hO hput hn hgl htk hlen hle hgd hsub hrep hRow hch hrn2 hg1
 have HN1:=Lib.hid (fun j (hj:j<(d.row at').length)=>And.intro (Uh (d.row at') hj) (Xo (d.row at') hj))
 have HND:=Lib.hid (show KT d at' k=⟨d.none,d.vars.set k (Yy at'),d.fields.set at' (jr (d.row at') (d.row at').length)⟩ by rw[U7];rfl)
 have HNL:=Lib.hid (fun j (hj:j≤(d.row at').length)=>U8 (d.row at') hj)
 have HN0:=Lib.hid (show jr (d.row at') 0=d.fields.getD at' [] by simp[jr,Pd.row])
 generalize rs.getD at' zn=row at HROW HREP HCH hrl hmax
 generalize d.row at'=dr at *
 generalize KT d at' k=d2 at HND ⊢
 obtain⟨rn,⟨vp,vn,vc⟩,⟨fp,fn,fc⟩⟩:=r
 obtain⟨rwp,rwn,rwc⟩:=row
 obtain⟨ik,ito,ia,ib,inn,ig⟩:=i
 dsimp only at hp hph hfn hfm hi hkn hrn hrl hmax
 dsimp only[Sl.v]at HCH
 subst hp hph hi hrn hfn hrl
 go_enter Tryz.func198,Tryz.ntmps198
 have hr1:=hL.readsG (b:=bp) (Tv:=151) (off:=0) (v:=.pointer (some ⟨bs,0,none⟩)) cIn (ze.cell jz rfl)
 have hr2:=hL.readsG (b:=bs) (Tv:=3) (off:=6) (v:=.int .i64 at') cIn (ze.cell QQ rfl)
 have HW:=Lib.hid (fun w' (hb:Below w.heap.size w w')=>GW bp bs at' w' (hr1.grow hb) (hr2.grow hb))
 clear hr1 hr2
 obtain⟨wq,hwq⟩:∃ x,x=w:=⟨_,rfl⟩
 subst hwq
 go_upto_region 0 with(fail)
 refine zf [4,5,6,7,8,9,10,11,12,13,14,15] ?_
 refine dv0 ?_
 refine dv1 0 ?_
 refine dv1 1 ?_
 refine dv1 2 ?_
 apply zb
 ·intro g w hb y;replace hL:=hL.grow hb;clear y;simp only[za,fLa,fLb,sTa,sTb]
  refine ldO (ze.cell jz rfl) hL ?_
  exact cY
 simp only[apN,apC]
 refine dv1 4 ?_
 refine dv1 5 ?_
 refine dv1 6 ?_
 refine dv1 7 ?_
 refine dv0 ?_
 refine zh (zd2 wq at') zd2.stable ?_ ?_
 ·intro g w hb y;replace hL:=hL.grow hb;have d9:=yv y 9;clear y;simp only[za,fLa,fLb,sTa,sTb];simp only[d9]
  go_wp2_with (go_at_call 196;refine(HW.out _ hb).mono ?_;rintro e w3 ⟨g',rfl,hG⟩;dsimp only)
  exact⟨rfl,_,rfl,hG.below,g',rfl,Loc.since hb hG⟩
 simp only[apN,apC]
 refine dv2 3 8 ?_
 refine zO hL (by kernel_rfl) (by kernel_rfl) ?_
 intro g w2 hb hR;simp only[List.length_cons,List.length_nil,Nat.reduceAdd]at hR
 have e0:=yv hR 0
 have e1:=yv hR 1
 have e2:=yv hR 2
 have e3:=yv hR 3
 have e4:=yv hR 4
 have e5:=yv hR 5
 have e6:=yv hR 6
 have e7:=yv hR 7
 have e8:=yv hR 8
 have e9:=yv hR 9
 have e10:(zd2 wq at') (g 14) w2:=yr hR 10
 obtain⟨⟨gn,⟨gsn,glo,ghi⟩,gt,gff,⟨gp,gk,gc⟩⟩,e10,hG⟩:=e10;have hL0:=hL;have hb0:=hb
 have e11:=yv hR 11
 clear hR;simp only[za,fLa,fLb,sTa,sTb]
 simp only[e0,e1,e2,e3,e4,e5,e6,e7,e8,e9,e10,e11]
 clear e0 e1 e2 e3 e4 e5 e6 e7 e8 e9 e10 e11
 replace hL:=hL.grow hb
 clear hb
 clear hL
 have hL:=hL0.gave hG
 clear hL0 hb0 hG
 simp only[List.append_nil,List.cons_append,List.nil_append]at hL
 go_upto_region 1 with(first|(refine qa (b:=bv) (off:=k*7) (vs:=Gu.cells ⟨gn,⟨gsn,glo,ghi⟩,gt,gff,⟨gp,gk,gc⟩⟩) (cs':=zk cs (k*7) (Gu.cells ⟨gn,⟨gsn,glo,ghi⟩,gt,gff,⟨gp,gk,gc⟩⟩)) hL rfl rfl cIn rfl zZ.sz rfl (HS.out ⟨gn,⟨gsn,glo,ghi⟩,gt,gff,⟨gp,gk,gc⟩⟩) rfl ?_;clear hL;intro w1 hL)|(with_reducible first|refine lld hL ?_|((first|refine lbx hL ?_|refine lal hL ?_|refine lbs hL ?_);clear hL;intro bl w1 hL)|(refine zd hL ?_;clear hL;intro w1 hL)))
 have HPUT:=Lib.hid (HO.out.2 ⟨gn,⟨gsn,glo,ghi⟩,gt,gff,⟨gp,gk,gc⟩⟩)
 have HHD:=Lib.hid HO.out.1
 clear HO
 dsimp only at HPUT HHD
 replace hL:=hL.both (U:=zS (gv.set k ⟨gn,⟨gsn,glo,ghi⟩,gt,gff,⟨gp,gk,gc⟩⟩) gf (d.vars.set k (Yy at')) d.fields) (fun w h1 h2=>⟨h2.1.set hk h1,h2.2⟩)
 generalize zk cs (k*7) (Gu.cells ⟨gn,⟨gsn,glo,ghi⟩,gt,gff,⟨gp,gk,gc⟩⟩)=csn at hL HPUT
 generalize gv.set k ⟨gn,⟨gsn,glo,ghi⟩,gt,gff,⟨gp,gk,gc⟩⟩=gvn at hL HPUT
 replace hL:=(hL.drop (List.Sublist.refl _) (D':=zS gvn gf (d.vars.set k (Yy at')) d.fields::zS gvn gf (d.vars.set k (Yy at')) d.fields::zS gvn gf (d.vars.set k (Yy at')) d.fields::D2) (fun S hS=>by
  simp only[List.mem_cons]at hS ⊢
  rcases hS with h|h|h|h
  ·exact .inl h
  ·exact .inl h
  ·exact .inl h
  ·exact .inr h)).both (U:=fun w=>zX w (gf.getD at' []) (jr dr 0)) (fun w h1 _=>by rw[HN0.out];exact h1.2.at' at' hat)
 generalize gf.getD at' []=gl0 at hL HROW
 clear HS
 obtain⟨wq2,hwq2⟩:∃ x,x=w1:=⟨_,rfl⟩
 subst hwq2
 refine zf [16,17,18,19,20,21,22,23,24,25,26,27] ?_
 refine dv0 ?_
 refine dv1 0 ?_
 refine dv1 1 ?_
 refine dv1 2 ?_
 apply zb
 ·intro g w hb y;replace hL:=hL.grow hb;clear y;simp only[za,fLa,fLb,sTa,sTb]
  refine ldO (ze.cell jz rfl) hL ?_
  exact cY
 simp only[apN,apC]
 refine dv1 4 ?_
 refine dv1 5 ?_
 refine dv1 6 ?_
 refine dv2 3 7 ?_
 apply zb
 ·intro g w hb y;replace hL:=hL.grow hb;have d8:=yv y 8;clear y;simp only[za,fLa,fLb,sTa,sTb];simp only[d8]
  refine zR hL rfl rfl cIn HCH.out ?_
  exact cY
 simp only[apN,apC]
 refine dv1 9 ?_
 refine dv0 ?_
 refine dnd hL ?_
 clear hL;intro w1 hL;simp only[zV,sTa,sTb]
 go_wp2_with (first|(with_reducible first|refine lld hL ?_|((first|refine lbx hL ?_|refine lal hL ?_|refine lbs hL ?_);clear hL;intro bl w1 hL)|(refine zd hL ?_;clear hL;intro w1 hL)))
 go_loopw [27] (fun c wz=>∃ (j:Nat) (gl:List Gu) (R' : List zj),j≤dr.length∧c=.int .i64 j∧zM 108 7 rwp dr.length rwc (gl.flatMap Gu.cells) R'∧Loc w0 wz ((bx,54,[.bool false,.slice (some ⟨bv,0,none⟩) vn vc,.slice (some ⟨bh,0,none⟩) d.fields.length fc])::(bs,153,stC ⟨ik,k,ia,ib,inn,ig⟩ at' x s wr fl)::(bp,151,[.pointer (some ⟨bs,0,none⟩)])::(bh,51,ch)::(bv,108,csn)::(R'++(A++(Ra++(Rb++N))))) ((fun w=>zX w gl (jr dr j))::zS gvn gf (d.vars.set k (Yy at')) d.fields::D2)) (fun c _=>dr.length - (intOf c).toNat)
 case atStart=>exact⟨0,gl0,R,Nat.zero_le _,rfl,HROW.out,hL⟩
 case round=>
  obtain⟨j,gl,R',hj,rfl,hS,hL⟩:=hrel
  by_cases hlt:j<dr.length
  ·obtain⟨br,cr,hpr,rfl,htk,hlen⟩:=hS.block (by omega)
   have hel:=hS.elem jl zT (k:=j) hlt
   have hput:=hS.put jl zT (k:=j) hlt { gl.getD j zT with null:=true }
   have hsp:zk cr (j*7) [.bool true]=zk cr (j*7) (Gu.cells { gl.getD j zT with null:=true }):=YF hel
   rw[← hsp]at hput
   have hfit:=hS.fits
   have HSZ:=Lib.hid (show j*7+1≤cr.length by omega)
   have HPJ:=Lib.hid hput
   have HDN:=Lib.hid (fun w (h:zX w gl (jr dr j))=>show zX w (gl.set j { gl.getD j zT with null:=true }) (jr dr (j+1)) by
    rw[← (HN1.out j hlt).1]
    have h3:=h.at' j (by rw[HNL.out j hj];exact hlt)
    rw[(HN1.out j hlt).2]at h3
    exact h.set (by rw[HNL.out j hj];exact hlt) ⟨congrArg (fun g:Gu=>{ g with null:=true }) h3.e,h3.l⟩)
   clear hel hput hsp htk hlen hfit hS HPUT HHD HREP HROW HND
   generalize gl.set j { gl.getD j zT with null:=true }=gl2 at HPJ HDN
   subst hpr
   simp only[List.cons_append,List.nil_append]at hL
   obtain⟨wq3,hwq3⟩:∃ x,x=wr:=⟨_,rfl⟩
   subst hwq3
   go_upto_region 4 with(first|(with_reducible first|refine lld hL ?_|((first|refine lbx hL ?_|refine lal hL ?_|refine lbs hL ?_);clear hL;intro bl w1 hL)|(refine zd hL ?_;clear hL;intro w1 hL)))
   refine zf [30,31,32,33,34,35,36,37,38,39,40,41,42] ?_
   refine dv0 ?_
   refine dv1 0 ?_
   refine dv1 1 ?_
   refine dv1 2 ?_
   apply zb
   ·intro g w hb y;replace hL:=hL.grow hb;clear y;simp only[za,fLa,fLb,sTa,sTb]
    refine ldO (ze.cell jz rfl) hL ?_
    exact cY
   simp only[apN,apC]
   refine dv1 4 ?_
   refine dv1 5 ?_
   refine dv1 6 ?_
   refine dv2 3 7 ?_
   apply zb
   ·intro g w hb y;replace hL:=hL.grow hb;have d8:=yv y 8;clear y;simp only[za,fLa,fLb,sTa,sTb];simp only[d8]
    refine zR hL rfl rfl cIn HCH.out ?_
    exact cY
   simp only[apN,apC]
   refine dv0 ?_
   refine dv2 9 10 ?_
   refine dv1 11 ?_
   refine dnd hL ?_
   clear hL;intro w1 hL;simp only[zV,sTa,sTb]
   go_wp2_with (first|(refine qa (b:=br) (off:=j*7) (vs:=[.bool true]) (cs':=zk cr (j*7) [.bool true]) hL rfl rfl cIn rfl Zh.sz rfl HSZ.out rfl ?_;clear hL;intro w' hL)|(with_reducible first|refine lld hL ?_|((first|refine lbx hL ?_|refine lal hL ?_|refine lbs hL ?_);clear hL;intro bl w1 hL)|(refine zd hL ?_;clear hL;intro w1 hL)))
   go_roundw
   case rel=>exact⟨j+1,gl2,[(br,108,zk cr (j*7) [.bool true])],by omega,by go_num,HPJ.out,hL.facts1' HDN.out⟩
   case measure=>simp[intOf];omega
  ·obtain rfl:j=dr.length:=by omega
   clear hlt
   go_wp2_with (first|(with_reducible first|refine lld hL ?_|((first|refine lbx hL ?_|refine lal hL ?_|refine lbs hL ?_);clear hL;intro bl w1 hL)|(refine zd hL ?_;clear hL;intro w1 hL)))
   (try simp only[Exit.inBlock,Exit.then]);(first|refine yP rfl rfl ?_|refine yQ rfl rfl ?_)
   refine⟨rfl,gvn,gf.set at' gl,rs,[(bv,108,csn)],[(bh,51,ch)],Ra++(R'++Rb),⟨HPUT.out,HHD.out,HREP.out gl R' hS⟩,?_⟩
   exact(hL.perm (((((Xn (bh,51,ch) (bv,108,csn) R' A Ra Rb N).trans (List.perm_middle.cons _)).cons _).cons _).cons _)).both (U:=zS gvn (gf.set at' gl) d2.vars d2.fields) (fun w h1 h2=>by
    rw[HND.out]
    exact⟨h2.1,h2.2.set hat h1⟩)
theorem Stp.drop1 {w0:World}{bs:Nat}{i:Ins}{at' : Nat}{x:Pv}{es:List (Int × Pd)}{wr fl:Bool}{A:List zj}{U:zj}{D:List zw}{w:World}(h:Stp w0 bs i at' x es wr fl (U::A) D w):Stp w0 bs i at' x es wr fl A D w:=by
 obtain⟨s,evs,Re,hR,hL⟩:=h
 exact⟨s,evs,Re,hR,hL.drop (.cons_cons _ (.cons _ (List.Sublist.refl _))) (fun _ h=>h)⟩
theorem Stp.push1 {w0:World}{bs:Nat}{i:Ins}{at' : Nat}{x:Pv}{wr fl:Bool}{A:List zj}{U:zj}{D:List zw}{w:World}{s:Sl}{evs:List EdV}{Re:List zj}{es:List (Int × Pd)}(hR:zM 75 4 s.p s.n s.cap (evs.flatMap EdV.cells) Re)
  (hL:Loc w0 w (U::(bs,153,stC i at' x s wr fl)::(A++Re)) ((fun w=>ym w evs es)::D)):Stp w0 bs i at' x es wr fl (U::A) D w:=
 ⟨s,evs,Re,hR,hL.perm (List.Perm.swap _ _ _)⟩
theorem za5 (w0:World) (bs:Nat) (i:Ins) (at' : Nat) (x:Pv) (d:Pd) (es:List (Int × Pd)) (wr fl:Bool) (A:List zj) (D:List zw) (w:World) (k:Nat)
  (h:Stp w0 bs i at' x es wr fl A D w) (ok:qS w0 x d) (hi:i.to=k) (hk:k<d.vars.length) (hle:es.length≤10) (ha:at'≤1000000) (hat:at' < d.fields.length) (hrow:(d.row at').length≤1000):
  Calls Tryz.prog 155 #[.pointer (some ⟨bs,0,none⟩)] w fun e w'=>e=.returned (.tuple #[])∧Stp w0 bs i at' x (es++[((at' : Int)+1,KT d at' k)]) wr fl A D w':=by
 obtain⟨s,evs,Re,hR,hL⟩:=h
 have HE:=Lib.hid (fun (bp:Nat) (w1:World) (h1:Stp w0 bs i at' x es wr fl ((bp,151,[.pointer (some ⟨bs,0,none⟩)])::A) D w1)=>J8 w0 bs i at' x d (KT d at' k) es wr fl _ D w1 ((at' : Int)+1) 198 [.pointer (some ⟨bp,0,none⟩)] ze6 h1 ok.x ok.n ok.few ok.own ok.n (by show (d.vars.set k _).length+(d.fields.set at' _).length≤_;rw[List.length_set,List.length_set];exact ok.m) hle (X0 w0 bs bp i at' x wr fl A D d k hi hk hat hrow))
 have HR:=Lib.hid hR
 clear hR ok
 generalize KT d at' k=d' at *
 obtain⟨sp,sn,sc⟩:=s
 obtain⟨ik,ito,ia,ib,inn,ig⟩:=i
 dsimp only at hi
 subst hi
 obtain⟨xn,⟨xp,xvn,xc⟩,⟨xfp,xfn,xfc⟩⟩:=x
 go_enter Tryz.func155,Tryz.ntmps155
 go_upto_region 1 with(first|((with_reducible refine lbx hL ?_);clear hL;intro bp w1 hL)|(with_reducible first|refine lld hL ?_|((first|refine lbx hL ?_|refine lal hL ?_|refine lbs hL ?_);clear hL;intro bl w1 hL)|(refine zd hL ?_;clear hL;intro w1 hL)))
 obtain⟨wq,hwq⟩:∃ x,x=w1:=⟨_,rfl⟩
 subst hwq
 refine zf [2,3,4,5,6,7,8] ?_
 apply zb
 ·intro g w hb y;replace hL:=hL.grow hb;clear y;simp only[za,fLa,fLb,sTa,sTb]
  refine ldO (ze.cell jz rfl) hL ?_
  exact cY
 simp only[apN,apC]
 apply zb
 ·intro g w hb y;replace hL:=hL.grow hb;clear y;simp only[za,fLa,fLb,sTa,sTb]
  refine ldO (ze.cell jz rfl) hL ?_
  exact cY
 simp only[apN,apC]
 refine dv1 1 ?_
 refine dv1 2 ?_
 refine dv1 3 ?_
 refine dv1 4 ?_
 refine dv0 ?_
 refine dnd hL ?_
 clear hL;intro w2 hL;simp only[zV,sTa,sTb]
 have HM:=Lib.hid (HE.out bp w2 (Stp.push1 HR.out hL))
 clear HE
 go_wp2_with (first|(go_at_call 162;refine HM.out.mono ?_;rintro e w3 ⟨rfl,hM⟩;dsimp only))
 (try simp only[Exit.inBlock,Exit.then]);(first|refine yP rfl rfl ?_|refine yQ rfl rfl ?_)
 exact⟨rfl,hM.drop1⟩
theorem ze7:∀ args w,(callFunc 163 args).run Tryz.prog w=.ok (.enter 163 args) w:=fun args w=>by kernel_rfl
theorem ze8:∀ args w,(callFunc 164 args).run Tryz.prog w=.ok (.enter 164 args) w:=fun args w=>by kernel_rfl
theorem za6 (w0:World) (bs:Nat) (i:Ins) (at' : Nat) (x:Pv) (wr fl:Bool) (A:List zj) (D:List zw) (d:Pd):U9 w0 bs i at' x wr fl A D 163 [] d d:=by
 intro bx r s N D2 w hsub hrn hP
 go_enter Tryz.func163,Tryz.ntmps163
 go_wp2
 (try simp only[Exit.inBlock,Exit.then]);(first|refine yP rfl rfl ?_|refine yQ rfl rfl ?_)
 exact⟨rfl,hP⟩
theorem za7 (w0:World) (bs:Nat) (i:Ins) (at' : Nat) (x:Pv) (wr fl:Bool) (A:List zj) (D:List zw) (d:Pd):U9 w0 bs i at' x wr fl A D 164 [] d d:=by
 intro bx r s N D2 w hsub hrn hP
 go_enter Tryz.func164,Tryz.ntmps164
 go_wp2
 (try simp only[Exit.inBlock,Exit.then]);(first|refine yP rfl rfl ?_|refine yQ rfl rfl ?_)
 exact⟨rfl,hP⟩
structure YG (d e:Pd):Prop where
 vars:e.vars=d.vars
 none:e.none=d.none
 len:e.fields.length=d.fields.length
 rows:∀ m,m<d.fields.length→(e.row m).length=(d.row m).length
theorem YG.refl (d:Pd):YG d d:=⟨rfl,rfl,rfl,fun _ _=>rfl⟩
theorem YG.set {d e:Pd}(h:YG d e) (m n:Nat) (g:Res):YG d (e.setField m n g):=by
 refine⟨h.vars,h.none,by show (e.fields.set m _).length=_;rw[List.length_set];exact h.len,fun k hk=>?_⟩
 show ((e.fields.set m ((e.row m).set n g)).getD k []).length=_
 by_cases hm:m<e.fields.length
 ·rw[qy _ _ _ _ _ hm]
  by_cases hkm:k=m
  ·rw[if_pos hkm,List.length_set,← h.rows k hk,hkm]
  ·rw[if_neg hkm];exact h.rows k hk
 ·rw[List.set_eq_of_length_le (by omega)];exact h.rows k hk
theorem Yn (n:Nat) (b:Res) (d0:Pd):∀ (l:List Int) (d:Pd),YG d0 d→YG d0 (yZ d n b l)
 | [],_,h=>h
 | s::l,d,h=>Yn n b d0 l _ (h.set _ _ _)
theorem Xp (d:Pd) (n:Nat) (b:Res) (l:List Int) (k:Nat) (hk:k<l.length):yZ d n b (l.take (k+1))=(yZ d n b (l.take k)).setField (l.getD k 0).toNat n (qB both ((yZ d n b (l.take k)).field (l.getD k 0).toNat n) b):=by
 unfold yZ
 rw[QC l k 0 hk,List.foldl_append]
 rfl
theorem GQ (Z:zj) (A Rv Ra Rb N:List zj):(A++(Rv++((Ra++([Z]++Rb))++N))).Perm (Z::(A++(Rv++(Ra++(Rb++N))))):=by
 have e1:A++(Rv++((Ra++([Z]++Rb))++N))=A++(Rv++(Ra++(Z::(Rb++N)))):=by simp
 rw[e1]
 have a1:(Ra++(Z::(Rb++N))).Perm (Z::(Ra++(Rb++N))):=List.perm_middle
 have a2:(Rv++(Ra++(Z::(Rb++N)))).Perm (Z::(Rv++(Ra++(Rb++N)))):=(a1.append_left Rv).trans List.perm_middle
 exact(a2.append_left A).trans List.perm_middle
theorem Xq (H:zj) (A Rv Rf N:List zj):(A++((Rv++(Rf++[H]))++N)).Perm (H::(A++(Rv++(Rf++N)))):=by
 have e1:A++((Rv++(Rf++[H]))++N)=A++(Rv++(Rf++(H::N))):=by simp
 rw[e1]
 have a1:(Rf++(H::N)).Perm (H::(Rf++N)):=List.perm_middle
 have a2:(Rv++(Rf++(H::N))).Perm (H::(Rv++(Rf++N))):=(a1.append_left Rv).trans List.perm_middle
 exact(a2.append_left A).trans List.perm_middle
theorem ze9:∀ args w,(callFunc 201 args).run Tryz.prog w=.ok (.enter 201 args) w:=fun args w=>by kernel_rfl
theorem zcK (w0:World) (bs b1 bp:Nat) (i:Ins) (at' : Nat) (x:Pv) (wr' fl:Bool) (A:List zj) (D:List zw) (d:Pd) (n b:Nat) (t:Sl) (l:List Int) (hin:i.n=n) (hib:i.b=b) (hb:b<d.vars.length) (hx:zN w0 x d) (ht:zp w0 t l) (hs:UD d n l) (hf0:0<d.fields.length)
  (hlb:(d.var b).l.length≤1000) (hlen:∀ j m,j≤l.length→m<d.fields.length→((yZ d n (d.var b) (l.take j)).field m n).l.length≤1000):
  U9 w0 bs i at' x wr' fl ((b1,37,[.slice t.p t.n t.cap])::(bp,151,[.pointer (some ⟨bs,0,none⟩)])::A) D 201 [.pointer (some ⟨b1,0,none⟩),.pointer (some ⟨bp,0,none⟩)] d (yZ d n (d.var b) l):=by
 intro bx r s N D2 w hsub hrn hP
 obtain⟨gv,gf,rs,Rv,Rh,Rf,hO,hL⟩:=hP
 have hgd:=hL.get (S:=zS gv gf d.vars d.fields) List.mem_cons_self
 have hfn:r.fields.n=d.fields.length:=by
  have h1:=hO.heads.flatlen (f:=Sl.row) (es:=1) (fun _=>rfl) (by decide)
  rw[h1,hO.rows.len,hgd.2.len]
 have hrsl:rs.length=d.fields.length:=by rw[hO.rows.len,hgd.2.len]
 obtain⟨bh,ch,hph,rfl,-,-⟩:=hO.heads.block (by omega)
 have hfm:=hO.heads.max
 have HCH:=Lib.hid (fun m (hm:m<d.fields.length)=>show ze Tryz.prog 51 ch m (rs.getD m zn).v from ze.cell yA (hO.heads.at1 (k:=m) (by omega)))
 have HRS:=Lib.hid (And.intro hO.rows (And.intro hO.vars hO.heads))
 obtain⟨sv,hlv,hiv⟩:=hx.vars.ex
 have hvn:=hx.vars.n
 have hvm:=hx.vars.m
 obtain⟨bo,oo,hpo,hco⟩:=hlv.ex
 have hpo2:=hpo (by omega)
 have HBG:=Lib.hid (show zg Tryz.prog 108 w0 bo (oo+b*7) ((d.var b).gu (sv b)).v from zg.agg (P:=Tryz.prog) zZ (hco b (by omega)).1 (hco b (by omega)).2 rfl)
 have HBI:=Lib.hid (show zp w0 (sv b) (d.var b).l from hiv b (by omega))
 have hbv:b<x.vars.n:=by omega
 obtain⟨bt,ot,hpt,hct⟩:=ht.at'.ex
 have htn:=ht.n
 have htm:=ht.m
 have HPT:=Lib.hid hpt
 have HCT:=Lib.hid hct
 have HSO:=Lib.hid hs.at'
 have HLEN:=Lib.hid hlen
 have HPN:=Lib.hid (fun j (hj:j<l.length)=>Xp d n (d.var b) l j hj)
 have HKP:=Lib.hid (fun j=>Yn n (d.var b) d (l.take j) d (YG.refl d))
 have HP0:=Lib.hid (show yZ d n (d.var b) (l.take 0)=d from rfl)
 have HPE:=Lib.hid (show yZ d n (d.var b) (l.take l.length)=yZ d n (d.var b) l by rw[List.take_length])
 have hL1:Loc w0 w ((bx,54,r.cells)::(bs,153,stC i at' x s wr' fl)::(b1,37,[.slice t.p t.n t.cap])::(bp,151,[.pointer (some ⟨bs,0,none⟩)])::(bh,51,ch)::(A++(Rv++(Rf++N)))) (zS gv gf (yZ d n (d.var b) (l.take 0)).vars (yZ d n (d.var b) (l.take 0)).fields::D2):=
  hL.perm (((((Xq (bh,51,ch) A Rv Rf N).cons _).cons _).cons _).cons _).symm
 clear hL
 have hL:=hL1
 clear hL1 hO hgd hx hlv hiv hpo hco hpt hct ht hs hlen hsub
 generalize hpd:(fun j=>yZ d n (d.var b) (l.take j))=pd
 have hpd2:∀ j,yZ d n (d.var b) (l.take j)=pd j:=fun j=>by rw[← hpd]
 simp only[hpd2]at HLEN HPN HKP HP0 HPE hL
 rw[← HPE.out]
 clear hpd hpd2 HPE
 generalize d.var b=bd at HBG HBI HPN hlb
 generalize sv b=tb at HBG HBI
 obtain⟨rn,⟨vp,vn,vc⟩,⟨fp,fn,fc⟩⟩:=r
 obtain⟨ik,ito,ia,ib,inn,ig⟩:=i
 obtain⟨xn,⟨xp,xvn,xc⟩,⟨xfp,xfn,xfc⟩⟩:=x
 obtain⟨tp,tn,tc⟩:=t
 dsimp only at hin hib hrn hph hfn hfm hpo2 hbv hvn hvm htn htm
 subst hin hib hrn hph hfn hpo2 htn
 go_enter Tryz.func201,Tryz.ntmps201
 go_upto_region 1 with(first|(with_reducible refine ldO (ze.cell Z7 rfl) hL ?_)|(with_reducible first|refine lld hL ?_|((first|refine lbx hL ?_|refine lal hL ?_|refine lbs hL ?_);clear hL;intro bl w1 hL)|(refine zd hL ?_;clear hL;intro w1 hL)))
 go_wp2_with (first|(with_reducible refine ldO (ze.cell Z7 rfl) hL ?_)|(with_reducible first|refine lld hL ?_|((first|refine lbx hL ?_|refine lal hL ?_|refine lbs hL ?_);clear hL;intro bl w1 hL)|(refine zd hL ?_;clear hL;intro w1 hL)))
 go_loopw [8] (fun c wz=>∃ (j:Nat) (gf' : List (List Gu)) (Rf' : List zj),j≤l.length∧c=.int .i64 j∧j9 rs gf' Rf'∧Loc w0 wz ((bx,54,[.bool false,.slice vp vn vc,.slice (some ⟨bh,0,none⟩) d.fields.length fc])::(bs,153,stC ⟨ik,ito,ia,b,n,ig⟩ at' ⟨xn,⟨some ⟨bo,oo,none⟩,xvn,xc⟩,⟨xfp,xfn,xfc⟩⟩ s wr' fl)::(b1,37,[.slice tp l.length tc])::(bp,151,[.pointer (some ⟨bs,0,none⟩)])::(bh,51,ch)::(A++(Rv++(Rf'++N)))) (zS gv gf' (pd j).vars (pd j).fields::D2)) (fun c _=>l.length - (intOf c).toNat)
 case atStart=>exact⟨0,gf,Rf,Nat.zero_le _,rfl,HRS.out.1,hL⟩
 case round=>
  obtain⟨j,gf',Rf',hj,rfl,hG,hL⟩:=hrel
  by_cases hlt:j<l.length
  ·obtain⟨m,hm1,hm2,hm3⟩:=HSO.out j hlt
   have hgd:=hL.get (S:=zS gv gf' (pd j).vars (pd j).fields) List.mem_cons_self
   have hkp:=HKP.out j
   obtain⟨Ra,R,Rb,rfl,hRow,hrep⟩:=hG.get m (by rw[hrsl];exact hm2)
   have hg1:=hgd.2.at' m (by rw[hkp.len];exact hm2)
   have hrn2:=hRow.flatlen jl (by decide)
   have hrl:(rs.getD m zn).n=(d.row m).length:=(hrn2.trans hg1.len).trans (hkp.rows m hm2)
   obtain⟨br,cr,hpr,rfl,htk,hlen⟩:=hRow.block (by omega)
   have hel:=hRow.elem jl zT (k:=n) (by omega)
   have hput:=fun g=>hRow.put jl zT (k:=n) (by omega) g
   have hfit:=hRow.fits
   have hmax:=hRow.max
   have hgn:=hg1.at' n (by rw[show ((pd j).fields.getD m []).length=(d.row m).length from hkp.rows m hm2];exact hm3)
   have HSZ:=Lib.hid (fun g:Gu=>show n*7+g.cells.length≤cr.length by show n*7+7≤_;rw[hlen];omega)
   have HPJ:=Lib.hid (fun g=>hrep _ _ (hput g))
   have HG1:=Lib.hid (show ze Tryz.prog 108 cr (n*7) ((gf'.getD m []).getD n zT).v from ze.agg zZ hel rfl)
   have HC1:=Lib.hid (HCH.out m hm2)
   have hpn:=HPN.out j hlt
   rw[hm1]at hpn
   obtain⟨fd,hfd⟩:∃ f,(pd j).field m n=f:=⟨_,rfl⟩
   replace hpn:pd (j+1)=(pd j).setField m n (qB both ((pd j).field m n) bd):=hpn
   rw[hfd]at hpn
   replace hgn:qq wr ((gf'.getD m []).getD n zT) fd:=by rw[← hfd];exact hgn
   have hfl:fd.l.length≤1000:=by rw[← hfd];exact HLEN.out j m hj hm2
   clear hfd
   generalize hgg:(gf'.getD m []).getD n zT=g at HG1 hgn
   clear hgg
   have hbo:=fun w' (hb2:Below wr.heap.size wr w')=>Yu 60 both KU Js g (bd.gu tb) fd.l bd.l w' (qq.l hgn |>.grow hb2) (HBI.out.grow (hL.below.trans (hb2.mono hL.below.size))) (by omega)
   have hq:∀ r,(⟨g.null || bd.null,both g.span bd.span,g.tr || bd.tr,g.fa || bd.fa,r⟩:Gu)=(qB both fd bd).gu r:=fun r=>by rw[hgn.e]
   have hq2:y7 fd.l bd.l=(qB both fd bd).l:=rfl
   dsimp only[Res.gu]at hbo
   simp only[hq]at hbo
   rw[hq2]at hbo
   have HDT:=Lib.hid (fun w' (q:Sl) (h1:zp w' q (qB both fd bd).l) (h2:zS gv gf' (pd j).vars (pd j).fields w')=>show zS gv (gf'.set m ((gf'.getD m []).set n ((qB both fd bd).gu q))) (pd (j+1)).vars (pd (j+1)).fields w' by
    rw[hpn]
    exact⟨h2.1,h2.2.set (by rw[hkp.len];exact hm2) ((h2.2.at' m (by rw[hkp.len];exact hm2)).set (by rw[show ((pd j).fields.getD m []).length=(d.row m).length from hkp.rows m hm2];exact hm3) (qq.mk' h1))⟩)
   have hrt:=zg.cell (P:=Tryz.prog) QQ (HCT.out j hlt).1 ((HCT.out j hlt).2 0 _ rfl)
   simp only[Nat.mul_one,Nat.add_zero]at hrt
   rw[hm1]at hrt
   have hpp:=HPT.out (by show 0<l.length;omega)
   (try dsimp only at hpp)
   subst hpp
   clear HPT hq hq2 hgd hg1 hgn hrn2 hrep hput hel htk hlen hfit hRow hpn hG hkp
   have hL1:=hL.perm ((((((GQ (br,108,cr) A Rv Ra Rb N).cons _).cons _).cons _).cons _).cons _).symm
   clear hL
   have hL:=hL1
   clear hL1
   generalize rs.getD m zn=row at HC1 hrl hpr hmax
   generalize qB both fd bd=B at hbo HDT
   obtain⟨rwp,rwn,rwc⟩:=row
   obtain⟨Bn,⟨Bs,Blo,Bhi⟩,Bt,Bf,Bl⟩:=B
   obtain⟨gn,⟨gsn,glo,ghi⟩,gt,gff,⟨gp,gk,gc⟩⟩:=g
   obtain⟨dn1,⟨dsn,dlo,dhi⟩,dt,df,dl⟩:=bd
   obtain⟨tb1,tb2,tb3⟩:=tb
   dsimp only[Res.gu,Sl.v]at hbo HC1 hrl hpr hmax HBG HDT
   subst hpr
   have hnr:n<rwn:=by omega
   have HBO:=Lib.hid hbo
   have HRT:=Lib.hid hrt
   clear hbo hrt hm1 hrl hm3
   obtain⟨wq,hwq⟩:∃ x,x=wr:=⟨_,rfl⟩
   subst hwq
   go_upto_region 3 with(first|(with_reducible refine ldB HRT.out hL ?_)|(with_reducible first|refine lld hL ?_|((first|refine lbx hL ?_|refine lal hL ?_|refine lbs hL ?_);clear hL;intro bl w1 hL)|(refine zd hL ?_;clear hL;intro w1 hL)))
   refine zf [12,13,14,15,16,17,18,19,20,21,22,23,24,25,26,27,28,29,30,31,32,33,34,35,36,37,38,39,40,41,42,43,44,45,46,47,48,49,50,51] ?_
   refine dv0 ?_
   refine dv1 0 ?_
   refine dv1 1 ?_
   refine dv1 2 ?_
   refine dv0 ?_
   refine dv2 3 4 ?_
   apply zb
   ·intro g w hb y;replace hL:=hL.grow hb;have d5:=yv y 5;clear y;simp only[za,fLa,fLb,sTa,sTb];simp only[d5]
    refine zR hL rfl rfl cIn HC1.out ?_
    exact cY
   simp only[apN,apC]
   apply zb
   ·intro g w hb y;replace hL:=hL.grow hb;clear y;simp only[za,fLa,fLb,sTa,sTb]
    refine ldO (ze.cell jz rfl) hL ?_
    exact cY
   simp only[apN,apC]
   refine dv1 7 ?_
   refine dv1 8 ?_
   refine dv1 9 ?_
   refine dv1 10 ?_
   refine dv0 ?_
   refine dv1 12 ?_
   refine dv1 13 ?_
   refine dv1 14 ?_
   refine dv0 ?_
   refine dv2 15 16 ?_
   apply zb
   ·intro g w hb y;replace hL:=hL.grow hb;have d17:=yv y 17;clear y;simp only[za,fLa,fLb,sTa,sTb];simp only[d17]
    refine zR hL rfl rfl cIn HC1.out ?_
    exact cY
   simp only[apN,apC]
   apply zb
   ·intro g w hb y;replace hL:=hL.grow hb;clear y;simp only[za,fLa,fLb,sTa,sTb]
    refine ldO (ze.cell jz rfl) hL ?_
    exact cY
   simp only[apN,apC]
   refine dv1 19 ?_
   refine dv1 20 ?_
   refine dv1 21 ?_
   refine dv1 22 ?_
   refine dv2 18 23 ?_
   apply zb
   ·intro g w hb y;replace hL:=hL.grow hb;have d24:=yv y 24;clear y;simp only[za,fLa,fLb,sTa,sTb];simp only[d24]
    refine zR hL rfl rfl cIn HG1.out ?_
    exact cY
   simp only[apN,apC]
   apply zb
   ·intro g w hb y;replace hL:=hL.grow hb;clear y;simp only[za,fLa,fLb,sTa,sTb]
    refine ldO (ze.cell jz rfl) hL ?_
    exact cY
   simp only[apN,apC]
   refine dv1 26 ?_
   refine dv1 27 ?_
   refine dv1 28 ?_
   refine dv1 29 ?_
   apply zb
   ·intro g w hb y;replace hL:=hL.grow hb;clear y;simp only[za,fLa,fLb,sTa,sTb]
    refine ldO (ze.cell jz rfl) hL ?_
    exact cY
   simp only[apN,apC]
   refine dv1 31 ?_
   refine dv1 32 ?_
   refine dv1 33 ?_
   refine dv1 34 ?_
   refine dv2 30 35 ?_
   apply zb
   ·intro g w hb y;replace hL:=hL.grow hb;have d36:=yv y 36;clear y;simp only[za,fLa,fLb,sTa,sTb];simp only[d36]
    refine zo HBG.out hL rfl rfl ?_
    exact cY
   simp only[apN,apC]
   refine zh (GuR wq.heap.size Bn ⟨Bs,Blo,Bhi⟩ Bt Bf Bl) GuR.stable ?_ ?_
   ·intro g w hb y;replace hL:=hL.grow hb;have d25:=yv y 25;have d37:=yv y 37;clear y;simp only[za,fLa,fLb,sTa,sTb];simp only[d25,d37]
    go_wp2_with (go_at_call 104;refine(HBO.out _ hb).mono ?_;rintro e w3 ⟨r,rfl,⟨R,hr,ho⟩,hb3⟩;dsimp only)
    exact⟨rfl,_,rfl,hb3,r,R,rfl,hr,ho.mono hb.size⟩
   simp only[apN,apC]
   refine dv2 6 11 ?_
   refine zO hL (by kernel_rfl) (by kernel_rfl) ?_
   intro g w2 hb hR;simp only[List.length_cons,List.length_nil,Nat.reduceAdd]at hR
   have e0:=yv hR 0
   have e1:=yv hR 1
   have e2:=yv hR 2
   have e3:=yv hR 3
   have e4:=yv hR 4
   have e5:=yv hR 5
   have e6:=yv hR 6
   have e7:=yv hR 7
   have e8:=yv hR 8
   have e9:=yv hR 9
   have e10:=yv hR 10
   have e11:=yv hR 11
   have e12:=yv hR 12
   have e13:=yv hR 13
   have e14:=yv hR 14
   have e15:=yv hR 15
   have e16:=yv hR 16
   have e17:=yv hR 17
   have e18:=yv hR 18
   have e19:=yv hR 19
   have e20:=yv hR 20
   have e21:=yv hR 21
   have e22:=yv hR 22
   have e23:=yv hR 23
   have e24:=yv hR 24
   have e25:=yv hR 25
   have e26:=yv hR 26
   have e27:=yv hR 27
   have e28:=yv hR 28
   have e29:=yv hR 29
   have e30:=yv hR 30
   have e31:=yv hR 31
   have e32:=yv hR 32
   have e33:=yv hR 33
   have e34:=yv hR 34
   have e35:=yv hR 35
   have e36:=yv hR 36
   have e37:=yv hR 37
   have e38:(GuR wq.heap.size Bn ⟨Bs,Blo,Bhi⟩ Bt Bf Bl) (g 50) w2:=yr hR 38
   obtain⟨⟨qf1,qf2,qf3⟩,Qf,e38,hSf,hOf⟩:=e38
   have e39:=yv hR 39
   clear hR;simp only[za,fLa,fLb,sTa,sTb]
   simp only[e0,e1,e2,e3,e4,e5,e6,e7,e8,e9,e10,e11,e12,e13,e14,e15,e16,e17,e18,e19,e20,e21,e22,e23,e24,e25,e26,e27,e28,e29,e30,e31,e32,e33,e34,e35,e36,e37,e38,e39]
   clear e0 e1 e2 e3 e4 e5 e6 e7 e8 e9 e10 e11 e12 e13 e14 e15 e16 e17 e18 e19 e20 e21 e22 e23 e24 e25 e26 e27 e28 e29 e30 e31 e32 e33 e34 e35 e36 e37 e38 e39
   replace hL:=hL.more hb (Q4 hSf hOf);clear hSf hOf
   clear hb
   go_wp2_with (first|(refine qa (b:=br) (off:=n*7) (vs:=Gu.cells ⟨Bn,⟨Bs,Blo,Bhi⟩,Bt,Bf,⟨qf1,qf2,qf3⟩⟩) (cs':=zk cr (n*7) (Gu.cells ⟨Bn,⟨Bs,Blo,Bhi⟩,Bt,Bf,⟨qf1,qf2,qf3⟩⟩)) hL rfl rfl cIn rfl zZ.sz rfl (HSZ.out ⟨Bn,⟨Bs,Blo,Bhi⟩,Bt,Bf,⟨qf1,qf2,qf3⟩⟩) rfl ?_;clear hL;intro w' hL)|(with_reducible first|refine lld hL ?_|((first|refine lbx hL ?_|refine lal hL ?_|refine lbs hL ?_);clear hL;intro bl w1 hL)|(refine zd hL ?_;clear hL;intro w1 hL)))
   go_roundw
   case rel=>
    exact⟨j+1,gf'.set m ((gf'.getD m []).set n ⟨Bn,⟨Bs,Blo,Bhi⟩,Bt,Bf,⟨qf1,qf2,qf3⟩⟩),Ra++([(br,108,zk cr (n*7) (Gu.cells ⟨Bn,⟨Bs,Blo,Bhi⟩,Bt,Bf,⟨qf1,qf2,qf3⟩⟩))]++Rb),by omega,by go_num,HPJ.out ⟨Bn,⟨Bs,Blo,Bhi⟩,Bt,Bf,⟨qf1,qf2,qf3⟩⟩,(hL.perm ((((((GQ (br,108,zk cr (n*7) (Gu.cells ⟨Bn,⟨Bs,Blo,Bhi⟩,Bt,Bf,⟨qf1,qf2,qf3⟩⟩)) A Rv Ra Rb N).cons _).cons _).cons _).cons _).cons _)).both (fun w h1 h2=>HDT.out w ⟨qf1,qf2,qf3⟩ h1 h2)⟩
   case measure=>simp[intOf];omega
  ·obtain rfl:j=l.length:=by omega
   clear hlt
   go_wp2_with (first|(with_reducible first|refine lld hL ?_|((first|refine lbx hL ?_|refine lal hL ?_|refine lbs hL ?_);clear hL;intro bl w1 hL)|(refine zd hL ?_;clear hL;intro w1 hL)))
   (try simp only[Exit.inBlock,Exit.then]);(first|refine yP rfl rfl ?_|refine yQ rfl rfl ?_)
   refine⟨rfl,gv,gf',rs,Rv,[(bh,51,ch)],Rf',⟨HRS.out.2.1,HRS.out.2.2,hG⟩,?_⟩
   exact hL.perm (((((Xq (bh,51,ch) A Rv Rf' N).cons _).cons _).cons _).cons _)
theorem zf5:Qb Tryz.prog 37 [.slice none 0 0]:=⟨by kernel_rfl⟩
theorem zdS (w0:World) (bs:Nat) (i:Ins) (at' : Nat) (x:Pv) (d:Pd) (es:List (Int × Pd)) (wr fl:Bool) (A:List zj) (D:List zw) (w:World) (a n b:Nat)
  (h:Stp w0 bs i at' x es wr fl A D w) (ok:qS w0 x d) (hi:i.a=a) (ha:a<d.vars.length) (hin:i.n=n) (hib:i.b=b) (hb:b<d.vars.length) (hs:UD d n (d.var a).l) (hf0:0<d.fields.length)
  (hlb:(d.var b).l.length≤1000) (hlen:∀ j m,j≤(d.var a).l.length→m<d.fields.length→((yZ d n (d.var b) ((d.var a).l.take j)).field m n).l.length≤1000) (hle:es.length≤10) (hat:at'≤1000000):
  Calls Tryz.prog 157 #[.pointer (some ⟨bs,0,none⟩)] w fun e w'=>e=.returned (.tuple #[])∧Stp w0 bs i at' x (es++if (d.var a).l=[] then [] else [((at' : Int)+1,yZ d n (d.var b) (d.var a).l)]) (jU (d.var a)) fl A D w':=by
 obtain⟨s,evs,Re,hR,hL⟩:=h
 have HTH:=Lib.hid (fun (bp:Nat) (w1:World) (h1:Stp w0 bs i at' x es wr fl ((bp,151,[.pointer (some ⟨bs,0,none⟩)])::A) D w1)=>Xm w0 bs i at' x d es wr fl _ D w1 a h1 ok.x hi ha)
 have hk:=Yn n (d.var b) d (d.var a).l d (YG.refl d)
 have HE:=Lib.hid (fun (b1 bp:Nat) (t:Sl) (w1:World) (ht:zp w0 t (d.var a).l) (h1:Stp w0 bs i at' x es (jU (d.var a)) fl ((b1,37,[.slice t.p t.n t.cap])::(bp,151,[.pointer (some ⟨bs,0,none⟩)])::A) D w1)=>J8 w0 bs i at' x d (yZ d n (d.var b) (d.var a).l) es (jU (d.var a)) fl _ D w1 ((at' : Int)+1) 201 [.pointer (some ⟨b1,0,none⟩),.pointer (some ⟨bp,0,none⟩)] ze9 h1 ok.x ok.n ok.few ok.own (by rw[hk.none];exact ok.n) (by rw[hk.vars,hk.len];exact ok.m) hle (zcK w0 bs b1 bp i at' x (jU (d.var a)) fl A D d n b t _ hin hib hb ok.x ht hs hf0 hlb hlen))
 have HR:=Lib.hid hR
 clear hR ok hs hlen hk
 generalize yZ d n (d.var b) (d.var a).l=d' at *
 generalize jU (d.var a)=wg at *
 generalize (d.var a).l=l at *
 obtain⟨sp,sn,sc⟩:=s
 obtain⟨ik,ito,ia,ib,inn,ig⟩:=i
 dsimp only at hi hin hib
 subst hi hin hib
 obtain⟨xn,⟨xp,xvn,xc⟩,⟨xfp,xfn,xfc⟩⟩:=x
 go_enter Tryz.func157,Tryz.ntmps157
 go_upto_region 1 with(first|((with_reducible refine lbx hL ?_);clear hL;intro bp w1 hL)|(with_reducible first|refine lld hL ?_|((first|refine lbx hL ?_|refine lal hL ?_|refine lbs hL ?_);clear hL;intro bl w1 hL)|(refine zd hL ?_;clear hL;intro w1 hL)))
 have HTC:=Lib.hid (HTH.out bp w1 (Stp.push1 HR.out hL))
 clear HTH HR
 go_upto_region 2 with(first|(with_reducible refine ldO (ze.cell jz rfl) hL ?_)|(go_at_call 200;refine HTC.out.mono ?_;clear hL;rintro e w3 ⟨⟨tp,tn,tc⟩,rfl,hti,⟨⟨sp,sn,sc⟩,evs,Re,hR2,hL⟩⟩;clear HTC;dsimp only[Sl.v])|((with_reducible refine lal (hz:=zf5) hL ?_);clear hL;intro b1 w4 hL)|(with_reducible first|refine lld hL ?_|((first|refine lbx hL ?_|refine lal hL ?_|refine lbs hL ?_);clear hL;intro bl w1 hL)|(refine zd hL ?_;clear hL;intro w1 hL)))
 have htn:tn=l.length:=hti.n
 subst htn
 by_cases h0:l=[]
 ·subst h0
  go_wp2_with (first|(with_reducible first|refine lld hL ?_|((first|refine lbx hL ?_|refine lal hL ?_|refine lbs hL ?_);clear hL;intro bl w1 hL)|(refine zd hL ?_;clear hL;intro w1 hL)))
  (try simp only[Exit.inBlock,Exit.then]);(first|refine yP rfl rfl ?_|refine yQ rfl rfl ?_)
  refine⟨rfl,⟨sp,sn,sc⟩,evs,Re,by simpa using hR2,?_⟩
  exact hL.drop (.cons _ (.cons_cons _ (.cons _ (List.Sublist.refl _)))) (fun _ h=>h)
 ·have h1:¬ l.length=0:=by simpa using h0
  have h2:((l.length:Int)==0)=false:=by simpa using h0
  go_upto_region 3 with(first|(with_reducible first|refine lld hL ?_|((first|refine lbx hL ?_|refine lal hL ?_|refine lbs hL ?_);clear hL;intro bl w1 hL)|(refine zd hL ?_;clear hL;intro w1 hL)))
  rename_i wb
  obtain⟨wq,hwq⟩:∃ x,x=wb:=⟨_,rfl⟩
  subst hwq
  refine zf [8,9,10,11,12,13,14] ?_
  apply zb
  ·intro g w hb y;replace hL:=hL.grow hb;clear y;simp only[za,fLa,fLb,sTa,sTb]
   refine ldO (ze.cell jz rfl) hL ?_
   exact cY
  simp only[apN,apC]
  apply zb
  ·intro g w hb y;replace hL:=hL.grow hb;clear y;simp only[za,fLa,fLb,sTa,sTb]
   refine ldO (ze.cell jz rfl) hL ?_
   exact cY
  simp only[apN,apC]
  refine dv1 1 ?_
  refine dv1 2 ?_
  refine dv1 3 ?_
  refine dv1 4 ?_
  refine dv0 ?_
  refine dnd hL ?_
  clear hL;intro w2 hL;simp only[zV,sTa,sTb]
  have HM:=Lib.hid (HE.out b1 bp ⟨tp,l.length,tc⟩ _ hti ⟨⟨sp,sn,sc⟩,evs,Re,hR2,hL.perm (List.Perm.swap _ _ _)⟩)
  clear HE hR2 hti
  go_wp2_with (first|(go_at_call 162;refine HM.out.mono ?_;rintro e w5 ⟨rfl,hM⟩;dsimp only))
  (try simp only[Exit.inBlock,Exit.then]);(first|refine yP rfl rfl ?_|refine yQ rfl rfl ?_)
  exact⟨rfl,hM.drop2⟩
structure qw (p:Pg) (d:Pd):Prop where
 r:qk p d
 s:∀ k,k<d.vars.length→∀ j,j<(d.var k).l.length→∃ m:Nat,(d.var k).l.getD j 0=m∧m<d.fields.length
theorem idx {a v:Int}{b:Nat}(h:0≤a∧a<v) (hv:(b:Int)=v):a=(a.toNat:Int)∧a.toNat<b:=by omega
theorem qw.sites {p:Pg}{d:Pd}(h:qw p d) {n a:Nat}(hn:(n:Int)<p.fields) (ha:a<d.vars.length):UD d n (d.var a).l:=by
 have hr:∀ m,m<d.fields.length→n<(d.row m).length:=fun m hm=>by have:=h.r.rows m hm;omega
 refine⟨fun k hk=>?_,by have:=(h.r.vg a ha).le;omega,fun m hm hnm=>by have:=(h.r.fg m n hm hnm).le;omega⟩
 obtain⟨m,h1,h2⟩:=h.s a ha k hk
 exact⟨m,h1,h2,hr m h2⟩
structure jR (d:Res):Prop where
 ins:inS d.l
 asc:ZL d.l
theorem jR.le {d:Res}(h:jR d):d.l.length≤60:=zgE h.ins h.asc
theorem jY.few {d:Res}(h:jY d):jR d:=⟨h.ins,h.asc⟩
theorem jR.mix {d e:Res}(h:jR d) (h2:jR e):jR (qB both d e):=
 ⟨fun x hx=>(((QJ d.l e.l).2 x).1 hx).elim (h.ins x) (h2.ins x),(QJ d.l e.l).1⟩
theorem jR.zero:jR zy:=⟨(fun x hx=>by cases hx),List.Pairwise.nil⟩
theorem jR.noth:jR Ko:=⟨(fun x hx=>by cases hx),List.Pairwise.nil⟩
theorem GR {α:Type}{P:α→Prop}{l:List α}{z:α}(h:∀ k,k<l.length→P (l.getD k z)) (h0:P z) (k:Nat):P (l.getD k z):=by
 rcases Nat.lt_or_ge k l.length with h1|h1
 ·exact h k h1
 ·rw[List.getD_eq_getElem?_getD,List.getElem?_eq_none h1];exact h0
theorem qw.fews {p:Pg}{d:Pd}(h:qw p d) (m n:Nat):jR (d.field m n):=by
 rcases Nat.lt_or_ge m d.fields.length with h1|h1
 ·exact GR (P:=jR) (l:=d.row m) (fun k hk=>(h.r.fg m k h1 hk).few) jR.zero n
 ·show jR ((d.fields.getD m []).getD n zy)
  rw[show d.fields.getD m []=[] by rw[List.getD_eq_getElem?_getD,List.getElem?_eq_none h1];rfl]
  exact jR.zero
theorem qw.var {p:Pg}{d:Pd}(h:qw p d) (k:Nat):jR (d.var k):=GR (P:=jR) (l:=d.vars) (fun k hk=>(h.r.vg k hk).few) jR.zero k
theorem jR.get {d:Pd}(h:∀ m n,jR (d.field m n)) (n:Nat):∀ (l:List Int) (g:Res),jR g→jR (l.foldl (fun g s=>qB both g (d.field s.toNat n)) g)
 | [],_,hg=>hg
 | s::l,_,hg=>jR.get h n l _ (hg.mix (h _ _))
theorem zcL (d:Pd) (m n i j:Nat) (g:Res) (hm:m<d.fields.length) (hn:n<(d.row m).length):(d.setField m n g).field i j=if i=m∧j=n then g else d.field i j:=by
 show ((d.fields.set m ((d.row m).set n g)).getD i []).getD j zy=_
 rw[qy _ _ _ _ _ hm]
 by_cases h:i=m
 ·subst h
  rw[if_pos rfl,qy _ _ _ _ _ hn]
  by_cases h2:j=n
  ·rw[if_pos h2,if_pos ⟨rfl,h2⟩]
  ·rw[if_neg h2,if_neg (fun h=>h2 h.2)]
 ·rw[if_neg h,if_neg (fun h2=>h h2.1)]
theorem jR.setf {d:Pd}(h:∀ i j,jR (d.field i j)) {g:Res}(hg:jR g) (m n:Nat) (i j:Nat):jR ((d.setField m n g).field i j):=by
 by_cases hm:m<d.fields.length
 ·by_cases hn:n<(d.row m).length
  ·rw[zcL d m n i j g hm hn]
   split
   ·exact hg
   ·exact h i j
  ·have e:(d.row m).set n g=d.row m:=List.set_eq_of_length_le (by omega)
   show jR (((d.fields.set m ((d.row m).set n g)).getD i []).getD j zy)
   rw[e,qy _ _ _ _ _ hm]
   split
   ·exact h m j
   ·exact h i j
 ·show jR (((d.fields.set m ((d.row m).set n g)).getD i []).getD j zy)
  rw[List.set_eq_of_length_le (by omega)];exact h i j
theorem jR.put (n:Nat) {b:Res}(hb:jR b):∀ (l:List Int) (d:Pd),(∀ i j,jR (d.field i j))→∀ i j,jR ((yZ d n b l).field i j)
 | [],_,h=>h
 | s::l,d,h=>jR.put n hb l _ (jR.setf h ((h _ _).mix hb) _ _)
theorem Stp.dropF {w0:World}{bs:Nat}{i:Ins}{at' : Nat}{x:Pv}{es:List (Int × Pd)}{wr fl:Bool}{A:List zj}{D:List zw}{S:zw}{w:World}(h:Stp w0 bs i at' x es wr fl A (S::D) w):Stp w0 bs i at' x es wr fl A D w:=by
 obtain⟨s,evs,Re,hR,hL⟩:=h
 exact⟨s,evs,Re,hR,hL.drop (List.Sublist.refl _) (fun S hS=>by
  rcases List.mem_cons.1 hS with rfl|hS
  ·exact List.mem_cons_self
  ·exact List.mem_cons_of_mem _ (List.mem_cons_of_mem _ hS))⟩
theorem Loc.gainPtr {w0 w w1:World}{L:List zj}{D:List zw}(h:Loc w0 w L D) (hb:Below w.heap.size w w1) {b:Nat}{T:TypeId}{cs:List Value}(hw:w.heap.size≤b) (hc:w1.heap[b]? = some (.cells cs.toArray T (0,0))) {r:Sl}{R:List zj}{l:List Int}
  (hr:zM 3 1 r.p r.n r.cap (l.map (Value.int .i64)) R) (ho:Own w.heap.size w1 R) (hT:T≠3):Loc w0 w1 ((b,T,cs)::L) ((fun w=>zp w r l)::D):=by
 have h1:Own w.heap.size w1 ((b,T,cs)::R):=by
  refine⟨?_,fun e he=>?_⟩
  ·rw[List.map_cons,List.nodup_cons]
   refine⟨fun hm=>?_,ho.nodup⟩
   obtain⟨e,he,hee⟩:=List.mem_map.1 hm
   have h2:=(ho.at' e he).2
   rw[hee,hc]at h2
   have h3:T=e.2.1:=by injection h2 with h2;injection h2
   rcases hr.2 with⟨_,_,rfl⟩|⟨g,cs',_,rfl,_⟩
   ·cases he
   ·rw[List.mem_singleton.1 he]at h3
    exact hT h3
  ·rcases List.mem_cons.1 he with rfl|he
   ·exact⟨hw,hc⟩
   ·exact ho.at' e he
 have h2:=h.gainOwn hb h1
 have h3:Loc w0 w1 (((b,T,cs)::L)++R) D:=h2.perm (by
  show (((b,T,cs)::L)++R).Perm ((b,T,cs)::(R++L))
  exact(List.perm_append_comm (l₁:=L) (l₂:=R)).cons _)
 exact h3.fact (S:=fun w=>zp w r l) (fun w' hw'=>hr.ints (B:=w.heap.size) ⟨ho.nodup,fun e he=>⟨(ho.at' e he).1,hw' e he⟩⟩)
def qo (w0:World) (bs:Nat) (i:Ins) (at' : Nat) (x:Pv) (d:Pd) (A:List zj) (D:List zw) (w:World):Prop:=
 Calls Tryz.prog 107 #[.pointer (some ⟨bs,0,none⟩)] w fun e w'=>e=.returned (.tuple #[])∧Stp w0 bs i at' x (zU i at' d).es (zU i at' d).wr (zU i at' d).fl A D w'
theorem zb8:∀ args w,(callFunc 160 args).run Tryz.prog w=.ok (.enter 160 args) w:=fun args w=>by kernel_rfl
theorem zfa:∀ args w,(callFunc 161 args).run Tryz.prog w=.ok (.enter 161 args) w:=fun args w=>by kernel_rfl
theorem GS (w:World) (g:Gu) (d:Res) (h:qq w g d):qq w (Zs g) (ya d):=⟨by rw[h.e],h.l⟩
theorem za8 (w:World) (g:Gu) (d:Res) (h:qq w g d):qq w (Kn g) (yu d):=⟨by rw[h.e],zp.nil w⟩
theorem zf6 {i:Ins}(h:j5 i=false) (hk:nN i.kind=false):i.n=0:=by
 unfold j5 at h
 simp[hk]at h
 omega
theorem zf7 {i:Ins}(h:j5 i=false) (hk:nB i.kind=false):i.b=0:=by
 unfold j5 at h
 simp[hk]at h
 omega
theorem zb9 {d:Res}{s:Sl}(h:s.n=d.l.length):JF (d.gu s)=JF (d.gu ⟨none,d.l.length,0⟩):=by unfold JF;rw[h]
theorem zfb (w0:World) (bs:Nat) (i:Ins) (at' : Nat) (x:Pv) (d:Pd) (A:List zj) (D:List zw) (w:World) (p:Pg) (h:Stp w0 bs i at' x [] false false A D w) (ok:qS w0 x d) (hr:Qe p i) (hf:j5 i=false) (hd:qw p d) (ha:at' < d.fields.length) (hat:at'≤1000000) (hk:i.kind=1):qo w0 bs i at' x d A D w:=by
 unfold qo
 rw[show zU i at' d=⟨jV d at' i.to.toNat (jb i),false,false⟩ by unfold zU;rw[if_pos (by omega)]]
 obtain⟨hit,hkl⟩:=idx (hr.to (by rw[hk];decide)) hd.r.vars
 have HP:=Lib.hid (fun w1 h1=>Yo w0 bs i at' x [] false false A D w1 h1 (by omega) (by have:=hr.n1 hk;omega))
 have HS:=Lib.hid (fun w1 g h1=>J9 w0 bs i at' x d [] false false A ((fun w=>qq w g (jb i))::D) w1 i.to.toNat g (jb i) h1 ok hit hkl List.mem_cons_self (by simp) hat)
 have HM:=Lib.hid h
 obtain⟨⟨sp,sn,sc⟩,evs,Re,hR,hL⟩:=h
 have HR:=Lib.hid hR
 clear hR ok
 clear hit hkl hr hd
 generalize jb i=pd at *
 generalize jV d at' i.to.toNat pd=se at *
 obtain⟨ik,ito,ia,ib,inn,ig⟩:=i
 obtain⟨xn,⟨xp,xvn,xc⟩,⟨xfp,xfn,xfc⟩⟩:=x
 dsimp only at hk
 subst hk
 go_enter Tryz.func107,Tryz.ntmps107
 go_wp2_with (first|(with_reducible first|refine lld hL ?_|((first|refine lbx hL ?_|refine lal hL ?_|refine lbs hL ?_);clear hL;intro bl w1 hL)|(refine zd hL ?_;clear hL;intro w1 hL))|(go_at_call 154;refine(HP.out _ HM.out).mono ?_;rintro e w3 ⟨⟨gn,⟨gsn,glo,ghi⟩,gt,gff,⟨gp,gk,gc⟩⟩,rfl,hM⟩;dsimp only)|(go_at_call 153;refine(HS.out _ _ hM).mono ?_;rintro e w4 ⟨rfl,hM2⟩;dsimp only))
 (try simp only[Exit.inBlock,Exit.then]);(first|refine yP rfl rfl ?_|refine yQ rfl rfl ?_)
 exact⟨rfl,hM2.dropF⟩
theorem zdT (w0:World) (bs:Nat) (i:Ins) (at' : Nat) (x:Pv) (d:Pd) (A:List zj) (D:List zw) (w:World) (p:Pg) (h:Stp w0 bs i at' x [] false false A D w) (ok:qS w0 x d) (hr:Qe p i) (hf:j5 i=false) (hd:qw p d) (ha:at' < d.fields.length) (hat:at'≤1000000) (hk:i.kind=14):qo w0 bs i at' x d A D w:=by
 unfold qo
 rw[show zU i at' d=⟨jV d at' i.to.toNat (jb i),false,false⟩ by unfold zU;rw[if_pos (by omega)]]
 obtain⟨hit,hkl⟩:=idx (hr.to (by rw[hk];decide)) hd.r.vars
 have HP:=Lib.hid (fun w1 h1=>Yo w0 bs i at' x [] false false A D w1 h1 (by omega) (by have:=hr.n14 hk;omega))
 have HS:=Lib.hid (fun w1 g h1=>J9 w0 bs i at' x d [] false false A ((fun w=>qq w g (jb i))::D) w1 i.to.toNat g (jb i) h1 ok hit hkl List.mem_cons_self (by simp) hat)
 have HM:=Lib.hid h
 obtain⟨⟨sp,sn,sc⟩,evs,Re,hR,hL⟩:=h
 have HR:=Lib.hid hR
 clear hR ok
 clear hit hkl hr hd
 generalize jb i=pd at *
 generalize jV d at' i.to.toNat pd=se at *
 obtain⟨ik,ito,ia,ib,inn,ig⟩:=i
 obtain⟨xn,⟨xp,xvn,xc⟩,⟨xfp,xfn,xfc⟩⟩:=x
 dsimp only at hk
 subst hk
 go_enter Tryz.func107,Tryz.ntmps107
 go_wp2_with (first|(with_reducible first|refine lld hL ?_|((first|refine lbx hL ?_|refine lal hL ?_|refine lbs hL ?_);clear hL;intro bl w1 hL)|(refine zd hL ?_;clear hL;intro w1 hL))|(go_at_call 154;refine(HP.out _ HM.out).mono ?_;rintro e w3 ⟨⟨gn,⟨gsn,glo,ghi⟩,gt,gff,⟨gp,gk,gc⟩⟩,rfl,hM⟩;dsimp only)|(go_at_call 153;refine(HS.out _ _ hM).mono ?_;rintro e w4 ⟨rfl,hM2⟩;dsimp only))
 (try simp only[Exit.inBlock,Exit.then]);(first|refine yP rfl rfl ?_|refine yQ rfl rfl ?_)
 exact⟨rfl,hM2.dropF⟩
theorem zfc (w0:World) (bs:Nat) (i:Ins) (at' : Nat) (x:Pv) (d:Pd) (A:List zj) (D:List zw) (w:World) (p:Pg) (h:Stp w0 bs i at' x [] false false A D w) (ok:qS w0 x d) (hr:Qe p i) (hf:j5 i=false) (hd:qw p d) (ha:at' < d.fields.length) (hat:at'≤1000000) (hk:i.kind=2):qo w0 bs i at' x d A D w:=by
 unfold qo
 rw[show zU i at' d=⟨jV d at' i.to.toNat (jb i),false,false⟩ by unfold zU;rw[if_pos (by omega)]]
 obtain⟨hit,hkl⟩:=idx (hr.to (by rw[hk];decide)) hd.r.vars
 have HP:=Lib.hid (fun w1 h1=>Yo w0 bs i at' x [] false false A D w1 h1 (by omega) (by have:=hr.n2 hk;omega))
 have HS:=Lib.hid (fun w1 g h1=>J9 w0 bs i at' x d [] false false A ((fun w=>qq w g (jb i))::D) w1 i.to.toNat g (jb i) h1 ok hit hkl List.mem_cons_self (by simp) hat)
 have HM:=Lib.hid h
 obtain⟨⟨sp,sn,sc⟩,evs,Re,hR,hL⟩:=h
 have HR:=Lib.hid hR
 clear hR ok
 clear hit hkl hr hd
 generalize jb i=pd at *
 generalize jV d at' i.to.toNat pd=se at *
 obtain⟨ik,ito,ia,ib,inn,ig⟩:=i
 obtain⟨xn,⟨xp,xvn,xc⟩,⟨xfp,xfn,xfc⟩⟩:=x
 dsimp only at hk
 subst hk
 go_enter Tryz.func107,Tryz.ntmps107
 go_wp2_with (first|(with_reducible first|refine lld hL ?_|((first|refine lbx hL ?_|refine lal hL ?_|refine lbs hL ?_);clear hL;intro bl w1 hL)|(refine zd hL ?_;clear hL;intro w1 hL))|(go_at_call 154;refine(HP.out _ HM.out).mono ?_;rintro e w3 ⟨⟨gn,⟨gsn,glo,ghi⟩,gt,gff,⟨gp,gk,gc⟩⟩,rfl,hM⟩;dsimp only)|(go_at_call 153;refine(HS.out _ _ hM).mono ?_;rintro e w4 ⟨rfl,hM2⟩;dsimp only))
 (try simp only[Exit.inBlock,Exit.then]);(first|refine yP rfl rfl ?_|refine yQ rfl rfl ?_)
 exact⟨rfl,hM2.dropF⟩
theorem zfd (w0:World) (bs:Nat) (i:Ins) (at' : Nat) (x:Pv) (d:Pd) (A:List zj) (D:List zw) (w:World) (p:Pg) (h:Stp w0 bs i at' x [] false false A D w) (ok:qS w0 x d) (hr:Qe p i) (hf:j5 i=false) (hd:qw p d) (ha:at' < d.fields.length) (hat:at'≤1000000) (hk:i.kind=3):qo w0 bs i at' x d A D w:=by
 unfold qo
 rw[show zU i at' d=⟨jV d at' i.to.toNat (jb i),false,false⟩ by unfold zU;rw[if_pos (by omega)]]
 obtain⟨hit,hkl⟩:=idx (hr.to (by rw[hk];decide)) hd.r.vars
 have HP:=Lib.hid (fun w1 h1=>Yo w0 bs i at' x [] false false A D w1 h1 (by omega) (by have:=zf6 hf (by rw[hk];decide);omega))
 have HS:=Lib.hid (fun w1 g h1=>J9 w0 bs i at' x d [] false false A ((fun w=>qq w g (jb i))::D) w1 i.to.toNat g (jb i) h1 ok hit hkl List.mem_cons_self (by simp) hat)
 have HM:=Lib.hid h
 obtain⟨⟨sp,sn,sc⟩,evs,Re,hR,hL⟩:=h
 have HR:=Lib.hid hR
 clear hR ok
 clear hit hkl hr hd
 generalize jb i=pd at *
 generalize jV d at' i.to.toNat pd=se at *
 obtain⟨ik,ito,ia,ib,inn,ig⟩:=i
 obtain⟨xn,⟨xp,xvn,xc⟩,⟨xfp,xfn,xfc⟩⟩:=x
 dsimp only at hk
 subst hk
 go_enter Tryz.func107,Tryz.ntmps107
 go_wp2_with (first|(with_reducible first|refine lld hL ?_|((first|refine lbx hL ?_|refine lal hL ?_|refine lbs hL ?_);clear hL;intro bl w1 hL)|(refine zd hL ?_;clear hL;intro w1 hL))|(go_at_call 154;refine(HP.out _ HM.out).mono ?_;rintro e w3 ⟨⟨gn,⟨gsn,glo,ghi⟩,gt,gff,⟨gp,gk,gc⟩⟩,rfl,hM⟩;dsimp only)|(go_at_call 153;refine(HS.out _ _ hM).mono ?_;rintro e w4 ⟨rfl,hM2⟩;dsimp only))
 (try simp only[Exit.inBlock,Exit.then]);(first|refine yP rfl rfl ?_|refine yQ rfl rfl ?_)
 exact⟨rfl,hM2.dropF⟩
theorem zdU (w0:World) (bs:Nat) (i:Ins) (at' : Nat) (x:Pv) (d:Pd) (A:List zj) (D:List zw) (w:World) (p:Pg) (h:Stp w0 bs i at' x [] false false A D w) (ok:qS w0 x d) (hr:Qe p i) (hf:j5 i=false) (hd:qw p d) (ha:at' < d.fields.length) (hat:at'≤1000000) (hk:i.kind=11):qo w0 bs i at' x d A D w:=by
 unfold qo
 rw[show zU i at' d=⟨[((at' : Int)+1,KT d at' i.to.toNat)],false,false⟩ by unfold zU;rw[if_neg (by omega),if_pos hk]]
 obtain⟨hit,hkl⟩:=idx (hr.to (by rw[hk];decide)) hd.r.vars
 have HP:=Lib.hid (fun w1 h1=>za5 w0 bs i at' x d [] false false A D w1 i.to.toNat h1 ok hit hkl (by simp) hat ha (ok.few.rows _ ha))
 have HM:=Lib.hid h
 obtain⟨⟨sp,sn,sc⟩,evs,Re,hR,hL⟩:=h
 have HR:=Lib.hid hR
 clear hR ok
 clear hit hkl hr hd hf ha
 generalize KT d at' i.to.toNat=se at *
 obtain⟨ik,ito,ia,ib,inn,ig⟩:=i
 obtain⟨xn,⟨xp,xvn,xc⟩,⟨xfp,xfn,xfc⟩⟩:=x
 dsimp only at hk
 subst hk
 go_enter Tryz.func107,Tryz.ntmps107
 go_wp2_with (first|(with_reducible first|refine lld hL ?_|((first|refine lbx hL ?_|refine lal hL ?_|refine lbs hL ?_);clear hL;intro bl w1 hL)|(refine zd hL ?_;clear hL;intro w1 hL))|(go_at_call 155;refine(HP.out _ HM.out).mono ?_;rintro e w3 ⟨rfl,hM⟩;dsimp only))
 (try simp only[Exit.inBlock,Exit.then]);(first|refine yP rfl rfl ?_|refine yQ rfl rfl ?_)
 exact⟨rfl,hM⟩
theorem zdV (w0:World) (bs:Nat) (i:Ins) (at' : Nat) (x:Pv) (d:Pd) (A:List zj) (D:List zw) (w:World) (p:Pg) (h:Stp w0 bs i at' x [] false false A D w) (ok:qS w0 x d) (hr:Qe p i) (hf:j5 i=false) (hd:qw p d) (ha:at' < d.fields.length) (hat:at'≤1000000) (hk:i.kind=12):qo w0 bs i at' x d A D w:=by
 unfold qo
 rw[show zU i at' d=⟨jV d at' i.to.toNat (qM d i.n.toNat (d.var i.a.toNat).l),jU (d.var i.a.toNat),false⟩ by unfold zU;rw[if_neg (by omega),if_neg (by omega),if_pos hk]]
 obtain⟨hit,hkl⟩:=idx (hr.to (by rw[hk];decide)) hd.r.vars
 obtain⟨hia,hal⟩:=idx (hr.a (by rw[hk];decide)) hd.r.vars
 have hin:i.n=(i.n.toNat:Int):=by have:=hr.f (.inl hk);omega
 have HP:=Lib.hid (fun w1 h1=>ze5 w0 bs i at' x d [] false false A D w1 i.a.toNat i.n.toNat i.to.toNat h1 ok hia hal hin hit hkl (hd.sites (by have:=hr.f (.inl hk);omega) hal) (fun k _=>by have:=(jR.get hd.fews i.n.toNat ((d.var i.a.toNat).l.take k) Ko jR.noth).le;unfold qM;omega) (by simp) hat)
 have HM:=Lib.hid h
 obtain⟨⟨sp,sn,sc⟩,evs,Re,hR,hL⟩:=h
 have HR:=Lib.hid hR
 clear hR ok
 clear hit hkl hr hd hf ha hin hia hal
 generalize jV d at' i.to.toNat (qM d i.n.toNat (d.var i.a.toNat).l)=se at *
 generalize jU (d.var i.a.toNat)=wg at *
 obtain⟨ik,ito,ia,ib,inn,ig⟩:=i
 obtain⟨xn,⟨xp,xvn,xc⟩,⟨xfp,xfn,xfc⟩⟩:=x
 dsimp only at hk
 subst hk
 go_enter Tryz.func107,Tryz.ntmps107
 go_wp2_with (first|(with_reducible first|refine lld hL ?_|((first|refine lbx hL ?_|refine lal hL ?_|refine lbs hL ?_);clear hL;intro bl w1 hL)|(refine zd hL ?_;clear hL;intro w1 hL))|(go_at_call 156;refine(HP.out _ HM.out).mono ?_;rintro e w3 ⟨rfl,hM⟩;dsimp only))
 (try simp only[Exit.inBlock,Exit.then]);(first|refine yP rfl rfl ?_|refine yQ rfl rfl ?_)
 exact⟨rfl,hM⟩
theorem zdW (w0:World) (bs:Nat) (i:Ins) (at' : Nat) (x:Pv) (d:Pd) (A:List zj) (D:List zw) (w:World) (p:Pg) (h:Stp w0 bs i at' x [] false false A D w) (ok:qS w0 x d) (hr:Qe p i) (hf:j5 i=false) (hd:qw p d) (ha:at' < d.fields.length) (hat:at'≤1000000) (hk:i.kind=13):qo w0 bs i at' x d A D w:=by
 unfold qo
 rw[show zU i at' d=⟨if (d.var i.a.toNat).l=[] then [] else [((at' : Int)+1,yZ d i.n.toNat (d.var i.b.toNat) (d.var i.a.toNat).l)],jU (d.var i.a.toNat),false⟩ by unfold zU;rw[if_neg (by omega),if_neg (by omega),if_neg (by omega),if_pos hk]]
 obtain⟨hib,hbl⟩:=idx (hr.b (by rw[hk];decide)) hd.r.vars
 obtain⟨hia,hal⟩:=idx (hr.a (by rw[hk];decide)) hd.r.vars
 have hin:i.n=(i.n.toNat:Int):=by have:=hr.f (.inr hk);omega
 have HP:=Lib.hid (fun w1 h1=>zdS w0 bs i at' x d [] false false A D w1 i.a.toNat i.n.toNat i.b.toNat h1 ok hia hal hin hib hbl (hd.sites (by have:=hr.f (.inr hk);omega) hal) (by omega) (by have:=(hd.var i.b.toNat).le;omega) (fun j m _ _=>by have:=(jR.put i.n.toNat (hd.var i.b.toNat) ((d.var i.a.toNat).l.take j) d hd.fews m i.n.toNat).le;omega) (by simp) hat)
 have HM:=Lib.hid h
 obtain⟨⟨sp,sn,sc⟩,evs,Re,hR,hL⟩:=h
 have HR:=Lib.hid hR
 clear hR ok
 clear hbl hr hd hf ha hin hia hal hib
 generalize (if (d.var i.a.toNat).l=[] then [] else [((at' : Int)+1,yZ d i.n.toNat (d.var i.b.toNat) (d.var i.a.toNat).l)])=se at *
 generalize jU (d.var i.a.toNat)=wg at *
 obtain⟨ik,ito,ia,ib,inn,ig⟩:=i
 obtain⟨xn,⟨xp,xvn,xc⟩,⟨xfp,xfn,xfc⟩⟩:=x
 dsimp only at hk
 subst hk
 go_enter Tryz.func107,Tryz.ntmps107
 go_wp2_with (first|(with_reducible first|refine lld hL ?_|((first|refine lbx hL ?_|refine lal hL ?_|refine lbs hL ?_);clear hL;intro bl w1 hL)|(refine zd hL ?_;clear hL;intro w1 hL))|(go_at_call 157;refine(HP.out _ HM.out).mono ?_;rintro e w3 ⟨rfl,hM⟩;dsimp only))
 (try simp only[Exit.inBlock,Exit.then]);(first|refine yP rfl rfl ?_|refine yQ rfl rfl ?_)
 exact⟨rfl,hM⟩
theorem zdX (w0:World) (bs:Nat) (i:Ins) (at' : Nat) (x:Pv) (d:Pd) (A:List zj) (D:List zw) (w:World) (p:Pg) (h:Stp w0 bs i at' x [] false false A D w) (ok:qS w0 x d) (hr:Qe p i) (hf:j5 i=false) (hd:qw p d) (ha:at' < d.fields.length) (hat:at'≤1000000) (hk:i.kind=16):qo w0 bs i at' x d A D w:=by
 unfold qo
 rw[show zU i at' d=⟨[(i.goto,d)],false,false⟩ by unfold zU;rw[if_neg (by omega),if_neg (by omega),if_neg (by omega),if_neg (by omega),if_neg (by omega),if_neg (by omega),if_pos hk]]
 have HP:=Lib.hid (fun w1 h1=>(show Calls Tryz.prog 162 #[.pointer (some ⟨bs,0,none⟩),.int .i64 (i.goto),.func (.func 163) #[] #[]] w1 _ from J8 w0 bs i at' x d d [] false false A D w1 (i.goto) 163 [] ze7 h1 ok.x ok.n ok.few ok.own ok.n ok.m (by simp) (za6 w0 bs i at' x false false A D d)))
 have HM:=Lib.hid h
 obtain⟨⟨sp,sn,sc⟩,evs,Re,hR,hL⟩:=h
 have HR:=Lib.hid hR
 clear hR ok
 clear hr hd hf ha
 obtain⟨ik,ito,ia,ib,inn,ig⟩:=i
 obtain⟨xn,⟨xp,xvn,xc⟩,⟨xfp,xfn,xfc⟩⟩:=x
 dsimp only at hk
 subst hk
 go_enter Tryz.func107,Tryz.ntmps107
 go_wp2_with (first|(with_reducible first|refine lld hL ?_|((first|refine lbx hL ?_|refine lal hL ?_|refine lbs hL ?_);clear hL;intro bl w1 hL)|(refine zd hL ?_;clear hL;intro w1 hL))|(go_at_call 162;refine(HP.out _ HM.out).mono ?_;rintro e w3 ⟨rfl,hM⟩;dsimp only))
 (try simp only[Exit.inBlock,Exit.then]);(first|refine yP rfl rfl ?_|refine yQ rfl rfl ?_)
 exact⟨rfl,hM⟩
theorem zdY (w0:World) (bs:Nat) (i:Ins) (at' : Nat) (x:Pv) (d:Pd) (A:List zj) (D:List zw) (w:World) (p:Pg) (h:Stp w0 bs i at' x [] false false A D w) (ok:qS w0 x d) (hr:Qe p i) (hf:j5 i=false) (hd:qw p d) (ha:at' < d.fields.length) (hat:at'≤1000000) (hk:i.kind=18):qo w0 bs i at' x d A D w:=by
 unfold qo
 rw[show zU i at' d=⟨[((at' : Int)+1,d)],false,false⟩ by unfold zU;rw[if_neg (by omega),if_neg (by omega),if_neg (by omega),if_neg (by omega),if_neg (by omega),if_neg (by omega),if_neg (by omega),if_pos hk]]
 have HP:=Lib.hid (fun w1 h1=>(show Calls Tryz.prog 162 #[.pointer (some ⟨bs,0,none⟩),.int .i64 ((at' : Int)+1),.func (.func 164) #[] #[]] w1 _ from J8 w0 bs i at' x d d [] false false A D w1 ((at' : Int)+1) 164 [] ze8 h1 ok.x ok.n ok.few ok.own ok.n ok.m (by simp) (za7 w0 bs i at' x false false A D d)))
 have HM:=Lib.hid h
 obtain⟨⟨sp,sn,sc⟩,evs,Re,hR,hL⟩:=h
 have HR:=Lib.hid hR
 clear hR ok
 clear hr hd hf ha
 obtain⟨ik,ito,ia,ib,inn,ig⟩:=i
 obtain⟨xn,⟨xp,xvn,xc⟩,⟨xfp,xfn,xfc⟩⟩:=x
 dsimp only at hk
 subst hk
 go_enter Tryz.func107,Tryz.ntmps107
 go_wp2_with (first|(with_reducible first|refine lld hL ?_|((first|refine lbx hL ?_|refine lal hL ?_|refine lbs hL ?_);clear hL;intro bl w1 hL)|(refine zd hL ?_;clear hL;intro w1 hL))|(go_at_call 162;refine(HP.out _ HM.out).mono ?_;rintro e w3 ⟨rfl,hM⟩;dsimp only))
 (try simp only[Exit.inBlock,Exit.then]);(first|refine yP rfl rfl ?_|refine yQ rfl rfl ?_)
 exact⟨rfl,hM⟩
theorem zdZ (w0:World) (bs:Nat) (i:Ins) (at' : Nat) (x:Pv) (d:Pd) (A:List zj) (D:List zw) (w:World) (p:Pg) (h:Stp w0 bs i at' x [] false false A D w) (ok:qS w0 x d) (hr:Qe p i) (hf:j5 i=false) (hd:qw p d) (ha:at' < d.fields.length) (hat:at'≤1000000) (hk:i.kind=19):qo w0 bs i at' x d A D w:=by
 unfold qo
 rw[show zU i at' d=⟨[],false,false⟩ by unfold zU;rw[if_neg (by omega),if_neg (by omega),if_neg (by omega),if_neg (by omega),if_neg (by omega),if_neg (by omega),if_neg (by omega),if_neg (by omega),if_pos hk]]
 have HM:=Lib.hid h
 obtain⟨⟨sp,sn,sc⟩,evs,Re,hR,hL⟩:=h
 have HR:=Lib.hid hR
 clear hR ok
 clear hr hd hf ha
 obtain⟨ik,ito,ia,ib,inn,ig⟩:=i
 obtain⟨xn,⟨xp,xvn,xc⟩,⟨xfp,xfn,xfc⟩⟩:=x
 dsimp only at hk
 subst hk
 go_enter Tryz.func107,Tryz.ntmps107
 go_wp2_with (first|(with_reducible first|refine lld hL ?_|((first|refine lbx hL ?_|refine lal hL ?_|refine lbs hL ?_);clear hL;intro bl w1 hL)|(refine zd hL ?_;clear hL;intro w1 hL)))
 (try simp only[Exit.inBlock,Exit.then]);(first|refine yP rfl rfl ?_|refine yQ rfl rfl ?_)
 exact⟨rfl,HM.out⟩
end Go.Proofs.YtplcndmdkabmeaaGreatDoor
