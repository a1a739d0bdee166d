/- Plain: what is left of a span that counts, as the reference has it. Conditions: those of each law. | The walk over the reference's StepPicture, kind by kind: an if. Conditions: the picture is right and of runs; the instruction is right. -/
import Derived.Test.YtplcndmdkabmeaaGreatDoorRspa
set_option linter.unusedSimpArgs false
set_option linter.unusedVariables false
set_option maxRecDepth 100000
namespace Go.Proofs.YtplcndmdkabmeaaGreatDoor
open Go.RowKit
def hi1 (x:Int):Int:=if x=0 then -1 else x
theorem UJ (lo hi:Int):jt ⟨true,lo,hi⟩=⟨true,lo,hi⟩:=rfl
theorem UK:jt ⟨false,0,0⟩=zC:=rfl
theorem Gw {hi:Int}(h:hi≠0):jt ⟨false,0,hi⟩=⟨false,1,hi⟩:=by
 unfold jt
 have h1:(hi==0)=false:=by simpa using h
 simp[h1,h]
theorem Gx {lo:Int}(h:lo≠0):jt ⟨false,lo,0⟩=⟨false,lo,-1⟩:=by
 unfold jt
 simp[h]
theorem UL {lo hi:Int}(h:lo≠0) (h2:hi≠0):jt ⟨false,lo,hi⟩=⟨false,lo,hi⟩:=by
 unfold jt
 simp[h,h2]
theorem V5 (Z:zj) (P Q:List zj):(P++(Z::Q)).Perm (Z::(P++Q)):=List.perm_middle
theorem Loc.tailNodup {w0 w:World}{K R:List zj}{D:List zw}(h:Loc w0 w (K++R) D):(R.map (fun e:zj=>e.1)).Nodup:=((List.sublist_append_right K R).map (fun e:zj=>e.1)).nodup h.nodup
theorem VV {s:zq}(h:zm s=0):ji s ⟨false,0,0⟩=if jT s 0=true then ⟨false,0,0⟩ else zC:=by
 obtain⟨sn,lo,hi⟩:=s
 cases sn with
 | true=>rfl
 | false=>
  have h1:=(zu h).2.1
  dsimp only at h1
  unfold ji jT
  by_cases q:lo≤0∧0≤hi
  ·have e1:min hi 0=0:=by omega
   have e2:max lo 0=0:=by omega
   simp[e1,e2,q.1,q.2]
  ·have e3:min hi 0<max lo 0:=by omega
   have e4:(decide (lo≤0)&&decide (0≤hi))=false:=by simp;omega
   simp[e3,e4]
theorem zbZ {lo hi:Int}(h:zm ⟨false,lo,hi⟩=0):lo≤hi:=(zu h).2.1
set_option maxHeartbeats 20000000
theorem zfT (p:Pg) (is:Nat→Ins) (i:Ins) (x:Pv) (d:Pd) (gx:List Gu) (at' : Nat) (w:World) (hp:zl p is=0) (hc:qc w p is) (hx:zN w x d) (hgx:J6 w x d gx) (ok:jh p is d) (hat:at' < p.n) (hi:is at'=i) (hk:i.kind=15):jj p at' x d gx (zU i at' d) w:=by
 have hs:=(zx hp).1
 have hk6:=hs.n1
 have hone:=(zx hp).2 at' hat
 rw[hi]at hone
 have hr:=qN hone
 have hf:=jL hone
 have hd:=qw.of ok hp
 have hfew:=yE.of hd.r hs
 have HCP:=Lib.hid (fun w' (hb:Below w.heap.size w w')=>qR x d w' (hx.grow hb) hfew)
 have hpm:d.vars.length+d.fields.length≤9223372036854775807:=(qS.of ok hp hx).m
 have HPM:=Lib.hid hpm
 obtain⟨bc,oc,hpc,hcr⟩:=hc
 have hpc2:=hpc (by omega)
 have hI1:=zg.agg (P:=Tryz.prog) jE (hcr at' hat).1 (fun j v hj=>(hcr at' hat).2 j v hj) rfl
 rw[hi]at hI1
 have HI:=Lib.hid (show zg Tryz.prog 86 w bc (oc+at' * 6) (Ins.v i) from hI1)
 have hxe:=hx.e
 have hdn:=ok.none
 rw[hdn]at hxe
 have hvn:=hx.vars.n
 have hvm:=hx.vars.m
 rw[show zU i at' d=⟨(if JF ((d.var i.a.toNat).gu ⟨none,(d.var i.a.toNat).l.length,0⟩)=true then [(i.goto,d.setVar i.a.toNat (ya (d.var i.a.toNat)))] else [])++(if noG ((d.var i.a.toNat).gu zn)=true then [((at' : Int)+1,d.setVar i.a.toNat (yu (d.var i.a.toNat)))] else []),false,false⟩ by unfold zU;rw[if_neg (by omega),if_neg (by omega),if_neg (by omega),if_neg (by omega),if_pos hk]]
 obtain⟨hia,hal⟩:=idx (hr.a (by rw[hk];decide)) hd.r.vars
 obtain⟨bo,oo,hpo,hco⟩:=hgx.l.ex
 have hpo2:=hpo (by omega)
 have hga:=hgx.d.at' i.a.toNat hal
 have hra:=zg.agg (P:=Tryz.prog) zZ (hco i.a.toNat (by omega)).1 (hco i.a.toNat (by omega)).2 rfl
 obtain⟨sa,hsa⟩:∃ s,gx.getD i.a.toNat zT=(d.var i.a.toNat).gu s:=⟨_,hga.e⟩
 have hla:zp w sa (d.var i.a.toNat).l:=by have:=hga.l;rw[hsa]at this;exact this
 rw[hsa]at hra
 have HA:=Lib.hid (show zg Tryz.prog 108 w bo (oo+i.a.toNat*7) ((d.var i.a.toNat).gu sa).v from hra)
 have hav:i.a.toNat<x.vars.n:=by omega
 have HN0:=Lib.hid hdn
 have hC:=fun w'=>Zz ((d.var i.a.toNat).gu sa) w'
 have hn0:noG ((d.var i.a.toNat).gu sa)=noG ((d.var i.a.toNat).gu zn):=rfl
 simp only[zb9 hla.n,hn0]at hC
 have HAL:=Lib.hid hal
 have HSP:=Lib.hid (hd.r.vg _ hal).span
 generalize hyes:JF ((d.var i.a.toNat).gu ⟨none,(d.var i.a.toNat).l.length,0⟩)=yes at *
 generalize hno:noG ((d.var i.a.toNat).gu zn)=no at *
 have HC:=Lib.hid hC
 clear hC hn0 hyes hno
 clear hx hgx hp hr hf hd hs hone hfew hpc hcr hI1 hi hdn hpm ok hpo hco hga hra hsa hla hal
 unfold jj
 generalize i.a.toNat=a at *
 generalize hgv:d.var a=g at *
 obtain⟨ik,ito,ia,ib,inn,ig⟩:=i
 obtain⟨xn,⟨xp,xvn,xc⟩,⟨xfp,xfn,xfc⟩⟩:=x
 obtain⟨pv,pf,pc,pn,pcap⟩:=p
 dsimp only at hk hpc2 hk6 hat hxe hvn hvm hia hpo2 hav
 subst hk hpc2 hxe hvn hia hpo2
 obtain⟨gn,⟨gsn,glo,ghi⟩,gt,gff,gl⟩:=g
 obtain⟨s1,s2,s3⟩:=sa
 dsimp only[Res.gu]at HA HC HSP
 have HGV:=Lib.hid hgv
 clear hgv
 generalize he1:(if yes=true then [(ig,d.setVar a (ya ⟨gn,⟨gsn,glo,ghi⟩,gt,gff,gl⟩))] else [])=E1
 have HE1:=Lib.hid he1
 clear he1
 generalize he2:(if no=true then [((at' : Int)+1,d.setVar a (yu ⟨gn,⟨gsn,glo,ghi⟩,gt,gff,gl⟩))] else [])=E2
 have HE2:=Lib.hid he2
 clear he2
 have hna:nA 15=true:=by decide
 have hnb:nB 15=false:=by decide
 have hL:=Loc.start w
 go_enter Tryz.func40,Tryz.ntmps40
 go_step
 go_step
 go_step
 ((with_reducible refine lbx hL ?_);clear hL;intro b3 w1 hL)
 ((with_reducible refine lbx hL ?_);clear hL;intro b5 w1 hL)
 go_upto_region 4 with(first|(with_reducible refine ldB HI.out hL ?_)|((with_reducible refine lal hL ?_);clear hL;intro b9 w1 hL)|(with_reducible first|refine lld hL ?_|(refine zd hL ?_;clear hL;intro w1 hL)))
 go_upto_region 5 with(first|(go_at_call 20;refine(HCP.out _ hL.below).mono ?_;rintro q w3 ⟨⟨rn,⟨vp,vn,vc⟩,⟨fp,fn,fc⟩⟩,rfl,gv,gf,rs,Rv,Rh,Rf,hrn,hO,hl3⟩;replace hL:=hL.gave hl3;simp only[List.cons_append,List.nil_append]at hL;clear hl3;dsimp only)|((with_reducible refine lal hL ?_);clear hL;intro b10 w1 hL)|(with_reducible first|refine lld hL ?_|(refine zd hL ?_;clear hL;intro w1 hL)))
 have hrn2:rn=false:=by rw[show rn=d.none from hrn];exact HN0.out
 subst hrn2
 clear hrn
 have hgd:=(hL.get (S:=zS gv gf d.vars d.fields) List.mem_cons_self).1
 have hnv:=hO.vars.flatlen jl (by decide)
 have hgl:=hgd.len
 (try dsimp only at hnv)
 obtain⟨bv,cs,hpv,rfl,htk,hlen⟩:=hO.vars.block (show 0<vn by have:=HAL.out;omega)
 have HEL:=Lib.hid (show ze Tryz.prog 108 cs (a*7) (gv.getD a zT).v from ze.agg zZ (hO.vars.elem jl zT (k:=a) (show a<vn by have:=HAL.out;omega)) rfl)
 have hput:=fun g=>hO.vars.put jl zT (k:=a) (show a<vn by have:=HAL.out;omega) g
 have hle:=hO.vars.fits
 (try dsimp only at hpv hput hle hlen)
 subst hpv
 have havn:a<vn:=by have:=HAL.out;omega
 have HPV:=Lib.hid (fun g:Gu=>show a*7+g.cells.length≤cs.length by show a*7+7≤_;rw[hlen];omega)
 have HO:=Lib.hid (And.intro hput hO)
 clear hgd hnv hgl htk hput hle hlen hO
 simp only[List.cons_append,List.nil_append]at hL
 go_upto_region 6 with(first|((with_reducible refine lbs hL ?_);clear hL;intro be w1 hL)|(with_reducible refine lld hL ?_))
 go_upto_region 7 with(first|(go_at_call 78;refine(zt _).mono ?_;rintro e w1 ⟨rfl,hb⟩;replace hL:=hL.grow hb;clear hb;dsimp only)|((with_reducible refine lal hL ?_);clear hL;first|(have hq12:b12=b12:=rfl;clear hq12;intro b13 w1 hL)|intro b12 w1 hL)|(with_reducible refine zd hL ?_;clear hL;intro w1 hL))
 go_upto_region 13 with(first|(with_reducible refine ldB HA.out hL ?_)|(go_at_call 74;refine(qe _ _).mono ?_;rintro e w1 ⟨rfl,hb⟩;replace hL:=hL.grow hb;clear hb;dsimp only)|(go_at_call 75;refine(qg _ _).mono ?_;rintro e w1 ⟨rfl,hb⟩;replace hL:=hL.grow hb;clear hb;dsimp only)|(go_at_call 78;refine(zt _).mono ?_;rintro e w1 ⟨rfl,hb⟩;replace hL:=hL.grow hb;clear hb;dsimp only)|((with_reducible refine lal hL ?_);clear hL;intro b14 w1 hL)|(with_reducible first|refine lld hL ?_|(refine zd hL ?_;clear hL;intro w1 hL)))
 go_upto_region 25 with(first|(go_at_call 79;refine(HC.out _).mono ?_;rintro e w1 ⟨rfl,hb⟩;replace hL:=hL.grow hb;clear hb;dsimp only)|(with_reducible refine lld hL ?_))
 go_step
 go_step
 go_step
 go_step
 go_step
 go_step
 go_step
 go_step
 go_cut [18] from 338 (fun c wc=>∃ (s:Sl) (evs:List EdV) (Re:List zj),c=.slice s.p s.n s.cap∧zM 75 4 s.p s.n s.cap (evs.flatMap EdV.cells) Re∧Loc w wc (((b14,108,[.bool false,.bool true,.int .i64 0,.int .i64 0,.bool false,.bool false,.slice none 0 0])::(b13,108,[.bool false,.bool true,.int .i64 0,.int .i64 0,.bool false,.bool false,.slice none 0 0])::(b12,108,[.bool gn,.bool gsn,.int .i64 glo,.int .i64 ghi,.bool gt,.bool gff,.slice s1 s2 s3])::(be,75,[.int .i64 ((at' : Int)+1),.bool false,.slice (some ⟨bv,0,none⟩) vn vc,.slice fp fn fc])::(b10,54,[.bool false,.slice (some ⟨bv,0,none⟩) vn vc,.slice fp fn fc])::(b9,86,[.int .i64 15,.int .i64 ito,.int .i64 a,.int .i64 ib,.int .i64 inn,.int .i64 ig])::(b5,54,[.bool false,.slice (some ⟨bo,oo,none⟩) d.vars.length xc,.slice xfp xfn xfc])::(b3,27,[.int .i64 pv,.int .i64 pf,.slice (some ⟨bc,oc,none⟩) pn pcap])::(bv,108,cs)::(Rf++Rh))++Re) [fun w=>ym w evs E1,zS gv gf d.vars d.fields])
 case first=>
  cases yes with
  | false=>
   go_wp2
   go_meet
   case rel=>exact⟨zn,[],[],rfl,zM.nil,(hL.pure (S:=fun w=>ym w [] E1) (fun w=>by rw[← HE1.out];exact ym.nil w)).conv (by simp only[List.append_nil])⟩
  | true=>
   go_upto_region 28 with(first|(go_at_call 20;refine(HCP.out _ hL.below).mono ?_;rintro q w3 ⟨⟨rn2,⟨vp2,vn2,vc2⟩,⟨fp2,fn2,fc2⟩⟩,rfl,gv2,gf2,rs2,Rv2,Rh2,Rf2,hrnb,hO2,hl3⟩;replace hL:=hL.gave hl3;simp only[List.cons_append,List.nil_append]at hL;clear hl3;have HRN2:=Lib.hid hrnb;clear hrnb;dsimp only)|((with_reducible refine lal hL ?_);clear hL;intro b19 w1 hL)|(with_reducible first|refine lld hL ?_|(refine zd hL ?_;clear hL;intro w1 hL)))
   have hrn2:rn2=false:=by rw[show rn2=d.none from HRN2.out];exact HN0.out
   clear HRN2
   subst hrn2
   have hgd2:=(hL.get (S:=zS gv2 gf2 d.vars d.fields) List.mem_cons_self).1
   have hga2:=hgd2.at' a HAL.out
   have hnv2:=hO2.vars.flatlen jl (by decide)
   have hgl2:=hgd2.len
   (try dsimp only at hnv2)
   obtain⟨bv2,cs2,hpv2,rfl,htk2,hlen2⟩:=hO2.vars.block (show 0<vn2 by have:=HAL.out;omega)
   have hel2:=hO2.vars.elem jl zT (k:=a) (show a<vn2 by have:=HAL.out;omega)
   have hput2:=fun g=>hO2.vars.put jl zT (k:=a) (show a<vn2 by have:=HAL.out;omega) g
   have hle2:=hO2.vars.fits
   (try dsimp only at hpv2 hput2 hle2 hlen2)
   subst hpv2
   have hvn2:a<vn2:=by have:=HAL.out;omega
   have HPV2:=Lib.hid (fun g:Gu=>show a*7+g.cells.length≤cs2.length by show a*7+7≤_;rw[hlen2];omega)
   have HO2:=Lib.hid (And.intro hput2 hO2)
   have he2:=hga2.e
   unfold Pd.var at HGV
   rw[HGV.out]at he2
   obtain⟨⟨u1,u2,u3⟩,hu⟩:∃ s:Sl,s=(gv2.getD a zT).s:=⟨_,rfl⟩
   rw[← hu]at he2
   have HEL2:=Lib.hid (show ze Tryz.prog 108 cs2 (a*7) (Gu.v ⟨gn,⟨gsn,glo,ghi⟩,gt,gff,⟨u1,u2,u3⟩⟩) from ze.agg zZ (by rw[he2]at hel2;exact hel2) rfl)
   have HGS:=Lib.hid (show ∀ w',zS gv2 gf2 d.vars d.fields w'→zp w' ⟨u1,u2,u3⟩ gl from fun w' h=>by
    have h1:=(h.1.at' a HAL.out).l
    rw[HGV.out]at h1
    rw[hu]
    exact h1)
   clear hgd2 hga2 hnv2 hgl2 htk2 hput2 hle2 hlen2 hel2 hO2 hu he2
   replace hL:=hL.perm (((((((((((List.perm_middle.symm).cons _).cons _).cons _).cons _).cons _).cons _).cons _).cons _).cons _).cons _)
   go_upto_region 29 with(first|(with_reducible refine ldO HEL2.out hL ?_)|((with_reducible refine lal hL ?_);clear hL;intro b20 w1 hL)|(with_reducible first|refine lld hL ?_|(refine zd hL ?_;clear hL;intro w1 hL)))
   go_step
   go_step
   go_step
   go_step
   ((with_reducible refine zd hL ?_);clear hL;intro w1 hL)
   go_step
   go_step
   go_step
   ((with_reducible refine zd hL ?_);clear hL;intro w1 hL)
   go_step
   go_step
   go_step
   go_step
   simp only[Act.put,List.setIfInBounds_toArray,List.set_cons_zero,List.set_cons_succ]
   go_cut [] from 338 (fun wc=>Loc w wc ((b20,108,[.bool false,.bool (jt ⟨gsn,glo,ghi⟩).none,.int .i64 (jt ⟨gsn,glo,ghi⟩).lo,.int .i64 (jt ⟨gsn,glo,ghi⟩).hi,.bool gt,.bool false,.slice u1 u2 u3])::(b19,54,[.bool false,.slice (some ⟨bv2,0,none⟩) vn2 vc2,.slice fp2 fn2 fc2])::(b14,108,[.bool false,.bool true,.int .i64 0,.int .i64 0,.bool false,.bool false,.slice none 0 0])::(b13,108,[.bool false,.bool true,.int .i64 0,.int .i64 0,.bool false,.bool false,.slice none 0 0])::(b12,108,[.bool gn,.bool gsn,.int .i64 glo,.int .i64 ghi,.bool gt,.bool gff,.slice s1 s2 s3])::(be,75,[.int .i64 ((at' : Int)+1),.bool false,.slice (some ⟨bv,0,none⟩) vn vc,.slice fp fn fc])::(b10,54,[.bool false,.slice (some ⟨bv,0,none⟩) vn vc,.slice fp fn fc])::(b9,86,[.int .i64 15,.int .i64 ito,.int .i64 a,.int .i64 ib,.int .i64 inn,.int .i64 ig])::(b5,54,[.bool false,.slice (some ⟨bo,oo,none⟩) d.vars.length xc,.slice xfp xfn xfc])::(b3,27,[.int .i64 pv,.int .i64 pf,.slice (some ⟨bc,oc,none⟩) pn pcap])::(bv,108,cs)::(bv2,108,cs2)::((Rf++Rh)++(Rf2++Rh2))) [zS gv2 gf2 d.vars d.fields,zS gv gf d.vars d.fields])
   case first=>
    clear HPV2 HO2 HGS HEL2 HPV HO HEL HCP HC HA HI HE1 HE2 HAL HN0 HPM HGV hat hk6 hvm hav
    cases gsn with
    | true=>
     go_wp2_with (first|(with_reducible refine lld hL ?_))
     go_meet
     case rel=>rw[UJ];exact hL
    | false=>
     have hlh:=zbZ HSP.out
     (try dsimp only at hlh)
     by_cases q1:glo=0
     ·subst q1
      by_cases q2:ghi=0
      ·subst q2
       clear hlh
       go_upto_region 31 with(first|(with_reducible refine lld hL ?_))
       obtain⟨wq,hwq⟩:∃ x,x=w1:=⟨_,rfl⟩
       subst hwq
       refine zf [109,110,111,112,113,114,21,22] ?_
       refine dv0 ?_
       refine dv1 0 ?_
       refine dv1 1 ?_
       refine dv0 ?_
       refine dv1 3 ?_
       refine dv1 4 ?_
       refine dv1 2 ?_
       refine dv1 5 ?_
       refine dnd hL ?_
       clear hL;intro w2 hL;simp only[zV,sTa,sTb]
       go_wp2_with (first|(with_reducible refine zd hL ?_;clear hL;intro w1 hL))
       go_meet
       case rel=>rw[UK];exact hL
      ·have q3:(ghi==0)=false:=by simpa using q2
       have q4:decide (ghi<1)=false:=by simp;omega
       have HQ:=Lib.hid q2
       clear hlh q2
       go_upto_region 31 with(first|(with_reducible refine lld hL ?_))
       obtain⟨wq,hwq⟩:∃ x,x=w1:=⟨_,rfl⟩
       subst hwq
       refine zf [109,110,111,112,113,114,21,22] ?_
       refine dv0 ?_
       refine dv1 0 ?_
       refine dv1 1 ?_
       refine dv0 ?_
       refine dv1 3 ?_
       refine dv1 4 ?_
       refine dv1 2 ?_
       refine dv1 5 ?_
       refine dnd hL ?_
       clear hL;intro w2 hL;simp only[zV,sTa,sTb]
       go_wp2_with (first|(with_reducible refine zd hL ?_;clear hL;intro w1 hL))
       go_meet
       case rel=>rw[Gw HQ.out];exact hL
     ·have q3:(glo==0)=false:=by simpa using q1
      by_cases q2:ghi=0
      ·subst q2
       have q4:decide (-1<glo)=false:=by simp;omega
       have HQ:=Lib.hid q1
       clear hlh q1
       go_upto_region 31 with(first|(with_reducible refine lld hL ?_))
       obtain⟨wq,hwq⟩:∃ x,x=w1:=⟨_,rfl⟩
       subst hwq
       refine zf [109,110,111,112,113,114,21,22] ?_
       refine dv0 ?_
       refine dv1 0 ?_
       refine dv1 1 ?_
       refine dv0 ?_
       refine dv1 3 ?_
       refine dv1 4 ?_
       refine dv1 2 ?_
       refine dv1 5 ?_
       refine dnd hL ?_
       clear hL;intro w2 hL;simp only[zV,sTa,sTb]
       go_wp2_with (first|(with_reducible refine zd hL ?_;clear hL;intro w1 hL))
       go_meet
       case rel=>rw[Gx HQ.out];exact hL
      ·have q5:(ghi==0)=false:=by simpa using q2
       have q4:decide (ghi<glo)=false:=by simp;omega
       have HQ:=Lib.hid (And.intro q1 q2)
       clear hlh q1 q2
       go_upto_region 31 with(first|(with_reducible refine lld hL ?_))
       obtain⟨wq,hwq⟩:∃ x,x=w1:=⟨_,rfl⟩
       subst hwq
       refine zf [109,110,111,112,113,114,21,22] ?_
       refine dv0 ?_
       refine dv1 0 ?_
       refine dv1 1 ?_
       refine dv0 ?_
       refine dv1 3 ?_
       refine dv1 4 ?_
       refine dv1 2 ?_
       refine dv1 5 ?_
       refine dnd hL ?_
       clear hL;intro w2 hL;simp only[zV,sTa,sTb]
       go_wp2_with (first|(with_reducible refine zd hL ?_;clear hL;intro w1 hL))
       go_meet
       case rel=>rw[UL HQ.out.1 HQ.out.2];exact hL
   clear hL
   have hL:=hcut
   clear hcut
   replace hL:=hL.conv (L':=(b20,108,Gu.cells ⟨false,jt ⟨gsn,glo,ghi⟩,gt,false,⟨u1,u2,u3⟩⟩)::(b19,54,[.bool false,.slice (some ⟨bv2,0,none⟩) vn2 vc2,.slice fp2 fn2 fc2])::(b14,108,[.bool false,.bool true,.int .i64 0,.int .i64 0,.bool false,.bool false,.slice none 0 0])::(b13,108,[.bool false,.bool true,.int .i64 0,.int .i64 0,.bool false,.bool false,.slice none 0 0])::(b12,108,[.bool gn,.bool gsn,.int .i64 glo,.int .i64 ghi,.bool gt,.bool gff,.slice s1 s2 s3])::(be,75,[.int .i64 ((at' : Int)+1),.bool false,.slice (some ⟨bv,0,none⟩) vn vc,.slice fp fn fc])::(b10,54,[.bool false,.slice (some ⟨bv,0,none⟩) vn vc,.slice fp fn fc])::(b9,86,[.int .i64 15,.int .i64 ito,.int .i64 a,.int .i64 ib,.int .i64 inn,.int .i64 ig])::(b5,54,[.bool false,.slice (some ⟨bo,oo,none⟩) d.vars.length xc,.slice xfp xfn xfc])::(b3,27,[.int .i64 pv,.int .i64 pf,.slice (some ⟨bc,oc,none⟩) pn pcap])::(bv,108,cs)::(bv2,108,cs2)::((Rf++Rh)++(Rf2++Rh2))) rfl
   have hgg:∀ w',zS gv2 gf2 d.vars d.fields w'→qq w' ⟨false,jt ⟨gsn,glo,ghi⟩,gt,false,⟨u1,u2,u3⟩⟩ (ya ⟨gn,⟨gsn,glo,ghi⟩,gt,gff,gl⟩):=fun w' h=>⟨rfl,HGS.out w' h⟩
   have HGG:=Lib.hid hgg
   clear hgg
   generalize hts:jt ⟨gsn,glo,ghi⟩=ts at hL HGG
   have HTS:=Lib.hid hts
   clear hts
   obtain⟨tsn,tlo,thi⟩:=ts
   go_upto_region 43 with(first|(refine qa (b:=bv2) (off:=a*7) (vs:=Gu.cells ⟨false,⟨tsn,tlo,thi⟩,gt,false,⟨u1,u2,u3⟩⟩) (cs':=zk cs2 (a*7) (Gu.cells ⟨false,⟨tsn,tlo,thi⟩,gt,false,⟨u1,u2,u3⟩⟩)) hL rfl rfl cIn rfl zZ.sz rfl (HPV2.out ⟨false,⟨tsn,tlo,thi⟩,gt,false,⟨u1,u2,u3⟩⟩) rfl ?_;clear hL;intro w1 hL)|((with_reducible refine lal hL ?_);clear hL;intro b23 w1 hL)|(with_reducible first|refine lld hL ?_|(refine zd hL ?_;clear hL;intro w1 hL)))
   obtain⟨hput2,hO2⟩:=HO2.out
   have hP:Ge ⟨false,⟨some ⟨bv2,0,none⟩,vn2,vc2⟩,⟨fp2,fn2,fc2⟩⟩ (gv2.set a ⟨false,⟨tsn,tlo,thi⟩,gt,false,⟨u1,u2,u3⟩⟩) gf2 rs2 [(bv2,108,zk cs2 (a*7) (Gu.cells ⟨false,⟨tsn,tlo,thi⟩,gt,false,⟨u1,u2,u3⟩⟩))] Rh2 Rf2:=⟨hput2 ⟨false,⟨tsn,tlo,thi⟩,gt,false,⟨u1,u2,u3⟩⟩,hO2.heads,hO2.rows⟩
   clear hput2 hO2
   have hL2:=hL.perm ((((((((((((((V5 (bv2,108,zk cs2 (a*7) (Gu.cells ⟨false,⟨tsn,tlo,thi⟩,gt,false,⟨u1,u2,u3⟩⟩)) (Rf++Rh) (Rf2++Rh2))).cons _).cons _).cons _).cons _).cons _).cons _).cons _).cons _).cons _).cons _).cons _).cons _)
   clear hL
   have hL:=hL2
   clear hL2
   replace hL:=hL.conv (L':=((b23,75,[.int .i64 ig,.bool false,.slice (some ⟨bv2,0,none⟩) vn2 vc2,.slice fp2 fn2 fc2])::(b20,108,Gu.cells ⟨false,⟨tsn,tlo,thi⟩,gt,false,⟨u1,u2,u3⟩⟩)::(b19,54,[.bool false,.slice (some ⟨bv2,0,none⟩) vn2 vc2,.slice fp2 fn2 fc2])::(b14,108,[.bool false,.bool true,.int .i64 0,.int .i64 0,.bool false,.bool false,.slice none 0 0])::(b13,108,[.bool false,.bool true,.int .i64 0,.int .i64 0,.bool false,.bool false,.slice none 0 0])::(b12,108,[.bool gn,.bool gsn,.int .i64 glo,.int .i64 ghi,.bool gt,.bool gff,.slice s1 s2 s3])::(be,75,[.int .i64 ((at' : Int)+1),.bool false,.slice (some ⟨bv,0,none⟩) vn vc,.slice fp fn fc])::(b10,54,[.bool false,.slice (some ⟨bv,0,none⟩) vn vc,.slice fp fn fc])::(b9,86,[.int .i64 15,.int .i64 ito,.int .i64 a,.int .i64 ib,.int .i64 inn,.int .i64 ig])::(b5,54,[.bool false,.slice (some ⟨bo,oo,none⟩) d.vars.length xc,.slice xfp xfn xfc])::(b3,27,[.int .i64 pv,.int .i64 pf,.slice (some ⟨bc,oc,none⟩) pn pcap])::(bv,108,cs)::(Rf++Rh))++((bv2,108,zk cs2 (a*7) (Gu.cells ⟨false,⟨tsn,tlo,thi⟩,gt,false,⟨u1,u2,u3⟩⟩))::(Rf2++Rh2))) rfl
   replace hL:=hL.facts (S:=fun w=>zN w ⟨false,⟨some ⟨bv2,0,none⟩,vn2,vc2⟩,⟨fp2,fn2,fc2⟩⟩ (d.setVar a (ya ⟨gn,⟨gsn,glo,ghi⟩,gt,gff,gl⟩))) (fun w' hr ht=>hP.is (B:=w.heap.size) ⟨hL.tailNodup,fun e he=>⟨hL.ids e (List.mem_append_right _ he),hr e he⟩⟩ ⟨by
    have h5:=HGG.out w' ht
    exact ht.1.set HAL.out h5,ht.2⟩ HN0.out.symm (by show (d.vars.set a _).length+_≤_;rw[List.length_set];exact HPM.out))
   clear hP
   go_wp2_with (first|((with_reducible refine lbs hL ?_);clear hL;intro b24 w1 hL)|(refine zz (p:=none) (n:=0) (cap:=0) (z:=[.int .i64 0,.bool false,.slice none 0 0,.slice none 0 0]) (K:=(b24,_,_)::(b23,_,_)::(b20,_,_)::(b19,_,_)::_) (R:=[]) (news:=EdV.cells ⟨ig,⟨false,⟨some ⟨bv2,0,none⟩,vn2,vc2⟩,⟨fp2,fn2,fc2⟩⟩⟩) zM.nil hL (by simp only[List.append_nil];rfl) rfl rfl VN zcn (by decide) rfl (fun _=>⟨⟨b24,0,none⟩,rfl,fun j u hj=>by rw[zH,Nat.zero_add];exact zF (hL.heap (b:=b24) cIn) j hj⟩) rfl (by simp[Value.oneCell']) (by have:maxLen=9223372036854775807:=rfl;omega) (by omega) ?_;clear hL;intro p4 cap4 R4 w4 hS4 hL;simp only[List.cons_append]at hL)|(with_reducible refine lld hL ?_))
   go_meet
   case rel=>
    refine⟨⟨p4,1,cap4⟩,[⟨ig,⟨false,⟨some ⟨bv2,0,none⟩,vn2,vc2⟩,⟨fp2,fn2,fc2⟩⟩⟩],R4,rfl,by simpa using hS4,?_⟩
    exact(hL.drop (L':=((b14,108,[.bool false,.bool true,.int .i64 0,.int .i64 0,.bool false,.bool false,.slice none 0 0])::(b13,108,[.bool false,.bool true,.int .i64 0,.int .i64 0,.bool false,.bool false,.slice none 0 0])::(b12,108,[.bool gn,.bool gsn,.int .i64 glo,.int .i64 ghi,.bool gt,.bool gff,.slice s1 s2 s3])::(be,75,[.int .i64 ((at' : Int)+1),.bool false,.slice (some ⟨bv,0,none⟩) vn vc,.slice fp fn fc])::(b10,54,[.bool false,.slice (some ⟨bv,0,none⟩) vn vc,.slice fp fn fc])::(b9,86,[.int .i64 15,.int .i64 ito,.int .i64 a,.int .i64 ib,.int .i64 inn,.int .i64 ig])::(b5,54,[.bool false,.slice (some ⟨bo,oo,none⟩) d.vars.length xc,.slice xfp xfn xfc])::(b3,27,[.int .i64 pv,.int .i64 pf,.slice (some ⟨bc,oc,none⟩) pn pcap])::(bv,108,cs)::(Rf++Rh))++R4) (.cons _ (.cons _ (.cons _ (.cons _ (List.Sublist.refl _))))) (fun _ h=>h)).turn (fun w h=>by rw[← HE1.out];exact(ym.nil w).snoc h)
 clear hL
 obtain⟨⟨p4,n4,cap4⟩,evs,Re,rfl,hS4,hL⟩:=hcut
 have HS4:=Lib.hid hS4
 have hn4:n4≤1:=by
  have h1:n4=evs.length:=hS4.flatlen zff (by decide)
  have h2:=(hL.get (S:=fun w=>ym w evs E1) List.mem_cons_self).len
  have h3:E1.length≤1:=by rw[← HE1.out];split<;>simp
  omega
 clear hS4
 cases no with
 | false=>
  go_wp2_with (first|(with_reducible refine lld hL ?_))
  refine rt3 ?_
  refine⟨⟨p4,n4,cap4⟩,rfl,?_⟩
  exact((hL.edges (s:=⟨p4,n4,cap4⟩) HS4.out).turn (U:=fun w=>zX w gx d.vars→y9 w ⟨p4,n4,cap4⟩ (E1++E2)) (fun w h _=>by rw[← HE2.out,if_neg (by decide),List.append_nil];exact h)).drop (List.nil_sublist _) (fun S hS=>by rw[List.mem_singleton.1 hS];exact List.mem_cons_self)
 | true=>
  have hga:=(hL.get (S:=zS gv gf d.vars d.fields) (List.mem_cons_of_mem _ List.mem_cons_self)).1.at' a HAL.out
  have he:=hga.e
  unfold Pd.var at HGV
  rw[HGV.out]at he
  obtain⟨⟨u1,u2,u3⟩,hu⟩:∃ s:Sl,s=(gv.getD a zT).s:=⟨_,rfl⟩
  rw[← hu]at he
  have hel:=HEL.out
  rw[he]at hel
  have HEL2:=Lib.hid (show ze Tryz.prog 108 cs (a*7) (Gu.v ⟨gn,⟨gsn,glo,ghi⟩,gt,gff,⟨u1,u2,u3⟩⟩) from hel)
  clear hga he hel hu
  simp only[List.cons_append]at hL
  have hic:=VV HSP.out
  have HIC:=Lib.hid hic
  have HIN:=Lib.hid (fun w'=>zcg ⟨gsn,glo,ghi⟩ 0 w')
  clear hic
  go_upto_region 48 with(first|(with_reducible refine ldO HEL2.out hL ?_)|((with_reducible refine lal hL ?_);clear hL;intro b24 w1 hL)|(with_reducible first|refine lld hL ?_|(refine zd hL ?_;clear hL;intro w1 hL)))
  go_step
  go_step
  go_step
  go_step
  ((with_reducible refine zd hL ?_);clear hL;intro w1 hL)
  go_step
  go_step
  go_step
  ((with_reducible refine zd hL ?_);clear hL;intro w1 hL)
  go_step
  go_step
  go_step
  go_step
  simp only[Act.put,List.setIfInBounds_toArray,List.set_cons_zero,List.set_cons_succ]
  go_cut [] from 338 (fun wc=>Loc w wc ((b24,108,[.bool gn,.bool (ji ⟨gsn,glo,ghi⟩ ⟨false,0,0⟩).none,.int .i64 (ji ⟨gsn,glo,ghi⟩ ⟨false,0,0⟩).lo,.int .i64 (ji ⟨gsn,glo,ghi⟩ ⟨false,0,0⟩).hi,.bool false,.bool gff,.slice none 0 0])::(b14,108,[.bool false,.bool true,.int .i64 0,.int .i64 0,.bool false,.bool false,.slice none 0 0])::(b13,108,[.bool false,.bool true,.int .i64 0,.int .i64 0,.bool false,.bool false,.slice none 0 0])::(b12,108,[.bool gn,.bool gsn,.int .i64 glo,.int .i64 ghi,.bool gt,.bool gff,.slice s1 s2 s3])::(be,75,[.int .i64 ((at' : Int)+1),.bool false,.slice (some ⟨bv,0,none⟩) vn vc,.slice fp fn fc])::(b10,54,[.bool false,.slice (some ⟨bv,0,none⟩) vn vc,.slice fp fn fc])::(b9,86,[.int .i64 15,.int .i64 ito,.int .i64 a,.int .i64 ib,.int .i64 inn,.int .i64 ig])::(b5,54,[.bool false,.slice (some ⟨bo,oo,none⟩) d.vars.length xc,.slice xfp xfn xfc])::(b3,27,[.int .i64 pv,.int .i64 pf,.slice (some ⟨bc,oc,none⟩) pn pcap])::(bv,108,cs)::((Rf++Rh)++Re)) [fun w=>ym w evs E1,zS gv gf d.vars d.fields])
  case first=>
   generalize hin:jT ⟨gsn,glo,ghi⟩ 0=ins at HIN HIC
   clear hin
   cases ins with
   | true=>
    go_wp2_with (first|(go_at_call 80;refine(HIN.out _).mono ?_;rintro e w1 ⟨rfl,hb⟩;replace hL:=hL.grow hb;clear hb;dsimp only)|(with_reducible first|refine lld hL ?_|(refine zd hL ?_;clear hL;intro w1 hL)))
    go_meet
    case rel=>rw[HIC.out];exact hL
   | false=>
    go_wp2_with (first|(go_at_call 80;refine(HIN.out _).mono ?_;rintro e w1 ⟨rfl,hb⟩;replace hL:=hL.grow hb;clear hb;dsimp only)|(with_reducible first|refine lld hL ?_|(refine zd hL ?_;clear hL;intro w1 hL)))
    go_meet
    case rel=>rw[HIC.out];exact hL
  clear hL
  have hL:=hcut
  clear hcut HIN HIC
  generalize hts:ji ⟨gsn,glo,ghi⟩ ⟨false,0,0⟩=ts at hL
  have HTS:=Lib.hid hts
  clear hts
  obtain⟨tsn,tlo,thi⟩:=ts
  go_upto_region 53 with(first|(refine qa (b:=bv) (off:=a*7) (vs:=Gu.cells ⟨gn,⟨tsn,tlo,thi⟩,false,gff,zn⟩) (cs':=zk cs (a*7) (Gu.cells ⟨gn,⟨tsn,tlo,thi⟩,false,gff,zn⟩)) hL rfl rfl cIn rfl zZ.sz rfl (HPV.out ⟨gn,⟨tsn,tlo,thi⟩,false,gff,zn⟩) rfl ?_;clear hL;intro w1 hL)|(with_reducible refine lld hL ?_))
  obtain⟨hput,hO⟩:=HO.out
  have hP:Ge ⟨false,⟨some ⟨bv,0,none⟩,vn,vc⟩,⟨fp,fn,fc⟩⟩ (gv.set a ⟨gn,⟨tsn,tlo,thi⟩,false,gff,zn⟩) gf rs [(bv,108,zk cs (a*7) (Gu.cells ⟨gn,⟨tsn,tlo,thi⟩,false,gff,zn⟩))] Rh Rf:=⟨hput ⟨gn,⟨tsn,tlo,thi⟩,false,gff,zn⟩,hO.heads,hO.rows⟩
  clear hput hO
  have hL2:=(hL.perm (L':=((b24,108,Gu.cells ⟨gn,⟨tsn,tlo,thi⟩,false,gff,zn⟩)::(b14,108,[.bool false,.bool true,.int .i64 0,.int .i64 0,.bool false,.bool false,.slice none 0 0])::(b13,108,[.bool false,.bool true,.int .i64 0,.int .i64 0,.bool false,.bool false,.slice none 0 0])::(b12,108,[.bool gn,.bool gsn,.int .i64 glo,.int .i64 ghi,.bool gt,.bool gff,.slice s1 s2 s3])::(be,75,[.int .i64 ((at' : Int)+1),.bool false,.slice (some ⟨bv,0,none⟩) vn vc,.slice fp fn fc])::(b10,54,[.bool false,.slice (some ⟨bv,0,none⟩) vn vc,.slice fp fn fc])::(b9,86,[.int .i64 15,.int .i64 ito,.int .i64 a,.int .i64 ib,.int .i64 inn,.int .i64 ig])::(b5,54,[.bool false,.slice (some ⟨bo,oo,none⟩) d.vars.length xc,.slice xfp xfn xfc])::(b3,27,[.int .i64 pv,.int .i64 pf,.slice (some ⟨bc,oc,none⟩) pn pcap])::Re)++((bv,108,zk cs (a*7) (Gu.cells ⟨gn,⟨tsn,tlo,thi⟩,false,gff,zn⟩))::(Rf++Rh))) (((((((((((List.perm_append_comm (l₁:=Re) (l₂:=(bv,108,zk cs (a*7) (Gu.cells ⟨gn,⟨tsn,tlo,thi⟩,false,gff,zn⟩))::(Rf++Rh)))).cons _).cons _).cons _).cons _).cons _).cons _).cons _).cons _).cons _)).drop (D':=[zS gv gf d.vars d.fields,fun w=>ym w evs E1]) (List.Sublist.refl _) (fun S hS=>by
   simp only[List.mem_cons,List.not_mem_nil,or_false]at hS ⊢
   exact hS.symm)
  clear hL
  have hL:=hL2
  clear hL2
  replace hL:=hL.facts (S:=fun w=>zN w ⟨false,⟨some ⟨bv,0,none⟩,vn,vc⟩,⟨fp,fn,fc⟩⟩ (d.setVar a (yu ⟨gn,⟨gsn,glo,ghi⟩,gt,gff,gl⟩))) (fun w' hr ht=>hP.is (B:=w.heap.size) ⟨hL.tailNodup,fun e he=>⟨hL.ids e (List.mem_append_right _ he),hr e he⟩⟩ ⟨ht.1.set HAL.out (show qq w' ⟨gn,⟨tsn,tlo,thi⟩,false,gff,zn⟩ (yu ⟨gn,⟨gsn,glo,ghi⟩,gt,gff,gl⟩) from ⟨by show ⟨gn,⟨tsn,tlo,thi⟩,false,gff,zn⟩=Res.gu ⟨gn,ji ⟨gsn,glo,ghi⟩ ⟨false,0,0⟩,false,gff,[]⟩ zn;rw[HTS.out],zp.nil w'⟩),ht.2⟩ HN0.out.symm (by show (d.vars.set a _).length+_≤_;rw[List.length_set];exact HPM.out))
  clear hP
  go_wp2_with (first|(refine zz (p:=p4) (n:=n4) (cap:=cap4) (z:=[.int .i64 0,.bool false,.slice none 0 0,.slice none 0 0]) (K:=[_,_,_,_,_,_,_,_,_]) (R:=Re) (news:=EdV.cells ⟨(at' : Int)+1,⟨false,⟨some ⟨bv,0,none⟩,vn,vc⟩,⟨fp,fn,fc⟩⟩⟩) HS4.out hL (by simp only[List.cons_append,List.nil_append];rfl) rfl rfl VN zcn (by decide) rfl (fun _=>⟨⟨be,0,none⟩,rfl,fun j u hj=>by rw[zH,Nat.zero_add];exact zF (hL.heap (b:=be) cIn) j hj⟩) rfl (by simp[Value.oneCell']) (by have:maxLen=9223372036854775807:=rfl;omega) (by omega) ?_;clear hL;intro p5 cap5 R5 w5 hS5 hL;simp only[List.cons_append,List.nil_append]at hL))
  refine rt3 ?_
  refine⟨⟨p5,n4+1,cap5⟩,rfl,?_⟩
  have hE:=(hL.both (U:=fun w=>ym w (evs++[⟨(at' : Int)+1,⟨false,⟨some ⟨bv,0,none⟩,vn,vc⟩,⟨fp,fn,fc⟩⟩⟩]) (E1++[((at' : Int)+1,d.setVar a (yu ⟨gn,⟨gsn,glo,ghi⟩,gt,gff,gl⟩))])) (fun w h1 h2=>h2.snoc h1))
  exact((Loc.edges (K:=[_,_,_,_,_,_,_,_,_]) (s:=⟨p5,n4+1,cap5⟩) hE (by simpa using hS5)).turn (U:=fun w=>zX w gx d.vars→y9 w ⟨p5,n4+1,cap5⟩ (E1++E2)) (fun w h _=>by rw[← HE2.out];exact h)).drop (List.nil_sublist _) (fun S hS=>by rw[List.mem_singleton.1 hS];exact List.mem_cons_self)
end Go.Proofs.YtplcndmdkabmeaaGreatDoor
