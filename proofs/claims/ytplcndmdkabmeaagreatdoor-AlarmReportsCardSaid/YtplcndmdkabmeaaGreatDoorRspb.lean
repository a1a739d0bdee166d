/- The walk over the reference's StepPicture, kind by kind: a truth; a new thing. Conditions: the picture is right and of runs; the instruction is right. | The walk over the reference's StepPicture, kind by kind: a field is got. Conditions: the picture is right and of runs; the instruction is right. | The walk over the reference's StepPicture, kind by kind: a field is put. Conditions: the picture is right and of runs; the instruction is right. | The walk over the reference's StepPicture, kind by kind: what is made of one guess, of two. Conditions: the picture is right and of runs; the instruction is right. -/
import Derived.Test.YtplcndmdkabmeaaGreatDoorRspa
set_option linter.unusedSimpArgs false
set_option linter.unusedVariables false
set_option maxRecDepth 100000
set_option maxHeartbeats 4000000
namespace Go.Proofs.YtplcndmdkabmeaaGreatDoor
open Go.RowKit
theorem zfp (p:Pg) (is:Nat→Ins) (i:Ins) (x:Pv) (d:Pd) (gx:List Gu) (at' : Nat) (w:World) (hp:zl p is=0) (hc:qc w p is) (hx:zN w x d) (hgx:J6 w x d gx) (ok:jh p is d) (hat:at' < p.n) (hi:is at'=i) (hk:i.kind=2) (hnn:i.n=0):jj p at' x d gx (zU i at' d) w:=by
 have hs:=(zx hp).1
 have hk6:=hs.n1
 have hone:=(zx hp).2 at' hat
 rw[hi]at hone
 have hr:=qN hone
 have hf:=jL hone
 have hd:=qw.of ok hp
 have hfew:=yE.of hd.r hs
 have HCP:=Lib.hid (fun w' (hb:Below w.heap.size w w')=>qR x d w' (hx.grow hb) hfew)
 have hpm:d.vars.length+d.fields.length≤9223372036854775807:=(qS.of ok hp hx).m
 have HPM:=Lib.hid hpm
 obtain⟨bc,oc,hpc,hcr⟩:=hc
 have hpc2:=hpc (by omega)
 have hI1:=zg.agg (P:=Tryz.prog) jE (hcr at' hat).1 (fun j v hj=>(hcr at' hat).2 j v hj) rfl
 rw[hi]at hI1
 have HI:=Lib.hid (show zg Tryz.prog 86 w bc (oc+at' * 6) (Ins.v i) from hI1)
 have hxe:=hx.e
 have hdn:=ok.none
 rw[hdn]at hxe
 have hvn:=hx.vars.n
 have hvm:=hx.vars.m
 rw[show zU i at' d=⟨jV d at' i.to.toNat (jb i),false,false⟩ by unfold zU;rw[if_pos (by omega)]]
 have HN0:=Lib.hid hdn
 obtain⟨hit,hkl⟩:=idx (hr.to (by rw[hk];decide)) hd.r.vars
 have HK:=Lib.hid hkl
 clear hx hgx hp hr hf hd hs hone hfew hpc hcr hI1 hi hdn hpm ok
 clear hkl
 unfold jj
 generalize i.to.toNat=k at *
 obtain⟨ik,ito,ia,ib,inn,ig⟩:=i
 obtain⟨xn,⟨xp,xvn,xc⟩,⟨xfp,xfn,xfc⟩⟩:=x
 obtain⟨pv,pf,pc,pn,pcap⟩:=p
 dsimp only at hit hnn
 subst hit hnn
 dsimp only at hk hpc2 hk6 hat hxe hvn hvm
 subst hk hpc2 hxe hvn
 have hna:nA 2=false:=by decide
 have hnb:nB 2=false:=by decide
 have hL:=Loc.start w
 go_enter Tryz.func40,Tryz.ntmps40
 go_step
 go_step
 go_step
 ((with_reducible refine lbx hL ?_);clear hL;intro b3 w1 hL)
 ((with_reducible refine lbx hL ?_);clear hL;intro b5 w1 hL)
 go_upto_region 4 with(first|(with_reducible refine ldB HI.out hL ?_)|((with_reducible refine lal hL ?_);clear hL;intro b9 w1 hL)|(with_reducible first|refine lld hL ?_|(refine zd hL ?_;clear hL;intro w1 hL)))
 go_upto_region 5 with(first|(go_at_call 20;refine(HCP.out _ hL.below).mono ?_;rintro q w3 ⟨⟨rn,⟨vp,vn,vc⟩,⟨fp,fn,fc⟩⟩,rfl,gv,gf,rs,Rv,Rh,Rf,hrn,hO,hl3⟩;replace hL:=hL.gave hl3;simp only[List.cons_append,List.nil_append]at hL;clear hl3;dsimp only)|((with_reducible refine lal hL ?_);clear hL;intro b10 w1 hL)|(with_reducible first|refine lld hL ?_|(refine zd hL ?_;clear hL;intro w1 hL)))
 have hrn2:rn=false:=by rw[show rn=d.none from hrn];exact HN0.out
 subst hrn2
 clear hrn
 have hgd:=(hL.get (S:=zS gv gf d.vars d.fields) List.mem_cons_self).1
 have hnv:=hO.vars.flatlen jl (by decide)
 have hgl:=hgd.len
 (try dsimp only at hnv)
 obtain⟨bv,cs,hpv,rfl,htk,hlen⟩:=hO.vars.block (show 0<vn by have:=HK.out;omega)
 have hput:=fun g=>hO.vars.put jl zT (k:=k) (show k<vn by have:=HK.out;omega) g
 have hle:=hO.vars.fits
 (try dsimp only at hpv hput hle hlen)
 subst hpv
 have hkn:k<vn:=by have:=HK.out;omega
 have HPV:=Lib.hid (fun g:Gu=>show k*7+g.cells.length≤cs.length by show k*7+7≤_;rw[hlen];omega)
 have HO:=Lib.hid (And.intro hput hO)
 clear hgd hnv hgl htk hput hle hlen hO
 simp only[List.cons_append,List.nil_append]at hL
 go_upto_region 6 with(first|((with_reducible refine lbs hL ?_);clear hL;intro be w1 hL)|(with_reducible refine lld hL ?_))
 go_upto_region 7 with(first|(go_at_call 78;refine(zt _).mono ?_;rintro e w1 ⟨rfl,hb⟩;replace hL:=hL.grow hb;clear hb;dsimp only)|((with_reducible refine lal hL ?_);clear hL;first|(have hq12:b12=b12:=rfl;clear hq12;intro b13 w1 hL)|intro b12 w1 hL)|(with_reducible refine zd hL ?_;clear hL;intro w1 hL))
 go_upto_region 13 with(first|(go_at_call 74;refine(qe _ _).mono ?_;rintro e w1 ⟨rfl,hb⟩;replace hL:=hL.grow hb;clear hb;dsimp only)|(go_at_call 75;refine(qg _ _).mono ?_;rintro e w1 ⟨rfl,hb⟩;replace hL:=hL.grow hb;clear hb;dsimp only)|(go_at_call 78;refine(zt _).mono ?_;rintro e w1 ⟨rfl,hb⟩;replace hL:=hL.grow hb;clear hb;dsimp only)|((with_reducible refine lal hL ?_);clear hL;intro b14 w1 hL)|(with_reducible first|refine lld hL ?_|(refine zd hL ?_;clear hL;intro w1 hL)))
 have HE:=Lib.hid (fun w'=>zW ⟨false,zC,false,true,zn⟩ w')
 go_upto_region 81 with(first|(with_reducible refine lld hL ?_))
 have h0:=hL.conv (L':=(fun l=>(b14,108,[.bool false,.bool true,.int .i64 0,.int .i64 0,bif lst l 7 then .bool false else .bool false,bif lst l 9 then .bool true else .bool false,.slice none 0 0])::(b13,108,[.bool false,.bool true,.int .i64 0,.int .i64 0,.bool false,.bool false,.slice none 0 0])::(b12,108,[.bool false,.bool true,.int .i64 0,.int .i64 0,.bool false,.bool false,.slice none 0 0])::(be,75,[.int .i64 ((at' : Int)+1),.bool false,.slice (some ⟨bv,0,none⟩) vn vc,.slice fp fn fc])::(b10,54,[.bool false,.slice (some ⟨bv,0,none⟩) vn vc,.slice fp fn fc])::(b9,86,[.int .i64 2,.int .i64 k,.int .i64 ia,.int .i64 ib,.int .i64 0,.int .i64 ig])::(b5,54,[.bool false,.slice xp d.vars.length xc,.slice xfp xfn xfc])::(b3,27,[.int .i64 pv,.int .i64 pf,.slice (some ⟨bc,oc,none⟩) pn pcap])::(bv,108,cs)::(Rf++Rh)) (Array.replicate 10 false)) (by simp only[Zy,cond_false])
 refine Jy (w0:=_) [316,317,318,319,320,321,322,323] [(0,316,.pointer (some ⟨b9,4,none⟩)),(1,317,.int .i64 0),(2,318,.bool false),(3,319,.pointer (some ⟨b9,4,none⟩)),(4,320,.int .i64 0),(5,321,.bool true),(6,322,.pointer (some ⟨b14,4,none⟩)),(8,323,.pointer (some ⟨b14,5,none⟩))] (fun l=>(b14,108,[.bool false,.bool true,.int .i64 0,.int .i64 0,bif lst l 7 then .bool false else .bool false,bif lst l 9 then .bool true else .bool false,.slice none 0 0])::(b13,108,[.bool false,.bool true,.int .i64 0,.int .i64 0,.bool false,.bool false,.slice none 0 0])::(b12,108,[.bool false,.bool true,.int .i64 0,.int .i64 0,.bool false,.bool false,.slice none 0 0])::(be,75,[.int .i64 ((at' : Int)+1),.bool false,.slice (some ⟨bv,0,none⟩) vn vc,.slice fp fn fc])::(b10,54,[.bool false,.slice (some ⟨bv,0,none⟩) vn vc,.slice fp fn fc])::(b9,86,[.int .i64 2,.int .i64 k,.int .i64 ia,.int .i64 ib,.int .i64 0,.int .i64 ig])::(b5,54,[.bool false,.slice xp d.vars.length xc,.slice xfp xfn xfc])::(b3,27,[.int .i64 pv,.int .i64 pf,.slice (some ⟨bc,oc,none⟩) pn pcap])::(bv,108,cs)::(Rf++Rh)) (by kernel_rfl) (by kernel_rfl) h0 ⟨?_,?_,?_,?_,?_,?_,?_,?_,?_,?_,trivial⟩ ?_
 all_goals clear hL h0
 ·intro l g w hi hI y
  have hL:=hI.loc
  try dsimp only at hL
  refine zP (d:=316) (x:=.pointer (some ⟨b9,4,none⟩)) (by kernel_rfl) cMm hI (by simp only[zc (show (7:Nat)≠0 by decide),zc (show (9:Nat)≠0 by decide)]) ?_
  clear y
  simp only[za,fLa,fLb,sTa,sTb]
  go_wp2
  exact cY
 ·intro l g w hi hI y
  have hL:=hI.loc
  try dsimp only at hL
  have d0:=hI.vals (0,316,.pointer (some ⟨b9,4,none⟩)) cMm (y 0 (by decide))
  try dsimp only at d0
  refine zP (d:=317) (x:=.int .i64 0) (by kernel_rfl) cMm hI (by simp only[zc (show (7:Nat)≠1 by decide),zc (show (9:Nat)≠1 by decide)]) ?_
  clear y
  simp only[za,fLa,fLb,sTa,sTb]
  simp only[d0]
  go_wp2_with (first|(with_reducible refine lld hL ?_)|(with_reducible refine ldD hL ?_))
  exact cY
 ·intro l g w hi hI y
  have hL:=hI.loc
  try dsimp only at hL
  have d1:=hI.vals (1,317,.int .i64 0) cMm (y 1 (by decide))
  try dsimp only at d1
  refine zP (d:=318) (x:=.bool false) (by kernel_rfl) cMm hI (by simp only[zc (show (7:Nat)≠2 by decide),zc (show (9:Nat)≠2 by decide)]) ?_
  clear y
  simp only[za,fLa,fLb,sTa,sTb]
  simp only[d1]
  go_wp2
  exact cY
 ·intro l g w hi hI y
  have hL:=hI.loc
  try dsimp only at hL
  refine zP (d:=319) (x:=.pointer (some ⟨b9,4,none⟩)) (by kernel_rfl) cMm hI (by simp only[zc (show (7:Nat)≠3 by decide),zc (show (9:Nat)≠3 by decide)]) ?_
  clear y
  simp only[za,fLa,fLb,sTa,sTb]
  go_wp2
  exact cY
 ·intro l g w hi hI y
  have hL:=hI.loc
  try dsimp only at hL
  have d3:=hI.vals (3,319,.pointer (some ⟨b9,4,none⟩)) cMm (y 3 (by decide))
  try dsimp only at d3
  refine zP (d:=320) (x:=.int .i64 0) (by kernel_rfl) cMm hI (by simp only[zc (show (7:Nat)≠4 by decide),zc (show (9:Nat)≠4 by decide)]) ?_
  clear y
  simp only[za,fLa,fLb,sTa,sTb]
  simp only[d3]
  go_wp2_with (first|(with_reducible refine lld hL ?_)|(with_reducible refine ldD hL ?_))
  exact cY
 ·intro l g w hi hI y
  have hL:=hI.loc
  try dsimp only at hL
  have d4:=hI.vals (4,320,.int .i64 0) cMm (y 4 (by decide))
  try dsimp only at d4
  refine zP (d:=321) (x:=.bool true) (by kernel_rfl) cMm hI (by simp only[zc (show (7:Nat)≠5 by decide),zc (show (9:Nat)≠5 by decide)]) ?_
  clear y
  simp only[za,fLa,fLb,sTa,sTb]
  simp only[d4]
  go_wp2
  exact cY
 ·intro l g w hi hI y
  have hL:=hI.loc
  try dsimp only at hL
  refine zP (d:=322) (x:=.pointer (some ⟨b14,4,none⟩)) (by kernel_rfl) cMm hI (by simp only[zc (show (7:Nat)≠6 by decide),zc (show (9:Nat)≠6 by decide)]) ?_
  clear y
  simp only[za,fLa,fLb,sTa,sTb]
  go_wp2
  exact cY
 ·intro l g w hi hI y
  have hL:=hI.loc
  try dsimp only at hL
  have d6:=hI.vals (6,322,.pointer (some ⟨b14,4,none⟩)) cMm (y 6 (by decide))
  try dsimp only at d6
  have d2:=hI.vals (2,318,.bool false) cMm (y 2 (by decide))
  try dsimp only at d2
  refine JT (i:=7) (L:=(b14,108,[.bool false,.bool true,.int .i64 0,.int .i64 0,.bool false,bif lst l 9 then .bool true else .bool false,.slice none 0 0])::(b13,108,[.bool false,.bool true,.int .i64 0,.int .i64 0,.bool false,.bool false,.slice none 0 0])::(b12,108,[.bool false,.bool true,.int .i64 0,.int .i64 0,.bool false,.bool false,.slice none 0 0])::(be,75,[.int .i64 ((at' : Int)+1),.bool false,.slice (some ⟨bv,0,none⟩) vn vc,.slice fp fn fc])::(b10,54,[.bool false,.slice (some ⟨bv,0,none⟩) vn vc,.slice fp fn fc])::(b9,86,[.int .i64 2,.int .i64 k,.int .i64 ia,.int .i64 ib,.int .i64 0,.int .i64 ig])::(b5,54,[.bool false,.slice xp d.vars.length xc,.slice xfp xfn xfc])::(b3,27,[.int .i64 pv,.int .i64 pf,.slice (some ⟨bc,oc,none⟩) pn pcap])::(bv,108,cs)::(Rf++Rh)) hI (by kernel_rfl) (by simp only[qO hi,zc (show (9:Nat)≠7 by decide),cond_true]) ?_
  clear y
  simp only[za,fLa,fLb,sTa,sTb]
  simp only[d6,d2]
  ((with_reducible refine zd hL ?_);clear hL;intro w1 hL)
  exact⟨rfl,rfl,hL⟩
 ·intro l g w hi hI y
  have hL:=hI.loc
  try dsimp only at hL
  refine zP (d:=323) (x:=.pointer (some ⟨b14,5,none⟩)) (by kernel_rfl) cMm hI (by simp only[zc (show (7:Nat)≠8 by decide),zc (show (9:Nat)≠8 by decide)]) ?_
  clear y
  simp only[za,fLa,fLb,sTa,sTb]
  go_wp2
  exact cY
 ·intro l g w hi hI y
  have hL:=hI.loc
  try dsimp only at hL
  have d8:=hI.vals (8,323,.pointer (some ⟨b14,5,none⟩)) cMm (y 8 (by decide))
  try dsimp only at d8
  have d5:=hI.vals (5,321,.bool true) cMm (y 5 (by decide))
  try dsimp only at d5
  refine JT (i:=9) (L:=(b14,108,[.bool false,.bool true,.int .i64 0,.int .i64 0,bif lst l 7 then .bool false else .bool false,.bool true,.slice none 0 0])::(b13,108,[.bool false,.bool true,.int .i64 0,.int .i64 0,.bool false,.bool false,.slice none 0 0])::(b12,108,[.bool false,.bool true,.int .i64 0,.int .i64 0,.bool false,.bool false,.slice none 0 0])::(be,75,[.int .i64 ((at' : Int)+1),.bool false,.slice (some ⟨bv,0,none⟩) vn vc,.slice fp fn fc])::(b10,54,[.bool false,.slice (some ⟨bv,0,none⟩) vn vc,.slice fp fn fc])::(b9,86,[.int .i64 2,.int .i64 k,.int .i64 ia,.int .i64 ib,.int .i64 0,.int .i64 ig])::(b5,54,[.bool false,.slice xp d.vars.length xc,.slice xfp xfn xfc])::(b3,27,[.int .i64 pv,.int .i64 pf,.slice (some ⟨bc,oc,none⟩) pn pcap])::(bv,108,cs)::(Rf++Rh)) hI (by kernel_rfl) (by simp only[qO hi,zc (show (7:Nat)≠9 by decide),cond_true]) ?_
  clear y
  simp only[za,fLa,fLb,sTa,sTb]
  simp only[d8,d5]
  ((with_reducible refine zd hL ?_);clear hL;intro w1 hL)
  exact⟨rfl,rfl,hL⟩
 intro g w2 l hl hL hX
 simp only[hl 7 (by decide),hl 9 (by decide),cond_true]at hL
 have e0:=hX (0,316,.pointer (some ⟨b9,4,none⟩)) cMm (show (0:Nat)<10 by decide)
 have e1:=hX (1,317,.int .i64 0) cMm (show (1:Nat)<10 by decide)
 have e2:=hX (2,318,.bool false) cMm (show (2:Nat)<10 by decide)
 have e3:=hX (3,319,.pointer (some ⟨b9,4,none⟩)) cMm (show (3:Nat)<10 by decide)
 have e4:=hX (4,320,.int .i64 0) cMm (show (4:Nat)<10 by decide)
 have e5:=hX (5,321,.bool true) cMm (show (5:Nat)<10 by decide)
 have e6:=hX (6,322,.pointer (some ⟨b14,4,none⟩)) cMm (show (6:Nat)<10 by decide)
 have e8:=hX (8,323,.pointer (some ⟨b14,5,none⟩)) cMm (show (8:Nat)<10 by decide)
 try dsimp only at e0 e1 e2 e3 e4 e5 e6 e8
 clear hX hl
 simp only[za,fLa,fLb,sTa,sTb]
 simp only[e0,e1,e2,e3,e4,e5,e6,e8]
 clear e0 e1 e2 e3 e4 e5 e6 e8
 go_upto_region 84 with(fail)
 replace hL:=hL.pure (S:=fun w=>zX w gx d.vars→qq w ⟨false,zC,false,true,zn⟩ ⟨false,zC,false,true,[]⟩) (fun w _=>⟨rfl,zp.nil w⟩)
 go_wp2_with (first|(go_at_call 83;refine(HE.out _).mono ?_;rintro e w1 ⟨rfl,hb⟩;replace hL:=hL.grow hb;clear hb;dsimp only)|(refine qa (b:=bv) (off:=k*7) (vs:=Gu.cells ⟨false,zC,false,true,zn⟩) (cs':=zk cs (k*7) (Gu.cells ⟨false,zC,false,true,zn⟩)) hL rfl rfl cIn rfl zZ.sz rfl (HPV.out ⟨false,zC,false,true,zn⟩) rfl ?_;clear hL;intro w' hL)|(with_reducible refine lld hL ?_))
 refine rt3 ?_
 obtain⟨hput,hO⟩:=HO.out
 refine⟨⟨some ⟨be,0,none⟩,1,1⟩,rfl,?_⟩
 exact((hL.both (U:=fun w=>zX w gx d.vars→zS (gv.set k ⟨false,zC,false,true,zn⟩) gf (d.setVar k ⟨false,zC,false,true,[]⟩).vars (d.setVar k ⟨false,zC,false,true,[]⟩).fields w) (fun w h1 h2 hc=>⟨h2.1.set HK.out (h1 hc),h2.2⟩)).drop (.cons _ (.cons _ (.cons _ (.cons_cons _ (.cons _ (.cons _ (.cons _ (.cons _ (List.Sublist.refl _))))))))) (fun _ h=>h)).edge1 (K:=[]) (r:=⟨false,⟨some ⟨bv,0,none⟩,vn,vc⟩,⟨fp,fn,fc⟩⟩) (Rv:=[(bv,108,zk cs (k*7) (Gu.cells ⟨false,zC,false,true,zn⟩))]) ⟨hput ⟨false,zC,false,true,zn⟩,hO.heads,hO.rows⟩ HN0.out.symm (by show (d.vars.set k _).length+_≤_;rw[List.length_set];exact HPM.out)
theorem zfq (p:Pg) (is:Nat→Ins) (i:Ins) (x:Pv) (d:Pd) (gx:List Gu) (at' : Nat) (w:World) (hp:zl p is=0) (hc:qc w p is) (hx:zN w x d) (hgx:J6 w x d gx) (ok:jh p is d) (hat:at' < p.n) (hi:is at'=i) (hk:i.kind=2) (hnn:i.n=1):jj p at' x d gx (zU i at' d) w:=by
 have hs:=(zx hp).1
 have hk6:=hs.n1
 have hone:=(zx hp).2 at' hat
 rw[hi]at hone
 have hr:=qN hone
 have hf:=jL hone
 have hd:=qw.of ok hp
 have hfew:=yE.of hd.r hs
 have HCP:=Lib.hid (fun w' (hb:Below w.heap.size w w')=>qR x d w' (hx.grow hb) hfew)
 have hpm:d.vars.length+d.fields.length≤9223372036854775807:=(qS.of ok hp hx).m
 have HPM:=Lib.hid hpm
 obtain⟨bc,oc,hpc,hcr⟩:=hc
 have hpc2:=hpc (by omega)
 have hI1:=zg.agg (P:=Tryz.prog) jE (hcr at' hat).1 (fun j v hj=>(hcr at' hat).2 j v hj) rfl
 rw[hi]at hI1
 have HI:=Lib.hid (show zg Tryz.prog 86 w bc (oc+at' * 6) (Ins.v i) from hI1)
 have hxe:=hx.e
 have hdn:=ok.none
 rw[hdn]at hxe
 have hvn:=hx.vars.n
 have hvm:=hx.vars.m
 rw[show zU i at' d=⟨jV d at' i.to.toNat (jb i),false,false⟩ by unfold zU;rw[if_pos (by omega)]]
 have HN0:=Lib.hid hdn
 obtain⟨hit,hkl⟩:=idx (hr.to (by rw[hk];decide)) hd.r.vars
 have HK:=Lib.hid hkl
 clear hx hgx hp hr hf hd hs hone hfew hpc hcr hI1 hi hdn hpm ok
 clear hkl
 unfold jj
 generalize i.to.toNat=k at *
 obtain⟨ik,ito,ia,ib,inn,ig⟩:=i
 obtain⟨xn,⟨xp,xvn,xc⟩,⟨xfp,xfn,xfc⟩⟩:=x
 obtain⟨pv,pf,pc,pn,pcap⟩:=p
 dsimp only at hit hnn
 subst hit hnn
 dsimp only at hk hpc2 hk6 hat hxe hvn hvm
 subst hk hpc2 hxe hvn
 have hna:nA 2=false:=by decide
 have hnb:nB 2=false:=by decide
 have hL:=Loc.start w
 go_enter Tryz.func40,Tryz.ntmps40
 go_step
 go_step
 go_step
 ((with_reducible refine lbx hL ?_);clear hL;intro b3 w1 hL)
 ((with_reducible refine lbx hL ?_);clear hL;intro b5 w1 hL)
 go_upto_region 4 with(first|(with_reducible refine ldB HI.out hL ?_)|((with_reducible refine lal hL ?_);clear hL;intro b9 w1 hL)|(with_reducible first|refine lld hL ?_|(refine zd hL ?_;clear hL;intro w1 hL)))
 go_upto_region 5 with(first|(go_at_call 20;refine(HCP.out _ hL.below).mono ?_;rintro q w3 ⟨⟨rn,⟨vp,vn,vc⟩,⟨fp,fn,fc⟩⟩,rfl,gv,gf,rs,Rv,Rh,Rf,hrn,hO,hl3⟩;replace hL:=hL.gave hl3;simp only[List.cons_append,List.nil_append]at hL;clear hl3;dsimp only)|((with_reducible refine lal hL ?_);clear hL;intro b10 w1 hL)|(with_reducible first|refine lld hL ?_|(refine zd hL ?_;clear hL;intro w1 hL)))
 have hrn2:rn=false:=by rw[show rn=d.none from hrn];exact HN0.out
 subst hrn2
 clear hrn
 have hgd:=(hL.get (S:=zS gv gf d.vars d.fields) List.mem_cons_self).1
 have hnv:=hO.vars.flatlen jl (by decide)
 have hgl:=hgd.len
 (try dsimp only at hnv)
 obtain⟨bv,cs,hpv,rfl,htk,hlen⟩:=hO.vars.block (show 0<vn by have:=HK.out;omega)
 have hput:=fun g=>hO.vars.put jl zT (k:=k) (show k<vn by have:=HK.out;omega) g
 have hle:=hO.vars.fits
 (try dsimp only at hpv hput hle hlen)
 subst hpv
 have hkn:k<vn:=by have:=HK.out;omega
 have HPV:=Lib.hid (fun g:Gu=>show k*7+g.cells.length≤cs.length by show k*7+7≤_;rw[hlen];omega)
 have HO:=Lib.hid (And.intro hput hO)
 clear hgd hnv hgl htk hput hle hlen hO
 simp only[List.cons_append,List.nil_append]at hL
 go_upto_region 6 with(first|((with_reducible refine lbs hL ?_);clear hL;intro be w1 hL)|(with_reducible refine lld hL ?_))
 go_upto_region 7 with(first|(go_at_call 78;refine(zt _).mono ?_;rintro e w1 ⟨rfl,hb⟩;replace hL:=hL.grow hb;clear hb;dsimp only)|((with_reducible refine lal hL ?_);clear hL;first|(have hq12:b12=b12:=rfl;clear hq12;intro b13 w1 hL)|intro b12 w1 hL)|(with_reducible refine zd hL ?_;clear hL;intro w1 hL))
 go_upto_region 13 with(first|(go_at_call 74;refine(qe _ _).mono ?_;rintro e w1 ⟨rfl,hb⟩;replace hL:=hL.grow hb;clear hb;dsimp only)|(go_at_call 75;refine(qg _ _).mono ?_;rintro e w1 ⟨rfl,hb⟩;replace hL:=hL.grow hb;clear hb;dsimp only)|(go_at_call 78;refine(zt _).mono ?_;rintro e w1 ⟨rfl,hb⟩;replace hL:=hL.grow hb;clear hb;dsimp only)|((with_reducible refine lal hL ?_);clear hL;intro b14 w1 hL)|(with_reducible first|refine lld hL ?_|(refine zd hL ?_;clear hL;intro w1 hL)))
 have HE:=Lib.hid (fun w'=>zW ⟨false,zC,true,false,zn⟩ w')
 go_upto_region 81 with(first|(with_reducible refine lld hL ?_))
 have h0:=hL.conv (L':=(fun l=>(b14,108,[.bool false,.bool true,.int .i64 0,.int .i64 0,bif lst l 7 then .bool true else .bool false,bif lst l 9 then .bool false else .bool false,.slice none 0 0])::(b13,108,[.bool false,.bool true,.int .i64 0,.int .i64 0,.bool false,.bool false,.slice none 0 0])::(b12,108,[.bool false,.bool true,.int .i64 0,.int .i64 0,.bool false,.bool false,.slice none 0 0])::(be,75,[.int .i64 ((at' : Int)+1),.bool false,.slice (some ⟨bv,0,none⟩) vn vc,.slice fp fn fc])::(b10,54,[.bool false,.slice (some ⟨bv,0,none⟩) vn vc,.slice fp fn fc])::(b9,86,[.int .i64 2,.int .i64 k,.int .i64 ia,.int .i64 ib,.int .i64 1,.int .i64 ig])::(b5,54,[.bool false,.slice xp d.vars.length xc,.slice xfp xfn xfc])::(b3,27,[.int .i64 pv,.int .i64 pf,.slice (some ⟨bc,oc,none⟩) pn pcap])::(bv,108,cs)::(Rf++Rh)) (Array.replicate 10 false)) (by simp only[Zy,cond_false])
 refine Jy (w0:=_) [316,317,318,319,320,321,322,323] [(0,316,.pointer (some ⟨b9,4,none⟩)),(1,317,.int .i64 1),(2,318,.bool true),(3,319,.pointer (some ⟨b9,4,none⟩)),(4,320,.int .i64 1),(5,321,.bool false),(6,322,.pointer (some ⟨b14,4,none⟩)),(8,323,.pointer (some ⟨b14,5,none⟩))] (fun l=>(b14,108,[.bool false,.bool true,.int .i64 0,.int .i64 0,bif lst l 7 then .bool true else .bool false,bif lst l 9 then .bool false else .bool false,.slice none 0 0])::(b13,108,[.bool false,.bool true,.int .i64 0,.int .i64 0,.bool false,.bool false,.slice none 0 0])::(b12,108,[.bool false,.bool true,.int .i64 0,.int .i64 0,.bool false,.bool false,.slice none 0 0])::(be,75,[.int .i64 ((at' : Int)+1),.bool false,.slice (some ⟨bv,0,none⟩) vn vc,.slice fp fn fc])::(b10,54,[.bool false,.slice (some ⟨bv,0,none⟩) vn vc,.slice fp fn fc])::(b9,86,[.int .i64 2,.int .i64 k,.int .i64 ia,.int .i64 ib,.int .i64 1,.int .i64 ig])::(b5,54,[.bool false,.slice xp d.vars.length xc,.slice xfp xfn xfc])::(b3,27,[.int .i64 pv,.int .i64 pf,.slice (some ⟨bc,oc,none⟩) pn pcap])::(bv,108,cs)::(Rf++Rh)) (by kernel_rfl) (by kernel_rfl) h0 ⟨?_,?_,?_,?_,?_,?_,?_,?_,?_,?_,trivial⟩ ?_
 all_goals clear hL h0
 ·intro l g w hi hI y
  have hL:=hI.loc
  try dsimp only at hL
  refine zP (d:=316) (x:=.pointer (some ⟨b9,4,none⟩)) (by kernel_rfl) cMm hI (by simp only[zc (show (7:Nat)≠0 by decide),zc (show (9:Nat)≠0 by decide)]) ?_
  clear y
  simp only[za,fLa,fLb,sTa,sTb]
  go_wp2
  exact cY
 ·intro l g w hi hI y
  have hL:=hI.loc
  try dsimp only at hL
  have d0:=hI.vals (0,316,.pointer (some ⟨b9,4,none⟩)) cMm (y 0 (by decide))
  try dsimp only at d0
  refine zP (d:=317) (x:=.int .i64 1) (by kernel_rfl) cMm hI (by simp only[zc (show (7:Nat)≠1 by decide),zc (show (9:Nat)≠1 by decide)]) ?_
  clear y
  simp only[za,fLa,fLb,sTa,sTb]
  simp only[d0]
  go_wp2_with (first|(with_reducible refine lld hL ?_)|(with_reducible refine ldD hL ?_))
  exact cY
 ·intro l g w hi hI y
  have hL:=hI.loc
  try dsimp only at hL
  have d1:=hI.vals (1,317,.int .i64 1) cMm (y 1 (by decide))
  try dsimp only at d1
  refine zP (d:=318) (x:=.bool true) (by kernel_rfl) cMm hI (by simp only[zc (show (7:Nat)≠2 by decide),zc (show (9:Nat)≠2 by decide)]) ?_
  clear y
  simp only[za,fLa,fLb,sTa,sTb]
  simp only[d1]
  go_wp2
  exact cY
 ·intro l g w hi hI y
  have hL:=hI.loc
  try dsimp only at hL
  refine zP (d:=319) (x:=.pointer (some ⟨b9,4,none⟩)) (by kernel_rfl) cMm hI (by simp only[zc (show (7:Nat)≠3 by decide),zc (show (9:Nat)≠3 by decide)]) ?_
  clear y
  simp only[za,fLa,fLb,sTa,sTb]
  go_wp2
  exact cY
 ·intro l g w hi hI y
  have hL:=hI.loc
  try dsimp only at hL
  have d3:=hI.vals (3,319,.pointer (some ⟨b9,4,none⟩)) cMm (y 3 (by decide))
  try dsimp only at d3
  refine zP (d:=320) (x:=.int .i64 1) (by kernel_rfl) cMm hI (by simp only[zc (show (7:Nat)≠4 by decide),zc (show (9:Nat)≠4 by decide)]) ?_
  clear y
  simp only[za,fLa,fLb,sTa,sTb]
  simp only[d3]
  go_wp2_with (first|(with_reducible refine lld hL ?_)|(with_reducible refine ldD hL ?_))
  exact cY
 ·intro l g w hi hI y
  have hL:=hI.loc
  try dsimp only at hL
  have d4:=hI.vals (4,320,.int .i64 1) cMm (y 4 (by decide))
  try dsimp only at d4
  refine zP (d:=321) (x:=.bool false) (by kernel_rfl) cMm hI (by simp only[zc (show (7:Nat)≠5 by decide),zc (show (9:Nat)≠5 by decide)]) ?_
  clear y
  simp only[za,fLa,fLb,sTa,sTb]
  simp only[d4]
  go_wp2
  exact cY
 ·intro l g w hi hI y
  have hL:=hI.loc
  try dsimp only at hL
  refine zP (d:=322) (x:=.pointer (some ⟨b14,4,none⟩)) (by kernel_rfl) cMm hI (by simp only[zc (show (7:Nat)≠6 by decide),zc (show (9:Nat)≠6 by decide)]) ?_
  clear y
  simp only[za,fLa,fLb,sTa,sTb]
  go_wp2
  exact cY
 ·intro l g w hi hI y
  have hL:=hI.loc
  try dsimp only at hL
  have d6:=hI.vals (6,322,.pointer (some ⟨b14,4,none⟩)) cMm (y 6 (by decide))
  try dsimp only at d6
  have d2:=hI.vals (2,318,.bool true) cMm (y 2 (by decide))
  try dsimp only at d2
  refine JT (i:=7) (L:=(b14,108,[.bool false,.bool true,.int .i64 0,.int .i64 0,.bool true,bif lst l 9 then .bool false else .bool false,.slice none 0 0])::(b13,108,[.bool false,.bool true,.int .i64 0,.int .i64 0,.bool false,.bool false,.slice none 0 0])::(b12,108,[.bool false,.bool true,.int .i64 0,.int .i64 0,.bool false,.bool false,.slice none 0 0])::(be,75,[.int .i64 ((at' : Int)+1),.bool false,.slice (some ⟨bv,0,none⟩) vn vc,.slice fp fn fc])::(b10,54,[.bool false,.slice (some ⟨bv,0,none⟩) vn vc,.slice fp fn fc])::(b9,86,[.int .i64 2,.int .i64 k,.int .i64 ia,.int .i64 ib,.int .i64 1,.int .i64 ig])::(b5,54,[.bool false,.slice xp d.vars.length xc,.slice xfp xfn xfc])::(b3,27,[.int .i64 pv,.int .i64 pf,.slice (some ⟨bc,oc,none⟩) pn pcap])::(bv,108,cs)::(Rf++Rh)) hI (by kernel_rfl) (by simp only[qO hi,zc (show (9:Nat)≠7 by decide),cond_true]) ?_
  clear y
  simp only[za,fLa,fLb,sTa,sTb]
  simp only[d6,d2]
  ((with_reducible refine zd hL ?_);clear hL;intro w1 hL)
  exact⟨rfl,rfl,hL⟩
 ·intro l g w hi hI y
  have hL:=hI.loc
  try dsimp only at hL
  refine zP (d:=323) (x:=.pointer (some ⟨b14,5,none⟩)) (by kernel_rfl) cMm hI (by simp only[zc (show (7:Nat)≠8 by decide),zc (show (9:Nat)≠8 by decide)]) ?_
  clear y
  simp only[za,fLa,fLb,sTa,sTb]
  go_wp2
  exact cY
 ·intro l g w hi hI y
  have hL:=hI.loc
  try dsimp only at hL
  have d8:=hI.vals (8,323,.pointer (some ⟨b14,5,none⟩)) cMm (y 8 (by decide))
  try dsimp only at d8
  have d5:=hI.vals (5,321,.bool false) cMm (y 5 (by decide))
  try dsimp only at d5
  refine JT (i:=9) (L:=(b14,108,[.bool false,.bool true,.int .i64 0,.int .i64 0,bif lst l 7 then .bool true else .bool false,.bool false,.slice none 0 0])::(b13,108,[.bool false,.bool true,.int .i64 0,.int .i64 0,.bool false,.bool false,.slice none 0 0])::(b12,108,[.bool false,.bool true,.int .i64 0,.int .i64 0,.bool false,.bool false,.slice none 0 0])::(be,75,[.int .i64 ((at' : Int)+1),.bool false,.slice (some ⟨bv,0,none⟩) vn vc,.slice fp fn fc])::(b10,54,[.bool false,.slice (some ⟨bv,0,none⟩) vn vc,.slice fp fn fc])::(b9,86,[.int .i64 2,.int .i64 k,.int .i64 ia,.int .i64 ib,.int .i64 1,.int .i64 ig])::(b5,54,[.bool false,.slice xp d.vars.length xc,.slice xfp xfn xfc])::(b3,27,[.int .i64 pv,.int .i64 pf,.slice (some ⟨bc,oc,none⟩) pn pcap])::(bv,108,cs)::(Rf++Rh)) hI (by kernel_rfl) (by simp only[qO hi,zc (show (7:Nat)≠9 by decide),cond_true]) ?_
  clear y
  simp only[za,fLa,fLb,sTa,sTb]
  simp only[d8,d5]
  ((with_reducible refine zd hL ?_);clear hL;intro w1 hL)
  exact⟨rfl,rfl,hL⟩
 intro g w2 l hl hL hX
 simp only[hl 7 (by decide),hl 9 (by decide),cond_true]at hL
 have e0:=hX (0,316,.pointer (some ⟨b9,4,none⟩)) cMm (show (0:Nat)<10 by decide)
 have e1:=hX (1,317,.int .i64 1) cMm (show (1:Nat)<10 by decide)
 have e2:=hX (2,318,.bool true) cMm (show (2:Nat)<10 by decide)
 have e3:=hX (3,319,.pointer (some ⟨b9,4,none⟩)) cMm (show (3:Nat)<10 by decide)
 have e4:=hX (4,320,.int .i64 1) cMm (show (4:Nat)<10 by decide)
 have e5:=hX (5,321,.bool false) cMm (show (5:Nat)<10 by decide)
 have e6:=hX (6,322,.pointer (some ⟨b14,4,none⟩)) cMm (show (6:Nat)<10 by decide)
 have e8:=hX (8,323,.pointer (some ⟨b14,5,none⟩)) cMm (show (8:Nat)<10 by decide)
 try dsimp only at e0 e1 e2 e3 e4 e5 e6 e8
 clear hX hl
 simp only[za,fLa,fLb,sTa,sTb]
 simp only[e0,e1,e2,e3,e4,e5,e6,e8]
 clear e0 e1 e2 e3 e4 e5 e6 e8
 go_upto_region 84 with(fail)
 replace hL:=hL.pure (S:=fun w=>zX w gx d.vars→qq w ⟨false,zC,true,false,zn⟩ ⟨false,zC,true,false,[]⟩) (fun w _=>⟨rfl,zp.nil w⟩)
 go_wp2_with (first|(go_at_call 83;refine(HE.out _).mono ?_;rintro e w1 ⟨rfl,hb⟩;replace hL:=hL.grow hb;clear hb;dsimp only)|(refine qa (b:=bv) (off:=k*7) (vs:=Gu.cells ⟨false,zC,true,false,zn⟩) (cs':=zk cs (k*7) (Gu.cells ⟨false,zC,true,false,zn⟩)) hL rfl rfl cIn rfl zZ.sz rfl (HPV.out ⟨false,zC,true,false,zn⟩) rfl ?_;clear hL;intro w' hL)|(with_reducible refine lld hL ?_))
 refine rt3 ?_
 obtain⟨hput,hO⟩:=HO.out
 refine⟨⟨some ⟨be,0,none⟩,1,1⟩,rfl,?_⟩
 exact((hL.both (U:=fun w=>zX w gx d.vars→zS (gv.set k ⟨false,zC,true,false,zn⟩) gf (d.setVar k ⟨false,zC,true,false,[]⟩).vars (d.setVar k ⟨false,zC,true,false,[]⟩).fields w) (fun w h1 h2 hc=>⟨h2.1.set HK.out (h1 hc),h2.2⟩)).drop (.cons _ (.cons _ (.cons _ (.cons_cons _ (.cons _ (.cons _ (.cons _ (.cons _ (List.Sublist.refl _))))))))) (fun _ h=>h)).edge1 (K:=[]) (r:=⟨false,⟨some ⟨bv,0,none⟩,vn,vc⟩,⟨fp,fn,fc⟩⟩) (Rv:=[(bv,108,zk cs (k*7) (Gu.cells ⟨false,zC,true,false,zn⟩))]) ⟨hput ⟨false,zC,true,false,zn⟩,hO.heads,hO.rows⟩ HN0.out.symm (by show (d.vars.set k _).length+_≤_;rw[List.length_set];exact HPM.out)
theorem Loc.factHead {w0 w:World}{b:Nat}{T:TypeId}{cs:List Value}{L:List zj}{D:List zw}{S:zw}(h:Loc w0 w ((b,T,cs)::L) D) (hS:∀ w' : World,w'.heap[b]? = some (.cells cs.toArray T (0,0))→S w'):Loc w0 w L (S::D):=
 (h.perm (L':=L++[(b,T,cs)]) List.perm_append_comm).fact (fun w' hr=>hS w' (hr _ (List.mem_singleton.2 rfl)))
theorem Loc.also {w0 w:World}{L:List zj}{D:List zw}{S U:zw}(h:Loc w0 w L D) (hm:S∈D) (hu:∀ w,S w→U w):Loc w0 w L (U::D):=
 (h.drop (List.Sublist.refl _) (D':=S::D) (fun V hV=>by
  rcases List.mem_cons.1 hV with rfl|hV
  ·exact hm
  ·exact hV)).turn hu
theorem zed {w:World}{b:Nat}{n:Int}(h:w.heap[b]? = some (.cells [Value.int .i64 n].toArray 3 (0,0))):zp w ⟨some ⟨b,0,none⟩,1,1⟩ [n]:=
 zM.ints (B:=0) (l:=[n]) (zM.full rfl (by decide)) ⟨by simp,fun e he=>by rw[List.mem_singleton.1 he];exact⟨Nat.zero_le _,h⟩⟩
theorem Xv (H:zj) (R Ra Rb:List zj):((Ra++(R++Rb))++[H]).Perm (H::(R++(Ra++Rb))):=by
 refine List.perm_append_comm.trans ?_
 show (H::(Ra++(R++Rb))).Perm _
 exact(List.perm_append_comm_assoc _ _ _).cons _
theorem zgb (p:Pg) (is:Nat→Ins) (i:Ins) (x:Pv) (d:Pd) (gx:List Gu) (at' : Nat) (w:World) (hp:zl p is=0) (hc:qc w p is) (hx:zN w x d) (hgx:J6 w x d gx) (ok:jh p is d) (hat:at' < p.n) (hi:is at'=i) (hk:i.kind=11):jj p at' x d gx (zU i at' d) w:=by
 have hs:=(zx hp).1
 have hk6:=hs.n1
 have hone:=(zx hp).2 at' hat
 rw[hi]at hone
 have hr:=qN hone
 have hf:=jL hone
 have hd:=qw.of ok hp
 have hfew:=yE.of hd.r hs
 have HCP:=Lib.hid (fun w' (hb:Below w.heap.size w w')=>qR x d w' (hx.grow hb) hfew)
 have hpm:d.vars.length+d.fields.length≤9223372036854775807:=(qS.of ok hp hx).m
 have HPM:=Lib.hid hpm
 obtain⟨bc,oc,hpc,hcr⟩:=hc
 have hpc2:=hpc (by omega)
 have hI1:=zg.agg (P:=Tryz.prog) jE (hcr at' hat).1 (fun j v hj=>(hcr at' hat).2 j v hj) rfl
 rw[hi]at hI1
 have HI:=Lib.hid (show zg Tryz.prog 86 w bc (oc+at' * 6) (Ins.v i) from hI1)
 have hxe:=hx.e
 have hdn:=ok.none
 rw[hdn]at hxe
 have hvn:=hx.vars.n
 have hvm:=hx.vars.m
 rw[show zU i at' d=⟨[((at' : Int)+1,KT d at' i.to.toNat)],false,false⟩ by unfold zU;rw[if_neg (by omega),if_pos hk]]
 have HN0:=Lib.hid hdn
 obtain⟨hit,hkl⟩:=idx (hr.to (by rw[hk];decide)) hd.r.vars
 have HK:=Lib.hid hkl
 have hfl:at' < d.fields.length:=by rw[ok.fields];exact hat
 have hrw:((d.row at').length:Int)=p.fields:=hd.r.rows at' hfl
 have hr1000:(d.row at').length≤1000:=hfew.rows at' hfl
 have HFL:=Lib.hid hfl
 have HN1:=Lib.hid (fun j (hj:j<(d.row at').length)=>And.intro (Uh (d.row at') hj) (Xo (d.row at') hj))
 have HND:=Lib.hid (show KT d at' i.to.toNat=⟨d.none,d.vars.set i.to.toNat (Yy at'),d.fields.set at' (jr (d.row at') (d.row at').length)⟩ by rw[U7];rfl)
 have HNL:=Lib.hid (fun j (hj:j≤(d.row at').length)=>U8 (d.row at') hj)
 have HND0:=Lib.hid (show jr (d.row at') 0=d.fields.getD at' [] by simp[jr,Pd.row])
 clear hx hgx hp hr hf hd hs hone hfew hpc hcr hI1 hi hdn hpm ok
 clear hkl hfl
 generalize d.row at'=dr at *
 unfold jj
 generalize i.to.toNat=k at *
 obtain⟨ik,ito,ia,ib,inn,ig⟩:=i
 obtain⟨xn,⟨xp,xvn,xc⟩,⟨xfp,xfn,xfc⟩⟩:=x
 obtain⟨pv,pf,pc,pn,pcap⟩:=p
 dsimp only at hit hrw
 subst hit hrw
 dsimp only at hk hpc2 hk6 hat hxe hvn hvm
 subst hk hpc2 hxe hvn
 have hna:nA 11=false:=by decide
 have hnb:nB 11=false:=by decide
 have hL:=Loc.start w
 go_enter Tryz.func40,Tryz.ntmps40
 go_step
 go_step
 go_step
 ((with_reducible refine lbx hL ?_);clear hL;intro b3 w1 hL)
 ((with_reducible refine lbx hL ?_);clear hL;intro b5 w1 hL)
 go_upto_region 4 with(first|(with_reducible refine ldB HI.out hL ?_)|((with_reducible refine lal hL ?_);clear hL;intro b9 w1 hL)|(with_reducible first|refine lld hL ?_|(refine zd hL ?_;clear hL;intro w1 hL)))
 go_upto_region 5 with(first|(go_at_call 20;refine(HCP.out _ hL.below).mono ?_;rintro q w3 ⟨⟨rn,⟨vp,vn,vc⟩,⟨fp,fn,fc⟩⟩,rfl,gv,gf,rs,Rv,Rh,Rf,hrn,hO,hl3⟩;replace hL:=hL.gave hl3;simp only[List.cons_append,List.nil_append]at hL;clear hl3;dsimp only)|((with_reducible refine lal hL ?_);clear hL;intro b10 w1 hL)|(with_reducible first|refine lld hL ?_|(refine zd hL ?_;clear hL;intro w1 hL)))
 have hrn2:rn=false:=by rw[show rn=d.none from hrn];exact HN0.out
 subst hrn2
 clear hrn
 have hgd:=(hL.get (S:=zS gv gf d.vars d.fields) List.mem_cons_self).1
 have hgd2:=(hL.get (S:=zS gv gf d.vars d.fields) List.mem_cons_self).2
 have hrsl:rs.length=d.fields.length:=by rw[hO.rows.len,hgd2.len]
 have hfn:fn=rs.length:=hO.heads.flatlen (f:=Sl.row) (es:=1) (fun _=>rfl) (by decide)
 obtain⟨bh,ch,hph,rfl,-,-⟩:=hO.heads.block (show 0<fn by have:=HFL.out;omega)
 obtain⟨Ra,R,Rb,rfl,hRow,hrep⟩:=hO.rows.get at' (by have:=HFL.out;omega)
 have hrl:(rs.getD at' zn).n=dr.length:=by
  have h1:=(hRow.flatlen jl (by decide)).trans (hgd2.at' at' HFL.out).len
  rw[← HND0.out]at h1
  exact h1.trans (HNL.out 0 (Nat.zero_le _))
 have HREP:=Lib.hid hrep
 have HROW:=Lib.hid hRow
 have HCH:=Lib.hid (show ze Tryz.prog 51 ch at' (rs.getD at' zn).v from ze.cell yA (hO.heads.at1 (k:=at') (show at' < fn by have:=HFL.out;omega)))
 have hmax:=hRow.max
 have hfm:fn≤maxLen:=hO.heads.max
 clear hrep hRow hgd2
 generalize rs.getD at' zn=row at HROW HREP HCH hrl hmax
 obtain⟨rwp,rwn,rwc⟩:=row
 (try dsimp only at hph)
 dsimp only at hrl hmax
 dsimp only[Sl.v]at HCH
 subst hph hrl
 have hfl:at' < fn:=by have:=HFL.out;omega
 clear hrsl hfn
 have hnv:=hO.vars.flatlen jl (by decide)
 have hgl:=hgd.len
 (try dsimp only at hnv)
 obtain⟨bv,cs,hpv,rfl,htk,hlen⟩:=hO.vars.block (show 0<vn by have:=HK.out;omega)
 have hput:=fun g=>hO.vars.put jl zT (k:=k) (show k<vn by have:=HK.out;omega) g
 have hle:=hO.vars.fits
 (try dsimp only at hpv hput hle hlen)
 subst hpv
 have hkn:k<vn:=by have:=HK.out;omega
 have HPV:=Lib.hid (fun g:Gu=>show k*7+g.cells.length≤cs.length by show k*7+7≤_;rw[hlen];omega)
 have HO:=Lib.hid (And.intro hput hO)
 clear hgd hnv hgl htk hput hle hlen hO
 simp only[List.cons_append,List.nil_append]at hL
 go_upto_region 6 with(first|((with_reducible refine lbs hL ?_);clear hL;intro be w1 hL)|(with_reducible refine lld hL ?_))
 go_upto_region 7 with(first|(go_at_call 78;refine(zt _).mono ?_;rintro e w1 ⟨rfl,hb⟩;replace hL:=hL.grow hb;clear hb;dsimp only)|((with_reducible refine lal hL ?_);clear hL;first|(have hq12:b12=b12:=rfl;clear hq12;intro b13 w1 hL)|intro b12 w1 hL)|(with_reducible refine zd hL ?_;clear hL;intro w1 hL))
 go_upto_region 13 with(first|(go_at_call 74;refine(qe _ _).mono ?_;rintro e w1 ⟨rfl,hb⟩;replace hL:=hL.grow hb;clear hb;dsimp only)|(go_at_call 75;refine(qg _ _).mono ?_;rintro e w1 ⟨rfl,hb⟩;replace hL:=hL.grow hb;clear hb;dsimp only)|(go_at_call 78;refine(zt _).mono ?_;rintro e w1 ⟨rfl,hb⟩;replace hL:=hL.grow hb;clear hb;dsimp only)|((with_reducible refine lal hL ?_);clear hL;intro b14 w1 hL)|(with_reducible first|refine lld hL ?_|(refine zd hL ?_;clear hL;intro w1 hL)))
 have HE:=Lib.hid (fun b w'=>zW ⟨false,zC,false,false,⟨some ⟨b,0,none⟩,1,1⟩⟩ w')
 go_upto_region 72 with(first|((with_reducible refine lbs hL ?_);clear hL;intro bs w1 hL)|(with_reducible first|refine lld hL ?_|(refine zd hL ?_;clear hL;intro w1 hL)))
 replace hL:=((hL.factHead (S:=fun w=>qq w ⟨false,zC,false,false,⟨some ⟨bs,0,none⟩,1,1⟩⟩ (Yy at')) (fun w' hw=>⟨rfl,zed hw⟩)).perm (((((((((((Xv (bh,51,ch) R Ra Rb).symm).cons _).cons _).cons _).cons _).cons _).cons _).cons _).cons _).cons _)).also (S:=zS gv gf d.vars d.fields) (List.mem_cons_of_mem _ List.mem_cons_self) (U:=fun w=>zX w (gf.getD at' []) (jr dr 0)) (fun w h=>by rw[HND0.out];exact h.2.at' at' HFL.out)
 generalize gf.getD at' []=gl0 at hL HROW
 go_wp2
 go_loopw [27] (fun c wz=>∃ (j:Nat) (gl:List Gu) (R' : List zj),j≤dr.length∧c=.int .i64 j∧zM 108 7 rwp dr.length rwc (gl.flatMap Gu.cells) R'∧Loc w wz ((b14,108,[.bool false,.bool true,.int .i64 0,.int .i64 0,.bool false,.bool false,.slice (some ⟨bs,0,none⟩) 1 1])::(b13,108,[.bool false,.bool true,.int .i64 0,.int .i64 0,.bool false,.bool false,.slice none 0 0])::(b12,108,[.bool false,.bool true,.int .i64 0,.int .i64 0,.bool false,.bool false,.slice none 0 0])::(be,75,[.int .i64 ((at' : Int)+1),.bool false,.slice (some ⟨bv,0,none⟩) vn vc,.slice (some ⟨bh,0,none⟩) fn fc])::(b10,54,[.bool false,.slice (some ⟨bv,0,none⟩) vn vc,.slice (some ⟨bh,0,none⟩) fn fc])::(b9,86,[.int .i64 11,.int .i64 k,.int .i64 ia,.int .i64 ib,.int .i64 inn,.int .i64 ig])::(b5,54,[.bool false,.slice xp d.vars.length xc,.slice xfp xfn xfc])::(b3,27,[.int .i64 pv,.int .i64 (dr.length:Int),.slice (some ⟨bc,oc,none⟩) pn pcap])::(bv,108,cs)::(bh,51,ch)::(R'++(Ra++Rb))) [fun w=>zX w gl (jr dr j),fun w=>qq w ⟨false,zC,false,false,⟨some ⟨bs,0,none⟩,1,1⟩⟩ (Yy at'),zS gv gf d.vars d.fields]) (fun c _=>dr.length - (intOf c).toNat)
 case atStart=>exact⟨0,gl0,R,Nat.zero_le _,rfl,HROW.out,hL⟩
 case round=>
  obtain⟨j,gl,R',hj,rfl,hS,hL⟩:=hrel
  by_cases hlt:j<dr.length
  ·obtain⟨br,cr,hpr,rfl,htk,hlen⟩:=hS.block (by omega)
   have hel:=hS.elem jl zT (k:=j) hlt
   have hput:=hS.put jl zT (k:=j) hlt { gl.getD j zT with null:=true }
   have hsp:zk cr (j*7) [.bool true]=zk cr (j*7) (Gu.cells { gl.getD j zT with null:=true }):=YF hel
   rw[← hsp]at hput
   have hfit:=hS.fits
   have HSZ:=Lib.hid (show j*7+1≤cr.length by omega)
   have HPJ:=Lib.hid hput
   have HDN:=Lib.hid (fun w (h:zX w gl (jr dr j))=>show zX w (gl.set j { gl.getD j zT with null:=true }) (jr dr (j+1)) by
    rw[← (HN1.out j hlt).1]
    have h3:=h.at' j (by rw[HNL.out j hj];exact hlt)
    rw[(HN1.out j hlt).2]at h3
    exact h.set (by rw[HNL.out j hj];exact hlt) ⟨congrArg (fun g:Gu=>{ g with null:=true }) h3.e,h3.l⟩)
   clear hel hput hsp htk hlen hfit hS
   generalize gl.set j { gl.getD j zT with null:=true }=gl2 at HPJ HDN
   subst hpr
   simp only[List.cons_append,List.nil_append]at hL
   go_wp2_with (first|(with_reducible refine ldO HCH.out hL ?_)|(refine qa (b:=br) (off:=j*7) (vs:=[.bool true]) (cs':=zk cr (j*7) [.bool true]) hL rfl rfl cIn rfl Zh.sz rfl HSZ.out rfl ?_;clear hL;intro w' hL)|(with_reducible refine lld hL ?_))
   go_roundw
   case rel=>exact⟨j+1,gl2,[(br,108,zk cr (j*7) [.bool true])],by omega,by go_num,HPJ.out,hL.facts1' HDN.out⟩
   case measure=>simp[intOf];omega
  ·obtain rfl:j=dr.length:=by omega
   clear hlt
   go_wp2_with (first|(go_at_call 83;refine(HE.out bs _).mono ?_;rintro e w1 ⟨rfl,hb⟩;replace hL:=hL.grow hb;clear hb;dsimp only)|(refine qa (b:=bv) (off:=k*7) (vs:=Gu.cells ⟨false,zC,false,false,⟨some ⟨bs,0,none⟩,1,1⟩⟩) (cs':=zk cs (k*7) (Gu.cells ⟨false,zC,false,false,⟨some ⟨bs,0,none⟩,1,1⟩⟩)) hL rfl rfl cIn rfl zZ.sz rfl (HPV.out ⟨false,zC,false,false,⟨some ⟨bs,0,none⟩,1,1⟩⟩) rfl ?_;clear hL;intro w' hL)|(with_reducible refine lld hL ?_))
   refine rt3 ?_
   obtain⟨hput,hO⟩:=HO.out
   refine⟨⟨some ⟨be,0,none⟩,1,1⟩,rfl,?_⟩
   have hL2:=hL.perm ((((((((((Xv (bh,51,ch) R' Ra Rb).cons _).cons _).cons _).cons _).cons _).cons _).cons _).cons _).cons _)
   have hL3:=((hL2.both (U:=fun w=>zX w gl (jr dr dr.length)∧qq w ⟨false,zC,false,false,⟨some ⟨bs,0,none⟩,1,1⟩⟩ (Yy at')) (fun w h1 h2=>⟨h1,h2⟩)).both (U:=fun w=>zX w gx d.vars→zS (gv.set k ⟨false,zC,false,false,⟨some ⟨bs,0,none⟩,1,1⟩⟩) (gf.set at' gl) (KT d at' k).vars (KT d at' k).fields w) (fun w h1 h2 _=>by
    rw[HND.out]
    exact⟨h2.1.set HK.out h1.2,h2.2.set HFL.out h1.1⟩)).drop (.cons _ (.cons _ (.cons _ (.cons_cons _ (.cons _ (.cons _ (.cons _ (.cons _ (List.Sublist.refl _))))))))) (fun _ h=>h)
   exact hL3.edge1 (K:=[]) (r:=⟨false,⟨some ⟨bv,0,none⟩,vn,vc⟩,⟨some ⟨bh,0,none⟩,fn,fc⟩⟩) (Rv:=[(bv,108,zk cs (k*7) (Gu.cells ⟨false,zC,false,false,⟨some ⟨bs,0,none⟩,1,1⟩⟩))]) ⟨hput ⟨false,zC,false,false,⟨some ⟨bs,0,none⟩,1,1⟩⟩,hO.heads,HREP.out gl R' hS⟩ HN0.out.symm (by rw[HND.out];show (d.vars.set k _).length+(d.fields.set at' _).length≤_;rw[List.length_set,List.length_set];exact HPM.out)
theorem zgc (p:Pg) (is:Nat→Ins) (i:Ins) (x:Pv) (d:Pd) (gx:List Gu) (at' : Nat) (w:World) (hp:zl p is=0) (hc:qc w p is) (hx:zN w x d) (hgx:J6 w x d gx) (ok:jh p is d) (hat:at' < p.n) (hi:is at'=i) (hk:i.kind=12):jj p at' x d gx (zU i at' d) w:=by
 have hs:=(zx hp).1
 have hk6:=hs.n1
 have hone:=(zx hp).2 at' hat
 rw[hi]at hone
 have hr:=qN hone
 have hf:=jL hone
 have hd:=qw.of ok hp
 have hfew:=yE.of hd.r hs
 have HCP:=Lib.hid (fun w' (hb:Below w.heap.size w w')=>qR x d w' (hx.grow hb) hfew)
 have hpm:d.vars.length+d.fields.length≤9223372036854775807:=(qS.of ok hp hx).m
 have HPM:=Lib.hid hpm
 obtain⟨bc,oc,hpc,hcr⟩:=hc
 have hpc2:=hpc (by omega)
 have hI1:=zg.agg (P:=Tryz.prog) jE (hcr at' hat).1 (fun j v hj=>(hcr at' hat).2 j v hj) rfl
 rw[hi]at hI1
 have HI:=Lib.hid (show zg Tryz.prog 86 w bc (oc+at' * 6) (Ins.v i) from hI1)
 have hxe:=hx.e
 have hdn:=ok.none
 rw[hdn]at hxe
 have hvn:=hx.vars.n
 have hvm:=hx.vars.m
 rw[show zU i at' d=⟨jV d at' i.to.toNat (qM d i.n.toNat (d.var i.a.toNat).l),jU (d.var i.a.toNat),false⟩ by unfold zU;rw[if_neg (by omega),if_neg (by omega),if_pos hk]]
 obtain⟨hia,hal⟩:=idx (hr.a (by rw[hk];decide)) hd.r.vars
 obtain⟨bo,oo,hpo,hco⟩:=hgx.l.ex
 have hpo2:=hpo (by omega)
 have hga:=hgx.d.at' i.a.toNat hal
 have hra:=zg.agg (P:=Tryz.prog) zZ (hco i.a.toNat (by omega)).1 (hco i.a.toNat (by omega)).2 rfl
 obtain⟨sa,hsa⟩:∃ s,gx.getD i.a.toNat zT=(d.var i.a.toNat).gu s:=⟨_,hga.e⟩
 have hla:zp w sa (d.var i.a.toNat).l:=by have:=hga.l;rw[hsa]at this;exact this
 rw[hsa]at hra
 have HA:=Lib.hid (show zg Tryz.prog 108 w bo (oo+i.a.toNat*7) ((d.var i.a.toNat).gu sa).v from hra)
 have hav:i.a.toNat<x.vars.n:=by omega
 have HN0:=Lib.hid hdn
 obtain⟨hit,hkl⟩:=idx (hr.to (by rw[hk];decide)) hd.r.vars
 have HK:=Lib.hid hkl
 have hin:i.n=(i.n.toNat:Int):=by have:=hr.f (.inl hk);omega
 have hsites:=hd.sites (n:=i.n.toNat) (by have:=hr.f (.inl hk);omega) hal
 obtain⟨rx,hlr,hir⟩:=hx.fields.ex
 have hfn:=hx.fields.n
 have hfm:=hx.fields.m
 obtain⟨bt,ot,hpt,hct⟩:=hla.at'.ex
 have htn:=hla.n
 have htm:=hla.m
 have HPT:=Lib.hid hpt
 have HCT:=Lib.hid hct
 have HSO:=Lib.hid hsites.at'
 obtain⟨bf,of,hpf,hcf⟩:=hlr.ex
 have h1:=fun m (hm:m<d.fields.length) (hmn:i.n.toNat<(d.row m).length)=>show ∃ (r:Sl) (bg og:Nat) (t:Sl),r.p=some ⟨bg,og,none⟩∧i.n.toNat<r.n∧r.n≤9223372036854775807∧zg Tryz.prog 51 w bf (of+m) r.v∧zg Tryz.prog 108 w bg (og+i.n.toNat*7) ((d.field m i.n.toNat).gu t).v∧zp w t (d.field m i.n.toNat).l from by
  have h2:=hir m (by omega)
  obtain⟨ss,hl2,hi2⟩:=h2.ex
  obtain⟨bg,og,hp2,hc2⟩:=hl2.ex
  have hn2:(rx m).n=(d.row m).length:=h2.n
  have hm2:=h2.m
  exact⟨rx m,bg,og,ss i.n.toNat,hp2 (by rw[hn2];omega),by rw[hn2];exact hmn,hm2,UI (hcf m (by omega)).1 (hcf m (by omega)).2,zg.agg (P:=Tryz.prog) zZ (hc2 i.n.toNat (by rw[hn2];exact hmn)).1 (hc2 i.n.toNat (by rw[hn2];exact hmn)).2 rfl,hi2 i.n.toNat (by rw[hn2];exact hmn)⟩
 have hpf2:0<d.fields.length→x.fields.p=some ⟨bf,of,none⟩:=fun h=>hpf (by omega)
 have H1:=Lib.hid h1
 have HPF:=Lib.hid hpf2
 have HFG:=Lib.hid (fun j=>(jR.get hd.fews i.n.toNat ((d.var i.a.toNat).l.take j) Ko jR.noth).ins)
 have HFM:=Lib.hid (fun m=>(hd.fews m i.n.toNat).ins)
 have HGN:=Lib.hid (fun k hk=>U6 d i.n.toNat (d.var i.a.toNat).l k hk)
 have HG0:=Lib.hid (show qM d i.n.toNat ((d.var i.a.toNat).l.take 0)=Ko from rfl)
 have HGE:=Lib.hid (show qM d i.n.toNat ((d.var i.a.toNat).l.take (d.var i.a.toNat).l.length)=qM d i.n.toNat (d.var i.a.toNat).l by rw[List.take_length])
 have HS:=Lib.hid (show jV d at' i.to.toNat (qM d i.n.toNat (d.var i.a.toNat).l)=if qP (qM d i.n.toNat (d.var i.a.toNat).l)=true then [] else [((at' : Int)+1,d.setVar i.to.toNat (qM d i.n.toNat (d.var i.a.toNat).l))] from rfl)
 clear hx hgx hp hr hf hd hs hone hfew hpc hcr hI1 hi hdn hpm ok hpo hco hga hra hsa hla hal
 clear hkl hsites hlr hir hpt hct hpf hcf h1 hpf2
 generalize i.n.toNat=n at *
 unfold jj
 generalize i.to.toNat=k at *
 generalize i.a.toNat=a at *
 generalize d.var a=g at *
 obtain⟨ik,ito,ia,ib,inn,ig⟩:=i
 obtain⟨xn,⟨xp,xvn,xc⟩,⟨xfp,xfn,xfc⟩⟩:=x
 obtain⟨pv,pf,pc,pn,pcap⟩:=p
 dsimp only at hit hin hfn hfm HPF htn htm
 subst hit hin hfn
 dsimp only at hk hpc2 hk6 hat hxe hvn hvm hia hpo2 hav
 subst hk hpc2 hxe hvn hia hpo2
 obtain⟨gn,⟨gsn,glo,ghi⟩,gt,gff,gl⟩:=g
 obtain⟨s1,s2,s3⟩:=sa
 dsimp only[Res.gu]at HA htn htm HPT HCT HSO HFG HGN HG0 HGE HS
 subst htn
 have hna:nA 12=true:=by decide
 have hnb:nB 12=false:=by decide
 have hL:=Loc.start w
 go_enter Tryz.func40,Tryz.ntmps40
 go_step
 go_step
 go_step
 ((with_reducible refine lbx hL ?_);clear hL;intro b3 w1 hL)
 ((with_reducible refine lbx hL ?_);clear hL;intro b5 w1 hL)
 go_upto_region 4 with(first|(with_reducible refine ldB HI.out hL ?_)|((with_reducible refine lal hL ?_);clear hL;intro b9 w1 hL)|(with_reducible first|refine lld hL ?_|(refine zd hL ?_;clear hL;intro w1 hL)))
 go_upto_region 5 with(first|(go_at_call 20;refine(HCP.out _ hL.below).mono ?_;rintro q w3 ⟨⟨rn,⟨vp,vn,vc⟩,⟨fp,fn,fc⟩⟩,rfl,gv,gf,rs,Rv,Rh,Rf,hrn,hO,hl3⟩;replace hL:=hL.gave hl3;simp only[List.cons_append,List.nil_append]at hL;clear hl3;dsimp only)|((with_reducible refine lal hL ?_);clear hL;intro b10 w1 hL)|(with_reducible first|refine lld hL ?_|(refine zd hL ?_;clear hL;intro w1 hL)))
 have hrn2:rn=false:=by rw[show rn=d.none from hrn];exact HN0.out
 subst hrn2
 clear hrn
 have hgd:=(hL.get (S:=zS gv gf d.vars d.fields) List.mem_cons_self).1
 have hnv:=hO.vars.flatlen jl (by decide)
 have hgl:=hgd.len
 (try dsimp only at hnv)
 obtain⟨bv,cs,hpv,rfl,htk,hlen⟩:=hO.vars.block (show 0<vn by have:=HK.out;omega)
 have hput:=fun g=>hO.vars.put jl zT (k:=k) (show k<vn by have:=HK.out;omega) g
 have hle:=hO.vars.fits
 (try dsimp only at hpv hput hle hlen)
 subst hpv
 have hkn:k<vn:=by have:=HK.out;omega
 have HPV:=Lib.hid (fun g:Gu=>show k*7+g.cells.length≤cs.length by show k*7+7≤_;rw[hlen];omega)
 have HO:=Lib.hid (And.intro hput hO)
 clear hgd hnv hgl htk hput hle hlen hO
 simp only[List.cons_append,List.nil_append]at hL
 go_upto_region 6 with(first|((with_reducible refine lbs hL ?_);clear hL;intro be w1 hL)|(with_reducible refine lld hL ?_))
 go_upto_region 7 with(first|(go_at_call 78;refine(zt _).mono ?_;rintro e w1 ⟨rfl,hb⟩;replace hL:=hL.grow hb;clear hb;dsimp only)|((with_reducible refine lal hL ?_);clear hL;first|(have hq12:b12=b12:=rfl;clear hq12;intro b13 w1 hL)|intro b12 w1 hL)|(with_reducible refine zd hL ?_;clear hL;intro w1 hL))
 go_upto_region 13 with(first|(with_reducible refine ldB HA.out hL ?_)|(go_at_call 74;refine(qe _ _).mono ?_;rintro e w1 ⟨rfl,hb⟩;replace hL:=hL.grow hb;clear hb;dsimp only)|(go_at_call 75;refine(qg _ _).mono ?_;rintro e w1 ⟨rfl,hb⟩;replace hL:=hL.grow hb;clear hb;dsimp only)|(go_at_call 78;refine(zt _).mono ?_;rintro e w1 ⟨rfl,hb⟩;replace hL:=hL.grow hb;clear hb;dsimp only)|((with_reducible refine lal hL ?_);clear hL;intro b14 w1 hL)|(with_reducible first|refine lld hL ?_|(refine zd hL ?_;clear hL;intro w1 hL)))
 go_upto_region 65 with(first|(with_reducible refine lld hL ?_))
 go_cut [15] from 338 (fun c wc=>c=.bool (gn || gt || gff || !gsn)∧Loc w wc ((b14,108,[.bool false,.bool true,.int .i64 0,.int .i64 0,.bool false,.bool false,.slice none 0 0])::(b13,108,[.bool false,.bool true,.int .i64 0,.int .i64 0,.bool false,.bool false,.slice none 0 0])::(b12,108,[.bool gn,.bool gsn,.int .i64 glo,.int .i64 ghi,.bool gt,.bool gff,.slice s1 gl.length s3])::(be,75,[.int .i64 ((at' : Int)+1),.bool false,.slice (some ⟨bv,0,none⟩) vn vc,.slice fp fn fc])::(b10,54,[.bool false,.slice (some ⟨bv,0,none⟩) vn vc,.slice fp fn fc])::(b9,86,[.int .i64 12,.int .i64 k,.int .i64 a,.int .i64 ib,.int .i64 n,.int .i64 ig])::(b5,54,[.bool false,.slice (some ⟨bo,oo,none⟩) d.vars.length xc,.slice xfp d.fields.length xfc])::(b3,27,[.int .i64 pv,.int .i64 pf,.slice (some ⟨bc,oc,none⟩) pn pcap])::(bv,108,cs)::(Rf++Rh)) [zS gv gf d.vars d.fields])
 case first=>
  obtain⟨wq,hwq⟩:∃ x,x=w1:=⟨_,rfl⟩
  subst hwq
  refine zJ [240,241,242,243,244,245,246,247,248,249,250,251,252,253,254,255,15] ?_
  refine dv0 ?_
  refine dv1 0 ?_
  refine dv1 1 ?_
  refine dg0 2 ?_
  refine dg1 2 3 ?_
  refine dpo 2 4 ?_
  refine dv1 5 ?_
  refine dg0 6 ?_
  refine dg1 6 7 ?_
  refine dpo 6 8 ?_
  refine dv1 9 ?_
  refine dg0 10 ?_
  refine dg1 10 11 ?_
  refine dg1 10 12 ?_
  refine dg1 10 13 ?_
  refine dpo 10 14 ?_
  refine dv1 15 ?_
  refine dns hL ?_
  clear hL;intro w2 hL;simp only[zV,sTa,sTb]
  go_wp2
  go_meet
  case rel=>exact⟨rfl,hL⟩
 clear hL
 obtain⟨rfl,hL⟩:=hcut
 go_wp2
 go_loopw [26] (fun c wz=>∃ (j:Nat) (g:Gu),j≤gl.length∧c=.int .i64 j∧Loc w wz ((b14,108,g.cells)::(b13,108,[.bool false,.bool true,.int .i64 0,.int .i64 0,.bool false,.bool false,.slice none 0 0])::(b12,108,[.bool gn,.bool gsn,.int .i64 glo,.int .i64 ghi,.bool gt,.bool gff,.slice s1 gl.length s3])::(be,75,[.int .i64 ((at' : Int)+1),.bool false,.slice (some ⟨bv,0,none⟩) vn vc,.slice fp fn fc])::(b10,54,[.bool false,.slice (some ⟨bv,0,none⟩) vn vc,.slice fp fn fc])::(b9,86,[.int .i64 12,.int .i64 k,.int .i64 a,.int .i64 ib,.int .i64 n,.int .i64 ig])::(b5,54,[.bool false,.slice (some ⟨bo,oo,none⟩) d.vars.length xc,.slice xfp d.fields.length xfc])::(b3,27,[.int .i64 pv,.int .i64 pf,.slice (some ⟨bc,oc,none⟩) pn pcap])::(bv,108,cs)::(Rf++Rh)) [fun w=>qq w g (qM d n (gl.take j)),zS gv gf d.vars d.fields]) (fun c _=>gl.length - (intOf c).toNat)
 case atStart=>exact⟨0,qu,Nat.zero_le _,rfl,hL.pure (fun w=>by rw[HG0.out];exact⟨rfl,zp.nil w⟩)⟩
 case round=>
  obtain⟨j,g,hj,rfl,hL⟩:=hrel
  by_cases hlt:j<gl.length
  ·obtain⟨m,hm1,hm2,hm3⟩:=HSO.out j hlt
   obtain⟨r,bg,og,t,hr1,hr2,hr3,hr4,hr5,hr6⟩:=H1.out m hm2 hm3
   have hrt:=zg.cell (P:=Tryz.prog) QQ (HCT.out j hlt).1 ((HCT.out j hlt).2 0 _ rfl)
   simp only[Nat.mul_one,Nat.add_zero]at hrt
   rw[hm1]at hrt
   have hpp:=HPT.out (by show 0<gl.length;omega)
   have hpp2:=HPF.out (by omega)
   (try dsimp only at hpp)
   subst hpp hpp2
   clear HPT HPF
   have hgd:=hL.get (S:=fun w=>qq w g (qM d n (gl.take j))) List.mem_cons_self
   have hnx:=HGN.out j hlt
   rw[hm1]at hnx
   have hmm:((m:Int)).toNat=m:=rfl
   rw[hmm]at hnx
   have hbo:=fun w' (hb:Below wr.heap.size wr w')=>Ga false both KY g ((d.field m n).gu t) (qM d n (gl.take j)) (d.field m n) w' (hgd.grow hb) (qq.mk' (hr6.grow (hL.below.trans (hb.mono hL.below.size)))) (HFG.out j) (HFM.out m)
   have hq2:y7 (qM d n (gl.take j)).l (d.field m n).l=(qB both (qM d n (gl.take j)) (d.field m n)).l:=rfl
   rw[hq2]at hbo
   clear hq2 hgd hr6 hmm
   generalize hB:qB both (qM d n (gl.take j)) (d.field m n)=B at hbo hnx
   clear hB
   dsimp only[Pd.field,Pd.row]at hr5 hbo
   generalize (d.fields.getD m []).getD n zy=fd at hr5 hbo
   obtain⟨rp,rn,rc⟩:=r
   obtain⟨t1,t2,t3⟩:=t
   obtain⟨fn1,⟨fs,flo,fhi⟩,ft,ff,fl'⟩:=fd
   obtain⟨Bn,⟨Bs,Blo,Bhi⟩,Bt,Bf,Bl⟩:=B
   dsimp only[Res.gu,Sl.v]at hr1 hr2 hr3 hr4 hr5 hbo
   subst hr1
   obtain⟨un,⟨usn,ulo,uhi⟩,ut,uf,⟨up,uk,uc⟩⟩:=g
   have HRT:=Lib.hid hrt
   have HR4:=Lib.hid hr4
   have HR5:=Lib.hid hr5
   have HBO:=Lib.hid hbo
   have HNX:=Lib.hid hnx
   clear hrt hr4 hr5 hbo hnx hm1 hm3
   obtain⟨wq,hwq⟩:∃ x,x=wr:=⟨_,rfl⟩
   subst hwq
   go_upto_region 69 with(first|(with_reducible refine lld hL ?_))
   refine zf [263,264,265,266,267,268,269,270,271,272,273,274,275,276,277] ?_
   refine dv0 ?_
   refine dv0 ?_
   refine dv1 1 ?_
   refine dv0 ?_
   refine dv1 3 ?_
   refine dv0 ?_
   refine dv2 4 5 ?_
   apply zb
   ·intro g w hb y;replace hL:=hL.grow hb;have d6:=yv y 6;clear y;simp only[za,fLa,fLb,sTa,sTb];simp only[d6]
    refine ldB HRT.out hL ?_
    exact cY
   simp only[apN,apC]
   refine dv2 2 7 ?_
   apply zb
   ·intro g w hb y;replace hL:=hL.grow hb;have d8:=yv y 8;clear y;simp only[za,fLa,fLb,sTa,sTb];simp only[d8]
    refine zo HR4.out hL rfl rfl ?_
    exact cY
   simp only[apN,apC]
   refine dv0 ?_
   refine dv1 10 ?_
   refine dv2 9 11 ?_
   apply zb
   ·intro g w hb y;replace hL:=hL.grow hb;have d12:=yv y 12;clear y;simp only[za,fLa,fLb,sTa,sTb];simp only[d12]
    refine zo HR5.out hL rfl rfl ?_
    exact cY
   simp only[apN,apC]
   refine zh (GuR wq.heap.size Bn ⟨Bs,Blo,Bhi⟩ Bt Bf Bl) GuR.stable ?_ ?_
   ·intro g w hb y;replace hL:=hL.grow hb;have d0:=yv y 0;have d13:=yv y 13;clear y;simp only[za,fLa,fLb,sTa,sTb];simp only[d0,d13]
    go_wp2_with (go_at_call 81;refine(HBO.out _ hb).mono ?_;rintro e w3 ⟨r,rfl,⟨R,hr,ho⟩,hb3⟩;dsimp only)
    exact⟨rfl,_,rfl,hb3,r,R,rfl,hr,ho.mono hb.size⟩
   simp only[apN,apC]
   refine zO hL (by kernel_rfl) (by kernel_rfl) ?_
   intro g w2 hb hR;simp only[List.length_cons,List.length_nil,Nat.reduceAdd]at hR
   have e0:=yv hR 0
   have e1:=yv hR 1
   have e2:=yv hR 2
   have e3:=yv hR 3
   have e4:=yv hR 4
   have e5:=yv hR 5
   have e6:=yv hR 6
   have e7:=yv hR 7
   have e8:=yv hR 8
   have e9:=yv hR 9
   have e10:=yv hR 10
   have e11:=yv hR 11
   have e12:=yv hR 12
   have e13:=yv hR 13
   have e14:(GuR wq.heap.size Bn ⟨Bs,Blo,Bhi⟩ Bt Bf Bl) (g 277) w2:=yr hR 14
   obtain⟨⟨qf1,qf2,qf3⟩,Qf,e14,hSf,hOf⟩:=e14
   clear hR;simp only[za,fLa,fLb,sTa,sTb]
   simp only[e0,e1,e2,e3,e4,e5,e6,e7,e8,e9,e10,e11,e12,e13,e14]
   clear e0 e1 e2 e3 e4 e5 e6 e7 e8 e9 e10 e11 e12 e13 e14
   replace hL:=hL.more hb (Q4 hSf hOf);clear hSf hOf
   clear hb
   go_wp2_with (first|(with_reducible refine zd hL ?_;clear hL;intro w1 hL))
   go_roundw
   case rel=>
    refine⟨j+1,⟨Bn,⟨Bs,Blo,Bhi⟩,Bt,Bf,⟨qf1,qf2,qf3⟩⟩,by omega,by go_num,hL.both fun w h1 _=>?_⟩
    rw[HNX.out]
    exact qq.mk' (d:=⟨Bn,⟨Bs,Blo,Bhi⟩,Bt,Bf,Bl⟩) h1
   case measure=>simp[intOf];omega
  ·obtain rfl:j=gl.length:=by omega
   clear hlt
   rw[HGE.out]at hL
   have hgd:=hL.get (S:=fun w=>qq w g (qM d n gl)) List.mem_cons_self
   have hee:qj g=qP (qM d n gl):=by
    have h1:=hgd.e
    rw[h1];exact Za hgd.l.n
   have hem:=fun w'=>zW g w'
   rw[hee]at hem
   clear hgd hee HGE HGN HFG HG0
   generalize hgq:qM d n gl=gd at hL HS hem
   have HGQ:=Lib.hid hgq
   clear hgq
   generalize qP gd=em at hem HS
   have HE:=Lib.hid hem
   clear hem
   obtain⟨un,⟨usn,ulo,uhi⟩,ut,uf,⟨up,uk,uc⟩⟩:=g
   cases em with
   | true=>
    go_wp2_with (first|(go_at_call 83;refine(HE.out _).mono ?_;rintro e w1 ⟨rfl,hb⟩;replace hL:=hL.grow hb;clear hb;dsimp only)|(with_reducible refine lld hL ?_))
    refine rt3 ?_
    refine⟨zn,rfl,?_⟩
    show Q2 _ _ _ _ (jV d at' k (qM d n gl))
    rw[HGQ.out,HS.out]
    exact Q2.nil hL.below
   | false=>
    go_wp2_with (first|(go_at_call 83;refine(HE.out _).mono ?_;rintro e w1 ⟨rfl,hb⟩;replace hL:=hL.grow hb;clear hb;dsimp only)|(refine qa (b:=bv) (off:=k*7) (vs:=Gu.cells ⟨un,⟨usn,ulo,uhi⟩,ut,uf,⟨up,uk,uc⟩⟩) (cs':=zk cs (k*7) (Gu.cells ⟨un,⟨usn,ulo,uhi⟩,ut,uf,⟨up,uk,uc⟩⟩)) hL rfl rfl cIn rfl zZ.sz rfl (HPV.out ⟨un,⟨usn,ulo,uhi⟩,ut,uf,⟨up,uk,uc⟩⟩) rfl ?_;clear hL;intro w' hL)|(with_reducible refine lld hL ?_))
    refine rt3 ?_
    obtain⟨hput,hO⟩:=HO.out
    refine⟨⟨some ⟨be,0,none⟩,1,1⟩,rfl,?_⟩
    show Q2 _ _ _ _ (jV d at' k (qM d n gl))
    rw[HGQ.out,HS.out]
    exact((hL.both (U:=fun w=>zX w gx d.vars→zS (gv.set k ⟨un,⟨usn,ulo,uhi⟩,ut,uf,⟨up,uk,uc⟩⟩) gf (d.setVar k gd).vars (d.setVar k gd).fields w) (fun w h1 h2 hc=>⟨h2.1.set HK.out h1,h2.2⟩)).drop (.cons _ (.cons _ (.cons _ (.cons_cons _ (.cons _ (.cons _ (.cons _ (.cons _ (List.Sublist.refl _))))))))) (fun _ h=>h)).edge1 (K:=[]) (r:=⟨false,⟨some ⟨bv,0,none⟩,vn,vc⟩,⟨fp,fn,fc⟩⟩) (Rv:=[(bv,108,zk cs (k*7) (Gu.cells ⟨un,⟨usn,ulo,uhi⟩,ut,uf,⟨up,uk,uc⟩⟩))]) ⟨hput ⟨un,⟨usn,ulo,uhi⟩,ut,uf,⟨up,uk,uc⟩⟩,hO.heads,hO.rows⟩ HN0.out.symm (by show (d.vars.set k _).length+_≤_;rw[List.length_set];exact HPM.out)
theorem Xw (Z:zj) (Rv Ra Rb:List zj):(Rv++(Ra++([Z]++Rb))).Perm (Z::(Rv++(Ra++Rb))):=by
 have e:Rv++(Ra++([Z]++Rb))=(Rv++Ra)++(Z::Rb):=by simp
 rw[e]
 refine List.perm_middle.trans ?_
 rw[List.append_assoc]
theorem Vh (H:zj) (Rv Rf:List zj):(Rv++(Rf++[H])).Perm (H::(Rv++Rf)):=by
 rw[← List.append_assoc]
 exact List.perm_append_comm
theorem zgd (p:Pg) (is:Nat→Ins) (i:Ins) (x:Pv) (d:Pd) (gx:List Gu) (at' : Nat) (w:World) (hp:zl p is=0) (hc:qc w p is) (hx:zN w x d) (hgx:J6 w x d gx) (ok:jh p is d) (hat:at' < p.n) (hi:is at'=i) (hk:i.kind=13):jj p at' x d gx (zU i at' d) w:=by
 have hs:=(zx hp).1
 have hk6:=hs.n1
 have hone:=(zx hp).2 at' hat
 rw[hi]at hone
 have hr:=qN hone
 have hf:=jL hone
 have hd:=qw.of ok hp
 have hfew:=yE.of hd.r hs
 have HCP:=Lib.hid (fun w' (hb:Below w.heap.size w w')=>qR x d w' (hx.grow hb) hfew)
 have hpm:d.vars.length+d.fields.length≤9223372036854775807:=(qS.of ok hp hx).m
 have HPM:=Lib.hid hpm
 obtain⟨bc,oc,hpc,hcr⟩:=hc
 have hpc2:=hpc (by omega)
 have hI1:=zg.agg (P:=Tryz.prog) jE (hcr at' hat).1 (fun j v hj=>(hcr at' hat).2 j v hj) rfl
 rw[hi]at hI1
 have HI:=Lib.hid (show zg Tryz.prog 86 w bc (oc+at' * 6) (Ins.v i) from hI1)
 have hxe:=hx.e
 have hdn:=ok.none
 rw[hdn]at hxe
 have hvn:=hx.vars.n
 have hvm:=hx.vars.m
 rw[show zU i at' d=⟨if (d.var i.a.toNat).l=[] then [] else [((at' : Int)+1,yZ d i.n.toNat (d.var i.b.toNat) (d.var i.a.toNat).l)],jU (d.var i.a.toNat),false⟩ by unfold zU;rw[if_neg (by omega),if_neg (by omega),if_neg (by omega),if_pos hk]]
 obtain⟨hia,hal⟩:=idx (hr.a (by rw[hk];decide)) hd.r.vars
 obtain⟨bo,oo,hpo,hco⟩:=hgx.l.ex
 have hpo2:=hpo (by omega)
 have hga:=hgx.d.at' i.a.toNat hal
 have hra:=zg.agg (P:=Tryz.prog) zZ (hco i.a.toNat (by omega)).1 (hco i.a.toNat (by omega)).2 rfl
 obtain⟨sa,hsa⟩:∃ s,gx.getD i.a.toNat zT=(d.var i.a.toNat).gu s:=⟨_,hga.e⟩
 have hla:zp w sa (d.var i.a.toNat).l:=by have:=hga.l;rw[hsa]at this;exact this
 rw[hsa]at hra
 have HA:=Lib.hid (show zg Tryz.prog 108 w bo (oo+i.a.toNat*7) ((d.var i.a.toNat).gu sa).v from hra)
 have hav:i.a.toNat<x.vars.n:=by omega
 obtain⟨hib,hbl⟩:=idx (hr.b (by rw[hk];decide)) hd.r.vars
 have hgb:=hgx.d.at' i.b.toNat hbl
 have hrb:=zg.agg (P:=Tryz.prog) zZ (hco i.b.toNat (by omega)).1 (hco i.b.toNat (by omega)).2 rfl
 obtain⟨sb,hsb⟩:∃ s,gx.getD i.b.toNat zT=(d.var i.b.toNat).gu s:=⟨_,hgb.e⟩
 have hlb:zp w sb (d.var i.b.toNat).l:=by have:=hgb.l;rw[hsb]at this;exact this
 rw[hsb]at hrb
 have HB:=Lib.hid (show zg Tryz.prog 108 w bo (oo+i.b.toNat*7) ((d.var i.b.toNat).gu sb).v from hrb)
 have hbv:i.b.toNat<x.vars.n:=by omega
 have HN0:=Lib.hid hdn
 have hin:i.n=(i.n.toNat:Int):=by have:=hr.f (.inr hk);omega
 have hsites:=hd.sites (n:=i.n.toNat) (by have:=hr.f (.inr hk);omega) hal
 obtain⟨rx,hlr,hir⟩:=hx.fields.ex
 have hfn:=hx.fields.n
 have hfm:=hx.fields.m
 obtain⟨bt,ot,hpt,hct⟩:=hla.at'.ex
 have htn:=hla.n
 have htm:=hla.m
 have HPT:=Lib.hid hpt
 have HCT:=Lib.hid hct
 have HSO:=Lib.hid hsites.at'
 have HPN:=Lib.hid (fun j (hj:j<(d.var i.a.toNat).l.length)=>Xp d i.n.toNat (d.var i.b.toNat) (d.var i.a.toNat).l j hj)
 have HKP:=Lib.hid (fun j=>Yn i.n.toNat (d.var i.b.toNat) d ((d.var i.a.toNat).l.take j) d (YG.refl d))
 have HP0:=Lib.hid (show yZ d i.n.toNat (d.var i.b.toNat) ((d.var i.a.toNat).l.take 0)=d from rfl)
 have HPE:=Lib.hid (show yZ d i.n.toNat (d.var i.b.toNat) ((d.var i.a.toNat).l.take (d.var i.a.toNat).l.length)=yZ d i.n.toNat (d.var i.b.toNat) (d.var i.a.toNat).l by rw[List.take_length])
 have HFI:=Lib.hid (fun j m=>(jR.put i.n.toNat (hd.var i.b.toNat) ((d.var i.a.toNat).l.take j) d hd.fews m i.n.toNat).ins)
 have HBS:=Lib.hid (hd.var i.b.toNat).ins
 have HBI:=Lib.hid hlb
 clear hx hgx hp hr hf hd hs hone hfew hpc hcr hI1 hi hdn hpm ok hpo hco hga hra hsa hla hal hgb hrb hsb hlb hbl
 clear hsites hlr hir hpt hct
 unfold jj
 generalize i.n.toNat=n at *
 generalize i.a.toNat=a at *
 generalize d.var a=g at *
 generalize i.b.toNat=b at *
 generalize d.var b=g2 at *
 obtain⟨ik,ito,ia,ib,inn,ig⟩:=i
 obtain⟨xn,⟨xp,xvn,xc⟩,⟨xfp,xfn,xfc⟩⟩:=x
 obtain⟨pv,pf,pc,pn,pcap⟩:=p
 dsimp only at hin hfn hfm htn htm
 subst hin hfn
 dsimp only at hk hpc2 hk6 hat hxe hvn hvm hia hpo2 hav hib hbv
 subst hk hpc2 hxe hvn hia hpo2 hib
 obtain⟨gn,⟨gsn,glo,ghi⟩,gt,gff,gl⟩:=g
 obtain⟨s1,s2,s3⟩:=sa
 dsimp only[Res.gu]at HA htn htm HPT HCT HSO HPN HKP HP0 HPE HFI
 subst htn
 obtain⟨gn2,⟨gsn2,glo2,ghi2⟩,gt2,gff2,gl2⟩:=g2
 obtain⟨t1,t2,t3⟩:=sb
 dsimp only[Res.gu]at HB HBI HBS HPN HKP HP0 HPE HFI
 have hna:nA 13=true:=by decide
 have hnb:nB 13=true:=by decide
 have hL:=Loc.start w
 go_enter Tryz.func40,Tryz.ntmps40
 go_step
 go_step
 go_step
 ((with_reducible refine lbx hL ?_);clear hL;intro b3 w1 hL)
 ((with_reducible refine lbx hL ?_);clear hL;intro b5 w1 hL)
 go_upto_region 4 with(first|(with_reducible refine ldB HI.out hL ?_)|((with_reducible refine lal hL ?_);clear hL;intro b9 w1 hL)|(with_reducible first|refine lld hL ?_|(refine zd hL ?_;clear hL;intro w1 hL)))
 go_upto_region 5 with(first|(go_at_call 20;refine(HCP.out _ hL.below).mono ?_;rintro q w3 ⟨⟨rn,⟨vp,vn,vc⟩,⟨fp,fn,fc⟩⟩,rfl,gv,gf,rs,Rv,Rh,Rf,hrn,hO,hl3⟩;replace hL:=hL.gave hl3;simp only[List.cons_append,List.nil_append]at hL;clear hl3;dsimp only)|((with_reducible refine lal hL ?_);clear hL;intro b10 w1 hL)|(with_reducible first|refine lld hL ?_|(refine zd hL ?_;clear hL;intro w1 hL)))
 have hrn2:rn=false:=by rw[show rn=d.none from hrn];exact HN0.out
 subst hrn2
 clear hrn
 go_upto_region 6 with(first|((with_reducible refine lbs hL ?_);clear hL;intro be w1 hL)|(with_reducible refine lld hL ?_))
 go_upto_region 7 with(first|(go_at_call 78;refine(zt _).mono ?_;rintro e w1 ⟨rfl,hb⟩;replace hL:=hL.grow hb;clear hb;dsimp only)|((with_reducible refine lal hL ?_);clear hL;first|(have hq12:b12=b12:=rfl;clear hq12;intro b13 w1 hL)|intro b12 w1 hL)|(with_reducible refine zd hL ?_;clear hL;intro w1 hL))
 go_upto_region 13 with(first|(with_reducible refine ldB HA.out hL ?_)|(with_reducible refine ldB HB.out hL ?_)|(go_at_call 74;refine(qe _ _).mono ?_;rintro e w1 ⟨rfl,hb⟩;replace hL:=hL.grow hb;clear hb;dsimp only)|(go_at_call 75;refine(qg _ _).mono ?_;rintro e w1 ⟨rfl,hb⟩;replace hL:=hL.grow hb;clear hb;dsimp only)|(go_at_call 78;refine(zt _).mono ?_;rintro e w1 ⟨rfl,hb⟩;replace hL:=hL.grow hb;clear hb;dsimp only)|((with_reducible refine lal hL ?_);clear hL;intro b14 w1 hL)|(with_reducible first|refine lld hL ?_|(refine zd hL ?_;clear hL;intro w1 hL)))
 go_upto_region 56 with(first|(with_reducible refine lld hL ?_))
 go_cut [15] from 338 (fun c wc=>c=.bool (gn || gt || gff || !gsn)∧Loc w wc ((b14,108,[.bool false,.bool true,.int .i64 0,.int .i64 0,.bool false,.bool false,.slice none 0 0])::(b13,108,[.bool gn2,.bool gsn2,.int .i64 glo2,.int .i64 ghi2,.bool gt2,.bool gff2,.slice t1 t2 t3])::(b12,108,[.bool gn,.bool gsn,.int .i64 glo,.int .i64 ghi,.bool gt,.bool gff,.slice s1 gl.length s3])::(be,75,[.int .i64 ((at' : Int)+1),.bool false,.slice vp vn vc,.slice fp fn fc])::(b10,54,[.bool false,.slice vp vn vc,.slice fp fn fc])::(b9,86,[.int .i64 13,.int .i64 ito,.int .i64 a,.int .i64 b,.int .i64 n,.int .i64 ig])::(b5,54,[.bool false,.slice (some ⟨bo,oo,none⟩) d.vars.length xc,.slice xfp d.fields.length xfc])::(b3,27,[.int .i64 pv,.int .i64 pf,.slice (some ⟨bc,oc,none⟩) pn pcap])::(Rv++(Rf++Rh))) [zS gv gf d.vars d.fields])
 case first=>
  obtain⟨wq,hwq⟩:∃ x,x=w1:=⟨_,rfl⟩
  subst hwq
  refine zJ [181,182,183,184,185,186,187,188,189,190,191,192,193,194,195,196,15] ?_
  refine dv0 ?_
  refine dv1 0 ?_
  refine dv1 1 ?_
  refine dg0 2 ?_
  refine dg1 2 3 ?_
  refine dpo 2 4 ?_
  refine dv1 5 ?_
  refine dg0 6 ?_
  refine dg1 6 7 ?_
  refine dpo 6 8 ?_
  refine dv1 9 ?_
  refine dg0 10 ?_
  refine dg1 10 11 ?_
  refine dg1 10 12 ?_
  refine dg1 10 13 ?_
  refine dpo 10 14 ?_
  refine dv1 15 ?_
  refine dns hL ?_
  clear hL;intro w2 hL;simp only[zV,sTa,sTb]
  go_wp2
  go_meet
  case rel=>exact⟨rfl,hL⟩
 clear hL
 obtain⟨rfl,hL⟩:=hcut
 by_cases h0:gl=[]
 ·subst h0
  go_wp2_with (first|(with_reducible refine lld hL ?_))
  refine rt3 ?_
  exact⟨zn,rfl,Q2.nil hL.below⟩
 have hl0:¬ gl.length=0:=by simpa using h0
 have HL0:=Lib.hid h0
 clear h0
 have hgd:=(hL.get (S:=zS gv gf d.vars d.fields) List.mem_cons_self).2
 have hrsl:rs.length=d.fields.length:=by rw[hO.rows.len,hgd.len]
 have hfn:fn=rs.length:=hO.heads.flatlen (f:=Sl.row) (es:=1) (fun _=>rfl) (by decide)
 have hf0:0<d.fields.length:=by
  obtain⟨m,_,h2,_⟩:=HSO.out 0 (by omega)
  omega
 obtain⟨bh,ch,hph,rfl,-,-⟩:=hO.heads.block (show 0<fn by omega)
 have HCH:=Lib.hid (fun m (hm:m<d.fields.length)=>show ze Tryz.prog 51 ch m (rs.getD m zn).v from ze.cell yA (hO.heads.at1 (k:=m) (show m<fn by omega)))
 have hfmx:fn≤maxLen:=hO.heads.max
 have HRS:=Lib.hid (And.intro hO.rows (And.intro hO.vars hO.heads))
 have HRL:=Lib.hid hrsl
 (try dsimp only at hph)
 subst hph
 have hfd:fn=d.fields.length:=hfn.trans hrsl
 subst hfd
 clear hO hgd hrsl hfn
 generalize hpd:(fun j=>yZ d n ⟨gn2,⟨gsn2,glo2,ghi2⟩,gt2,gff2,gl2⟩ (gl.take j))=pd
 have hpd2:∀ j,yZ d n ⟨gn2,⟨gsn2,glo2,ghi2⟩,gt2,gff2,gl2⟩ (gl.take j)=pd j:=fun j=>by rw[← hpd]
 simp only[hpd2]at HPN HKP HP0 HPE HFI
 clear hpd hpd2
 replace hL:=(hL.perm ((((((((((Vh (bh,51,ch) Rv Rf).symm).cons _).cons _).cons _).cons _).cons _).cons _).cons _).cons _)).turn (U:=zS gv gf (pd 0).vars (pd 0).fields) (fun w h=>by rw[HP0.out];exact h)
 go_wp2_with (first|(with_reducible refine lld hL ?_))
 go_loopw [25] (fun c wz=>∃ (j:Nat) (gf' : List (List Gu)) (Rf' : List zj),j≤gl.length∧c=.int .i64 j∧j9 rs gf' Rf'∧Loc w wz ((b14,108,[.bool false,.bool true,.int .i64 0,.int .i64 0,.bool false,.bool false,.slice none 0 0])::(b13,108,[.bool gn2,.bool gsn2,.int .i64 glo2,.int .i64 ghi2,.bool gt2,.bool gff2,.slice t1 t2 t3])::(b12,108,[.bool gn,.bool gsn,.int .i64 glo,.int .i64 ghi,.bool gt,.bool gff,.slice s1 gl.length s3])::(be,75,[.int .i64 ((at' : Int)+1),.bool false,.slice vp vn vc,.slice (some ⟨bh,0,none⟩) d.fields.length fc])::(b10,54,[.bool false,.slice vp vn vc,.slice (some ⟨bh,0,none⟩) d.fields.length fc])::(b9,86,[.int .i64 13,.int .i64 ito,.int .i64 a,.int .i64 b,.int .i64 n,.int .i64 ig])::(b5,54,[.bool false,.slice (some ⟨bo,oo,none⟩) d.vars.length xc,.slice xfp d.fields.length xfc])::(b3,27,[.int .i64 pv,.int .i64 pf,.slice (some ⟨bc,oc,none⟩) pn pcap])::(bh,51,ch)::(Rv++Rf')) [zS gv gf' (pd j).vars (pd j).fields]) (fun c _=>gl.length - (intOf c).toNat)
 case atStart=>exact⟨0,gf,Rf,Nat.zero_le _,rfl,HRS.out.1,hL⟩
 case round=>
  obtain⟨j,gf',Rf',hj,rfl,hG,hL⟩:=hrel
  by_cases hlt:j<gl.length
  ·obtain⟨m,hm1,hm2,hm3⟩:=HSO.out j hlt
   have hgd:=hL.get (S:=zS gv gf' (pd j).vars (pd j).fields) List.mem_cons_self
   have hkp:=HKP.out j
   obtain⟨Ra,R,Rb,rfl,hRow,hrep⟩:=hG.get m (by rw[HRL.out];exact hm2)
   have hg1:=hgd.2.at' m (by rw[hkp.len];exact hm2)
   have hrn2:=hRow.flatlen jl (by decide)
   have hrl:(rs.getD m zn).n=(d.row m).length:=(hrn2.trans hg1.len).trans (hkp.rows m hm2)
   obtain⟨br,cr,hpr,rfl,htk,hlen⟩:=hRow.block (by omega)
   have hel:=hRow.elem jl zT (k:=n) (by omega)
   have hput:=fun g=>hRow.put jl zT (k:=n) (by omega) g
   have hfit:=hRow.fits
   have hmax:=hRow.max
   have hgn:=hg1.at' n (by rw[show ((pd j).fields.getD m []).length=(d.row m).length from hkp.rows m hm2];exact hm3)
   have HSZ:=Lib.hid (fun g:Gu=>show n*7+g.cells.length≤cr.length by show n*7+7≤_;rw[hlen];omega)
   have HPJ:=Lib.hid (fun g=>hrep _ _ (hput g))
   have HG1:=Lib.hid (show ze Tryz.prog 108 cr (n*7) ((gf'.getD m []).getD n zT).v from ze.agg zZ hel rfl)
   have HC1:=Lib.hid (HCH.out m hm2)
   have hpn:=HPN.out j hlt
   rw[hm1]at hpn
   obtain⟨fd,hfd⟩:∃ f,(pd j).field m n=f:=⟨_,rfl⟩
   replace hpn:pd (j+1)=(pd j).setField m n (qB both ((pd j).field m n) ⟨gn2,⟨gsn2,glo2,ghi2⟩,gt2,gff2,gl2⟩):=hpn
   rw[hfd]at hpn
   replace hgn:qq wr ((gf'.getD m []).getD n zT) fd:=by rw[← hfd];exact hgn
   have hfs:inS fd.l:=by rw[← hfd];exact HFI.out j m
   clear hfd
   generalize hgg:(gf'.getD m []).getD n zT=g at HG1 hgn
   clear hgg
   have hbo:=fun w' (hb2:Below wr.heap.size wr w')=>Ga false both KY g (Res.gu ⟨gn2,⟨gsn2,glo2,ghi2⟩,gt2,gff2,gl2⟩ ⟨t1,t2,t3⟩) fd ⟨gn2,⟨gsn2,glo2,ghi2⟩,gt2,gff2,gl2⟩ w' (hgn.grow hb2) (qq.mk' (d:=⟨gn2,⟨gsn2,glo2,ghi2⟩,gt2,gff2,gl2⟩) (HBI.out.grow (hL.below.trans (hb2.mono hL.below.size)))) hfs HBS.out
   have hq2:y7 fd.l (Res.l ⟨gn2,⟨gsn2,glo2,ghi2⟩,gt2,gff2,gl2⟩)=(qB both fd ⟨gn2,⟨gsn2,glo2,ghi2⟩,gt2,gff2,gl2⟩).l:=rfl
   rw[hq2]at hbo
   have HDT:=Lib.hid (fun w' (q:Sl) (h1:zp w' q (qB both fd ⟨gn2,⟨gsn2,glo2,ghi2⟩,gt2,gff2,gl2⟩).l) (h2:zS gv gf' (pd j).vars (pd j).fields w')=>show zS gv (gf'.set m ((gf'.getD m []).set n ((qB both fd ⟨gn2,⟨gsn2,glo2,ghi2⟩,gt2,gff2,gl2⟩).gu q))) (pd (j+1)).vars (pd (j+1)).fields w' by
    rw[hpn]
    exact⟨h2.1,h2.2.set (by rw[hkp.len];exact hm2) ((h2.2.at' m (by rw[hkp.len];exact hm2)).set (by rw[show ((pd j).fields.getD m []).length=(d.row m).length from hkp.rows m hm2];exact hm3) (qq.mk' h1))⟩)
   have hrt:=zg.cell (P:=Tryz.prog) QQ (HCT.out j hlt).1 ((HCT.out j hlt).2 0 _ rfl)
   simp only[Nat.mul_one,Nat.add_zero]at hrt
   rw[hm1]at hrt
   have hpp:=HPT.out (by show 0<gl.length;omega)
   (try dsimp only at hpp)
   subst hpp
   clear HPT hq2 hgd hg1 hgn hrn2 hrep hput hel htk hlen hfit hRow hpn hG hkp hfs
   have hL1:=hL.perm (((((((((((Xw (br,108,cr) Rv Ra Rb).symm).cons _).cons _).cons _).cons _).cons _).cons _).cons _).cons _).cons _)
   clear hL
   have hL:=hL1
   clear hL1
   generalize rs.getD m zn=row at HC1 hrl hpr hmax
   generalize qB both fd ⟨gn2,⟨gsn2,glo2,ghi2⟩,gt2,gff2,gl2⟩=B at hbo HDT
   obtain⟨rwp,rwn,rwc⟩:=row
   obtain⟨Bn,⟨Bs,Blo,Bhi⟩,Bt,Bf,Bl⟩:=B
   obtain⟨un,⟨usn,ulo,uhi⟩,ut,uf,⟨up,uk,uc⟩⟩:=g
   dsimp only[Res.gu,Sl.v]at hbo HC1 hrl hpr hmax HDT
   subst hpr
   have hnr:n<rwn:=by omega
   have HBO:=Lib.hid hbo
   have HRT:=Lib.hid hrt
   clear hbo hrt hm1 hrl hm3
   obtain⟨wq,hwq⟩:∃ x,x=wr:=⟨_,rfl⟩
   subst hwq
   go_upto_region 62 with(first|(with_reducible refine lld hL ?_))
   refine zf [209,210,211,212,213,214,215,216,217,218,219,220,221,222,223,224,225,226,227,228,229,230,231,232,233,234,235] ?_
   refine dv0 ?_
   refine dv1 0 ?_
   refine dv0 ?_
   refine dv1 2 ?_
   refine dv0 ?_
   refine dv2 3 4 ?_
   apply zb
   ·intro g w hb y;replace hL:=hL.grow hb;have d5:=yv y 5;clear y;simp only[za,fLa,fLb,sTa,sTb];simp only[d5]
    refine ldB HRT.out hL ?_
    exact cY
   simp only[apN,apC]
   refine dv2 1 6 ?_
   apply zb
   ·intro g w hb y;replace hL:=hL.grow hb;have d7:=yv y 7;clear y;simp only[za,fLa,fLb,sTa,sTb];simp only[d7]
    refine zR hL rfl rfl cIn HC1.out ?_
    exact cY
   simp only[apN,apC]
   refine dv0 ?_
   refine dv1 9 ?_
   refine dv0 ?_
   refine dv1 11 ?_
   refine dv0 ?_
   refine dv1 13 ?_
   refine dv0 ?_
   refine dv2 14 15 ?_
   apply zb
   ·intro g w hb y;replace hL:=hL.grow hb;have d16:=yv y 16;clear y;simp only[za,fLa,fLb,sTa,sTb];simp only[d16]
    refine ldB HRT.out hL ?_
    exact cY
   simp only[apN,apC]
   refine dv2 12 17 ?_
   apply zb
   ·intro g w hb y;replace hL:=hL.grow hb;have d18:=yv y 18;clear y;simp only[za,fLa,fLb,sTa,sTb];simp only[d18]
    refine zR hL rfl rfl cIn HC1.out ?_
    exact cY
   simp only[apN,apC]
   refine dv0 ?_
   refine dv1 20 ?_
   refine dv2 19 21 ?_
   apply zb
   ·intro g w hb y;replace hL:=hL.grow hb;have d22:=yv y 22;clear y;simp only[za,fLa,fLb,sTa,sTb];simp only[d22]
    refine zR hL rfl rfl cIn HG1.out ?_
    exact cY
   simp only[apN,apC]
   refine dv0 ?_
   refine zh (GuR wq.heap.size Bn ⟨Bs,Blo,Bhi⟩ Bt Bf Bl) GuR.stable ?_ ?_
   ·intro g w hb y;replace hL:=hL.grow hb;have d23:=yv y 23;have d24:=yv y 24;clear y;simp only[za,fLa,fLb,sTa,sTb];simp only[d23,d24]
    go_wp2_with (go_at_call 81;refine(HBO.out _ hb).mono ?_;rintro e w3 ⟨r,rfl,⟨R,hr,ho⟩,hb3⟩;dsimp only)
    exact⟨rfl,_,rfl,hb3,r,R,rfl,hr,ho.mono hb.size⟩
   simp only[apN,apC]
   refine dv2 8 10 ?_
   refine zO hL (by kernel_rfl) (by kernel_rfl) ?_
   intro g w2 hb hR;simp only[List.length_cons,List.length_nil,Nat.reduceAdd]at hR
   have e0:=yv hR 0
   have e1:=yv hR 1
   have e2:=yv hR 2
   have e3:=yv hR 3
   have e4:=yv hR 4
   have e5:=yv hR 5
   have e6:=yv hR 6
   have e7:=yv hR 7
   have e8:=yv hR 8
   have e9:=yv hR 9
   have e10:=yv hR 10
   have e11:=yv hR 11
   have e12:=yv hR 12
   have e13:=yv hR 13
   have e14:=yv hR 14
   have e15:=yv hR 15
   have e16:=yv hR 16
   have e17:=yv hR 17
   have e18:=yv hR 18
   have e19:=yv hR 19
   have e20:=yv hR 20
   have e21:=yv hR 21
   have e22:=yv hR 22
   have e23:=yv hR 23
   have e24:=yv hR 24
   have e25:(GuR wq.heap.size Bn ⟨Bs,Blo,Bhi⟩ Bt Bf Bl) (g 234) w2:=yr hR 25
   obtain⟨⟨qf1,qf2,qf3⟩,Qf,e25,hSf,hOf⟩:=e25
   have e26:=yv hR 26
   clear hR;simp only[za,fLa,fLb,sTa,sTb]
   simp only[e0,e1,e2,e3,e4,e5,e6,e7,e8,e9,e10,e11,e12,e13,e14,e15,e16,e17,e18,e19,e20,e21,e22,e23,e24,e25,e26]
   clear e0 e1 e2 e3 e4 e5 e6 e7 e8 e9 e10 e11 e12 e13 e14 e15 e16 e17 e18 e19 e20 e21 e22 e23 e24 e25 e26
   replace hL:=hL.more hb (Q4 hSf hOf);clear hSf hOf
   clear hb
   go_wp2_with (first|(refine qa (b:=br) (off:=n*7) (vs:=Gu.cells ⟨Bn,⟨Bs,Blo,Bhi⟩,Bt,Bf,⟨qf1,qf2,qf3⟩⟩) (cs':=zk cr (n*7) (Gu.cells ⟨Bn,⟨Bs,Blo,Bhi⟩,Bt,Bf,⟨qf1,qf2,qf3⟩⟩)) hL rfl rfl cIn rfl zZ.sz rfl (HSZ.out ⟨Bn,⟨Bs,Blo,Bhi⟩,Bt,Bf,⟨qf1,qf2,qf3⟩⟩) rfl ?_;clear hL;intro w' hL))
   go_roundw
   case rel=>
    exact⟨j+1,gf'.set m ((gf'.getD m []).set n ⟨Bn,⟨Bs,Blo,Bhi⟩,Bt,Bf,⟨qf1,qf2,qf3⟩⟩),Ra++([(br,108,zk cr (n*7) (Gu.cells ⟨Bn,⟨Bs,Blo,Bhi⟩,Bt,Bf,⟨qf1,qf2,qf3⟩⟩))]++Rb),by omega,by go_num,HPJ.out ⟨Bn,⟨Bs,Blo,Bhi⟩,Bt,Bf,⟨qf1,qf2,qf3⟩⟩,(hL.perm ((((((((((Xw (br,108,zk cr (n*7) (Gu.cells ⟨Bn,⟨Bs,Blo,Bhi⟩,Bt,Bf,⟨qf1,qf2,qf3⟩⟩)) Rv Ra Rb).cons _).cons _).cons _).cons _).cons _).cons _).cons _).cons _).cons _)).both (fun w h1 h2=>HDT.out w ⟨qf1,qf2,qf3⟩ h1 h2)⟩
   case measure=>simp[intOf];omega
  ·obtain rfl:j=gl.length:=by omega
   clear hlt
   go_wp2_with (first|(with_reducible refine lld hL ?_))
   refine rt3 ?_
   refine⟨⟨some ⟨be,0,none⟩,1,1⟩,rfl,?_⟩
   (first|(show Q2 _ _ _ _ [((at' : Int)+1,yZ d n ⟨gn2,⟨gsn2,glo2,ghi2⟩,gt2,gff2,gl2⟩ gl)])|(show Q2 _ _ _ _ (if gl=[] then [] else [((at' : Int)+1,yZ d n ⟨gn2,⟨gsn2,glo2,ghi2⟩,gt2,gff2,gl2⟩ gl)]);rw[if_neg HL0.out]))
   rw[← HPE.out]
   exact(((hL.perm (((((((((Vh (bh,51,ch) Rv Rf').cons _).cons _).cons _).cons _).cons _).cons _).cons _).cons _)).turn (U:=fun w=>zX w gx d.vars→zS gv gf' (pd gl.length).vars (pd gl.length).fields w) (fun w h _=>h)).drop (.cons _ (.cons _ (.cons _ (.cons_cons _ (.cons _ (.cons _ (.cons _ (.cons _ (List.Sublist.refl _))))))))) (fun _ h=>h)).edge1 (K:=[]) (r:=⟨false,⟨vp,vn,vc⟩,⟨some ⟨bh,0,none⟩,d.fields.length,fc⟩⟩) ⟨HRS.out.2.1,HRS.out.2.2,hG⟩ ((HKP.out gl.length).none.trans HN0.out).symm (by rw[(HKP.out gl.length).vars,(HKP.out gl.length).len];exact HPM.out)
theorem Xx {k:Int}(hk:k=4∨k=10) (g h h' : Gu) (l m m' : List Int):qK k g h l m=qK k g h' l m':=by
 rcases hk with rfl|rfl<;>rfl
theorem YM:yV qu []:=⟨rfl,rfl,(fun x hx=>by cases hx),List.Pairwise.nil,Nat.zero_le _⟩
theorem zfr (p:Pg) (is:Nat→Ins) (i:Ins) (x:Pv) (d:Pd) (gx:List Gu) (at' : Nat) (w:World) (hp:zl p is=0) (hc:qc w p is) (hx:zN w x d) (hgx:J6 w x d gx) (ok:jh p is d) (hat:at' < p.n) (hi:is at'=i) (hk:5≤i.kind∧i.kind≤9):jj p at' x d gx (zU i at' d) w:=by
 have hs:=(zx hp).1
 have hk6:=hs.n1
 have hone:=(zx hp).2 at' hat
 rw[hi]at hone
 have hr:=qN hone
 have hf:=jL hone
 have hd:=qw.of ok hp
 have hfew:=yE.of hd.r hs
 have HCP:=Lib.hid (fun w' (hb:Below w.heap.size w w')=>qR x d w' (hx.grow hb) hfew)
 have hpm:d.vars.length+d.fields.length≤9223372036854775807:=(qS.of ok hp hx).m
 have HPM:=Lib.hid hpm
 obtain⟨bc,oc,hpc,hcr⟩:=hc
 have hpc2:=hpc (by omega)
 have hI1:=zg.agg (P:=Tryz.prog) jE (hcr at' hat).1 (fun j v hj=>(hcr at' hat).2 j v hj) rfl
 rw[hi]at hI1
 have HI:=Lib.hid (show zg Tryz.prog 86 w bc (oc+at' * 6) (Ins.v i) from hI1)
 have hxe:=hx.e
 have hdn:=ok.none
 rw[hdn]at hxe
 have hvn:=hx.vars.n
 have hvm:=hx.vars.m
 rw[show zU i at' d=⟨jV d at' i.to.toNat (qK i.kind ((d.var i.a.toNat).gu ⟨none,(d.var i.a.toNat).l.length,0⟩) ((d.var i.b.toNat).gu ⟨none,(d.var i.b.toNat).l.length,0⟩) (d.var i.a.toNat).l (d.var i.b.toNat).l).1,(qK i.kind ((d.var i.a.toNat).gu ⟨none,(d.var i.a.toNat).l.length,0⟩) ((d.var i.b.toNat).gu ⟨none,(d.var i.b.toNat).l.length,0⟩) (d.var i.a.toNat).l (d.var i.b.toNat).l).2,false⟩ by unfold zU;rw[if_neg (by omega),if_neg (by omega),if_neg (by omega),if_neg (by omega),if_neg (by omega),if_neg (by omega),if_neg (by omega),if_neg (by omega),if_neg (by omega)]]
 obtain⟨hia,hal⟩:=idx (hr.a (by simp[nA,z6];omega)) hd.r.vars
 obtain⟨bo,oo,hpo,hco⟩:=hgx.l.ex
 have hpo2:=hpo (by omega)
 have hga:=hgx.d.at' i.a.toNat hal
 have hra:=zg.agg (P:=Tryz.prog) zZ (hco i.a.toNat (by omega)).1 (hco i.a.toNat (by omega)).2 rfl
 obtain⟨sa,hsa⟩:∃ s,gx.getD i.a.toNat zT=(d.var i.a.toNat).gu s:=⟨_,hga.e⟩
 have hla:zp w sa (d.var i.a.toNat).l:=by have:=hga.l;rw[hsa]at this;exact this
 rw[hsa]at hra
 have HA:=Lib.hid (show zg Tryz.prog 108 w bo (oo+i.a.toNat*7) ((d.var i.a.toNat).gu sa).v from hra)
 have hav:i.a.toNat<x.vars.n:=by omega
 obtain⟨hib,hbl⟩:=idx (hr.b (by simp[nB,z6];omega)) hd.r.vars
 have hgb:=hgx.d.at' i.b.toNat hbl
 have hrb:=zg.agg (P:=Tryz.prog) zZ (hco i.b.toNat (by omega)).1 (hco i.b.toNat (by omega)).2 rfl
 obtain⟨sb,hsb⟩:∃ s,gx.getD i.b.toNat zT=(d.var i.b.toNat).gu s:=⟨_,hgb.e⟩
 have hlb:zp w sb (d.var i.b.toNat).l:=by have:=hgb.l;rw[hsb]at this;exact this
 rw[hsb]at hrb
 have HB:=Lib.hid (show zg Tryz.prog 108 w bo (oo+i.b.toNat*7) ((d.var i.b.toNat).gu sb).v from hrb)
 have hbv:i.b.toNat<x.vars.n:=by omega
 have HN0:=Lib.hid hdn
 obtain⟨hit,hkl⟩:=idx (hr.to (by simp[nTo,z6];omega)) hd.r.vars
 have HK:=Lib.hid hkl
 have HCC:=Lib.hid (fun w2 (hc:zX w2 gx d.vars)=>show zp w2 sa (d.var i.a.toNat).l by
  have h1:=(hc.at' i.a.toNat hal).l
  rw[hsa]at h1
  exact h1)
 have hsn:=hla.n
 have hbt:z6 i.kind 4 10=true:=by simp[z6];omega
 have hm:=fun w' (hb:Below w.heap.size w w')=>X6 i.kind ((d.var i.a.toNat).gu sa) ((d.var i.b.toNat).gu sb) (d.var i.a.toNat).l (d.var i.b.toNat).l w' hbt ((hd.r.vg _ hal).gu hla.n) ((hd.r.vg _ hbl).gu hlb.n) (hla.grow hb) (hlb.grow hb)
 simp only[UB i.kind (d.var i.a.toNat) (d.var i.b.toNat) (d.var i.a.toNat).l (d.var i.b.toNat).l hla.n hlb.n]at hm
 have HSN:=Lib.hid hsn
 generalize qK i.kind ((d.var i.a.toNat).gu ⟨none,(d.var i.a.toNat).l.length,0⟩) ((d.var i.b.toNat).gu ⟨none,(d.var i.b.toNat).l.length,0⟩) (d.var i.a.toNat).l (d.var i.b.toNat).l=mg at *
 obtain⟨⟨en,⟨esn,elo,ehi⟩,et,ef,el⟩,wrb⟩:=mg
 dsimp only at hm
 have HM:=Lib.hid hm
 clear hm
 have HS:=Lib.hid (show jV d at' i.to.toNat ⟨en,⟨esn,elo,ehi⟩,et,ef,el⟩=if qP ⟨en,⟨esn,elo,ehi⟩,et,ef,el⟩=true then [] else [((at' : Int)+1,d.setVar i.to.toNat ⟨en,⟨esn,elo,ehi⟩,et,ef,el⟩)] from rfl)
 clear hsn
 clear hbt hx hgx hp hr hf hd hs hone hfew hpc hcr hI1 hi hdn hpm ok hpo hco hga hra hsa hla hal hgb hrb hsb hlb hbl
 clear hkl
 unfold jj
 generalize i.to.toNat=k at *
 generalize i.a.toNat=a at *
 generalize d.var a=g at *
 generalize i.b.toNat=b at *
 generalize d.var b=g2 at *
 obtain⟨ik,ito,ia,ib,inn,ig⟩:=i
 obtain⟨xn,⟨xp,xvn,xc⟩,⟨xfp,xfn,xfc⟩⟩:=x
 obtain⟨pv,pf,pc,pn,pcap⟩:=p
 dsimp only at hit
 subst hit
 dsimp only at hk hpc2 hk6 hat hxe hvn hvm hia hpo2 hav hib hbv
 obtain⟨k1,k2⟩:=hk
 have q19:(ik==19)=false:=by simp;omega
 have q18:(ik==18)=false:=by simp;omega
 have q16:(ik==16)=false:=by simp;omega
 have q15:(ik==15)=false:=by simp;omega
 have q17:(ik==17)=false:=by simp;omega
 have q13:(ik==13)=false:=by simp;omega
 have q12:(ik==12)=false:=by simp;omega
 have q11:(ik==11)=false:=by simp;omega
 have q1:(ik==1)=false:=by simp;omega
 have q14:(ik==14)=false:=by simp;omega
 have q2:(ik==2)=false:=by simp;omega
 have q3:(ik==3)=false:=by simp;omega
 have hna:nA ik=true:=by simp[nA,z6];omega
 have hnb:nB ik=true:=by simp[nB,z6];omega
 clear k1 k2
 have HNA:=Lib.hid (fun w'=>show Calls Tryz.prog 74 #[.int .i64 ik] w' _ by have h:=qe ik w';rw[hna]at h;exact h)
 have HNB:=Lib.hid (fun w'=>show Calls Tryz.prog 75 #[.int .i64 ik] w' _ by have h:=qg ik w';rw[hnb]at h;exact h)
 clear hna hnb
 subst hpc2 hxe hvn hia hpo2 hib
 obtain⟨gn,⟨gsn,glo,ghi⟩,gt,gff,gl⟩:=g
 obtain⟨s1,s2,s3⟩:=sa
 dsimp only[Res.gu]at HA HM HCC HSN
 obtain⟨gn2,⟨gsn2,glo2,ghi2⟩,gt2,gff2,gl2⟩:=g2
 obtain⟨t1,t2,t3⟩:=sb
 dsimp only[Res.gu]at HB HM
 have hL:=Loc.start w
 go_enter Tryz.func40,Tryz.ntmps40
 go_step
 go_step
 go_step
 ((with_reducible refine lbx hL ?_);clear hL;intro b3 w1 hL)
 ((with_reducible refine lbx hL ?_);clear hL;intro b5 w1 hL)
 go_upto_region 4 with(first|(with_reducible refine ldB HI.out hL ?_)|((with_reducible refine lal hL ?_);clear hL;intro b9 w1 hL)|(with_reducible first|refine lld hL ?_|(refine zd hL ?_;clear hL;intro w1 hL)))
 go_upto_region 5 with(first|(go_at_call 20;refine(HCP.out _ hL.below).mono ?_;rintro q w3 ⟨⟨rn,⟨vp,vn,vc⟩,⟨fp,fn,fc⟩⟩,rfl,gv,gf,rs,Rv,Rh,Rf,hrn,hO,hl3⟩;replace hL:=hL.gave hl3;simp only[List.cons_append,List.nil_append]at hL;clear hl3;dsimp only)|((with_reducible refine lal hL ?_);clear hL;intro b10 w1 hL)|(with_reducible first|refine lld hL ?_|(refine zd hL ?_;clear hL;intro w1 hL)))
 have hrn2:rn=false:=by rw[show rn=d.none from hrn];exact HN0.out
 subst hrn2
 clear hrn
 have hgd:=(hL.get (S:=zS gv gf d.vars d.fields) List.mem_cons_self).1
 have hnv:=hO.vars.flatlen jl (by decide)
 have hgl:=hgd.len
 (try dsimp only at hnv)
 obtain⟨bv,cs,hpv,rfl,htk,hlen⟩:=hO.vars.block (show 0<vn by have:=HK.out;omega)
 have hput:=fun g=>hO.vars.put jl zT (k:=k) (show k<vn by have:=HK.out;omega) g
 have hle:=hO.vars.fits
 (try dsimp only at hpv hput hle hlen)
 subst hpv
 have hkn:k<vn:=by have:=HK.out;omega
 have HPV:=Lib.hid (fun g:Gu=>show k*7+g.cells.length≤cs.length by show k*7+7≤_;rw[hlen];omega)
 have HO:=Lib.hid (And.intro hput hO)
 clear hgd hnv hgl htk hput hle hlen hO
 simp only[List.cons_append,List.nil_append]at hL
 go_upto_region 6 with(first|((with_reducible refine lbs hL ?_);clear hL;intro be w1 hL)|(with_reducible refine lld hL ?_))
 go_upto_region 7 with(first|(go_at_call 78;refine(zt _).mono ?_;rintro e w1 ⟨rfl,hb⟩;replace hL:=hL.grow hb;clear hb;dsimp only)|((with_reducible refine lal hL ?_);clear hL;first|(have hq12:b12=b12:=rfl;clear hq12;intro b13 w1 hL)|intro b12 w1 hL)|(with_reducible refine zd hL ?_;clear hL;intro w1 hL))
 go_upto_region 13 with(first|(with_reducible refine ldB HA.out hL ?_)|(with_reducible refine ldB HB.out hL ?_)|(go_at_call 74;refine(HNA.out _).mono ?_;rintro e w1 ⟨rfl,hb⟩;replace hL:=hL.grow hb;clear hb;dsimp only)|(go_at_call 75;refine(HNB.out _).mono ?_;rintro e w1 ⟨rfl,hb⟩;replace hL:=hL.grow hb;clear hb;dsimp only)|(go_at_call 78;refine(zt _).mono ?_;rintro e w1 ⟨rfl,hb⟩;replace hL:=hL.grow hb;clear hb;dsimp only)|((with_reducible refine lal hL ?_);clear hL;intro b14 w1 hL)|(with_reducible first|refine lld hL ?_|(refine zd hL ?_;clear hL;intro w1 hL)))
 go_upto_region 84 with(first|(go_at_call 82;refine(HM.out _ hL.below).mono ?_;rintro e w3 ⟨⟨r1,r2,r3⟩,rfl,hrr,hb3⟩;replace hL:=hL.grow hb3;clear hb3;have HRR:=Lib.hid hrr;clear hrr;dsimp only[Res.gu])|(with_reducible first|refine lld hL ?_|(refine zd hL ?_;clear hL;intro w1 hL)))
 replace hL:=hL.pure (S:=fun w=>zX w gx d.vars→qq w ⟨en,⟨esn,elo,ehi⟩,et,ef,⟨r1,r2,r3⟩⟩ ⟨en,⟨esn,elo,ehi⟩,et,ef,el⟩) (fun w2 hc=>⟨rfl,by
  rcases HRR.out with⟨h1,h2⟩|⟨h1,h2⟩
  ·(try dsimp only at h1 h2)
   rw[h1,h2];exact HCC.out w2 hc
  ·(try dsimp only at h1 h2)
   rw[h1,h2];exact zp.nil w2⟩)
 have hee:qj ⟨en,⟨esn,elo,ehi⟩,et,ef,⟨r1,r2,r3⟩⟩=qP ⟨en,⟨esn,elo,ehi⟩,et,ef,el⟩:=Za (d:=⟨en,⟨esn,elo,ehi⟩,et,ef,el⟩) (s:=⟨r1,r2,r3⟩) (by
  rcases HRR.out with⟨h1,h2⟩|⟨h1,h2⟩
  ·(try dsimp only at h1 h2)
   rw[h1,h2];exact HSN.out
  ·(try dsimp only at h1 h2)
   rw[h1,h2];rfl)
 have hem:=fun w'=>zW ⟨en,⟨esn,elo,ehi⟩,et,ef,⟨r1,r2,r3⟩⟩ w'
 rw[hee]at hem
 clear hee
 generalize hem0:qP ⟨en,⟨esn,elo,ehi⟩,et,ef,el⟩=em at hem HS
 have HE:=Lib.hid hem
 clear hem hem0
 cases em with
 | true=>
  go_wp2_with (first|(go_at_call 83;refine(HE.out _).mono ?_;rintro e w1 ⟨rfl,hb⟩;replace hL:=hL.grow hb;clear hb;dsimp only)|(with_reducible refine lld hL ?_))
  refine rt3 ?_
  refine⟨zn,rfl,?_⟩
  show Q2 _ _ _ _ (jV d at' k ⟨en,⟨esn,elo,ehi⟩,et,ef,el⟩)
  rw[HS.out]
  exact Q2.nil hL.below
 | false=>
  go_wp2_with (first|(go_at_call 83;refine(HE.out _).mono ?_;rintro e w1 ⟨rfl,hb⟩;replace hL:=hL.grow hb;clear hb;dsimp only)|(refine qa (b:=bv) (off:=k*7) (vs:=Gu.cells ⟨en,⟨esn,elo,ehi⟩,et,ef,⟨r1,r2,r3⟩⟩) (cs':=zk cs (k*7) (Gu.cells ⟨en,⟨esn,elo,ehi⟩,et,ef,⟨r1,r2,r3⟩⟩)) hL rfl rfl cIn rfl zZ.sz rfl (HPV.out ⟨en,⟨esn,elo,ehi⟩,et,ef,⟨r1,r2,r3⟩⟩) rfl ?_;clear hL;intro w' hL)|(with_reducible refine lld hL ?_))
  refine rt3 ?_
  obtain⟨hput,hO⟩:=HO.out
  refine⟨⟨some ⟨be,0,none⟩,1,1⟩,rfl,?_⟩
  show Q2 _ _ _ _ (jV d at' k ⟨en,⟨esn,elo,ehi⟩,et,ef,el⟩)
  rw[HS.out]
  exact((hL.both (U:=fun w=>zX w gx d.vars→zS (gv.set k ⟨en,⟨esn,elo,ehi⟩,et,ef,⟨r1,r2,r3⟩⟩) gf (d.setVar k ⟨en,⟨esn,elo,ehi⟩,et,ef,el⟩).vars (d.setVar k ⟨en,⟨esn,elo,ehi⟩,et,ef,el⟩).fields w) (fun w h1 h2 hc=>⟨h2.1.set HK.out (h1 hc),h2.2⟩)).drop (.cons _ (.cons _ (.cons _ (.cons_cons _ (.cons _ (.cons _ (.cons _ (.cons _ (List.Sublist.refl _))))))))) (fun _ h=>h)).edge1 (K:=[]) (r:=⟨false,⟨some ⟨bv,0,none⟩,vn,vc⟩,⟨fp,fn,fc⟩⟩) (Rv:=[(bv,108,zk cs (k*7) (Gu.cells ⟨en,⟨esn,elo,ehi⟩,et,ef,⟨r1,r2,r3⟩⟩))]) ⟨hput ⟨en,⟨esn,elo,ehi⟩,et,ef,⟨r1,r2,r3⟩⟩,hO.heads,hO.rows⟩ HN0.out.symm (by show (d.vars.set k _).length+_≤_;rw[List.length_set];exact HPM.out)
theorem zgH (p:Pg) (is:Nat→Ins) (i:Ins) (x:Pv) (d:Pd) (gx:List Gu) (at' : Nat) (w:World) (hp:zl p is=0) (hc:qc w p is) (hx:zN w x d) (hgx:J6 w x d gx) (ok:jh p is d) (hat:at' < p.n) (hi:is at'=i) (hk:i.kind=4):jj p at' x d gx (zU i at' d) w:=by
 have hs:=(zx hp).1
 have hk6:=hs.n1
 have hone:=(zx hp).2 at' hat
 rw[hi]at hone
 have hr:=qN hone
 have hf:=jL hone
 have hd:=qw.of ok hp
 have hfew:=yE.of hd.r hs
 have HCP:=Lib.hid (fun w' (hb:Below w.heap.size w w')=>qR x d w' (hx.grow hb) hfew)
 have hpm:d.vars.length+d.fields.length≤9223372036854775807:=(qS.of ok hp hx).m
 have HPM:=Lib.hid hpm
 obtain⟨bc,oc,hpc,hcr⟩:=hc
 have hpc2:=hpc (by omega)
 have hI1:=zg.agg (P:=Tryz.prog) jE (hcr at' hat).1 (fun j v hj=>(hcr at' hat).2 j v hj) rfl
 rw[hi]at hI1
 have HI:=Lib.hid (show zg Tryz.prog 86 w bc (oc+at' * 6) (Ins.v i) from hI1)
 have hxe:=hx.e
 have hdn:=ok.none
 rw[hdn]at hxe
 have hvn:=hx.vars.n
 have hvm:=hx.vars.m
 rw[show zU i at' d=⟨jV d at' i.to.toNat (qK i.kind ((d.var i.a.toNat).gu ⟨none,(d.var i.a.toNat).l.length,0⟩) ((d.var i.b.toNat).gu ⟨none,(d.var i.b.toNat).l.length,0⟩) (d.var i.a.toNat).l (d.var i.b.toNat).l).1,(qK i.kind ((d.var i.a.toNat).gu ⟨none,(d.var i.a.toNat).l.length,0⟩) ((d.var i.b.toNat).gu ⟨none,(d.var i.b.toNat).l.length,0⟩) (d.var i.a.toNat).l (d.var i.b.toNat).l).2,false⟩ by unfold zU;rw[if_neg (by omega),if_neg (by omega),if_neg (by omega),if_neg (by omega),if_neg (by omega),if_neg (by omega),if_neg (by omega),if_neg (by omega),if_neg (by omega)]]
 obtain⟨hia,hal⟩:=idx (hr.a (by rw[hk];decide)) hd.r.vars
 obtain⟨bo,oo,hpo,hco⟩:=hgx.l.ex
 have hpo2:=hpo (by omega)
 have hga:=hgx.d.at' i.a.toNat hal
 have hra:=zg.agg (P:=Tryz.prog) zZ (hco i.a.toNat (by omega)).1 (hco i.a.toNat (by omega)).2 rfl
 obtain⟨sa,hsa⟩:∃ s,gx.getD i.a.toNat zT=(d.var i.a.toNat).gu s:=⟨_,hga.e⟩
 have hla:zp w sa (d.var i.a.toNat).l:=by have:=hga.l;rw[hsa]at this;exact this
 rw[hsa]at hra
 have HA:=Lib.hid (show zg Tryz.prog 108 w bo (oo+i.a.toNat*7) ((d.var i.a.toNat).gu sa).v from hra)
 have hav:i.a.toNat<x.vars.n:=by omega
 have HN0:=Lib.hid hdn
 obtain⟨hit,hkl⟩:=idx (hr.to (by rw[hk];decide)) hd.r.vars
 have HK:=Lib.hid hkl
 have HCC:=Lib.hid (fun w2 (hc:zX w2 gx d.vars)=>show zp w2 sa (d.var i.a.toNat).l by
  have h1:=(hc.at' i.a.toNat hal).l
  rw[hsa]at h1
  exact h1)
 have hsn:=hla.n
 have hm:=fun w' (hb:Below w.heap.size w w')=>X6 i.kind ((d.var i.a.toNat).gu sa) qu (d.var i.a.toNat).l [] w' (by rw[hk];decide) ((hd.r.vg _ hal).gu hla.n) YM (hla.grow hb) (zp.nil w')
 have hq:qK i.kind ((d.var i.a.toNat).gu sa) qu (d.var i.a.toNat).l []=qK i.kind ((d.var i.a.toNat).gu ⟨none,(d.var i.a.toNat).l.length,0⟩) ((d.var i.b.toNat).gu ⟨none,(d.var i.b.toNat).l.length,0⟩) (d.var i.a.toNat).l (d.var i.b.toNat).l:=(Xx (by omega) _ _ _ _ _ _).trans (UB (t:=⟨none,(d.var i.b.toNat).l.length,0⟩) i.kind (d.var i.a.toNat) (d.var i.b.toNat) _ _ hla.n rfl)
 simp only[hq]at hm
 have HSN:=Lib.hid hsn
 generalize qK i.kind ((d.var i.a.toNat).gu ⟨none,(d.var i.a.toNat).l.length,0⟩) ((d.var i.b.toNat).gu ⟨none,(d.var i.b.toNat).l.length,0⟩) (d.var i.a.toNat).l (d.var i.b.toNat).l=mg at *
 obtain⟨⟨en,⟨esn,elo,ehi⟩,et,ef,el⟩,wrb⟩:=mg
 dsimp only at hm
 have HM:=Lib.hid hm
 clear hm
 have HS:=Lib.hid (show jV d at' i.to.toNat ⟨en,⟨esn,elo,ehi⟩,et,ef,el⟩=if qP ⟨en,⟨esn,elo,ehi⟩,et,ef,el⟩=true then [] else [((at' : Int)+1,d.setVar i.to.toNat ⟨en,⟨esn,elo,ehi⟩,et,ef,el⟩)] from rfl)
 clear hsn
 clear hq hx hgx hp hr hf hd hs hone hfew hpc hcr hI1 hi hdn hpm ok hpo hco hga hra hsa hla hal
 clear hkl
 unfold jj
 generalize i.to.toNat=k at *
 generalize i.a.toNat=a at *
 generalize d.var a=g at *
 obtain⟨ik,ito,ia,ib,inn,ig⟩:=i
 obtain⟨xn,⟨xp,xvn,xc⟩,⟨xfp,xfn,xfc⟩⟩:=x
 obtain⟨pv,pf,pc,pn,pcap⟩:=p
 dsimp only at hit
 subst hit
 dsimp only at hk hpc2 hk6 hat hxe hvn hvm hia hpo2 hav
 subst hk hpc2 hxe hvn hia hpo2
 obtain⟨gn,⟨gsn,glo,ghi⟩,gt,gff,gl⟩:=g
 obtain⟨s1,s2,s3⟩:=sa
 dsimp only[Res.gu]at HA HM HCC HSN
 have hna:nA 4=true:=by decide
 have hnb:nB 4=false:=by decide
 have hL:=Loc.start w
 go_enter Tryz.func40,Tryz.ntmps40
 go_step
 go_step
 go_step
 ((with_reducible refine lbx hL ?_);clear hL;intro b3 w1 hL)
 ((with_reducible refine lbx hL ?_);clear hL;intro b5 w1 hL)
 go_upto_region 4 with(first|(with_reducible refine ldB HI.out hL ?_)|((with_reducible refine lal hL ?_);clear hL;intro b9 w1 hL)|(with_reducible first|refine lld hL ?_|(refine zd hL ?_;clear hL;intro w1 hL)))
 go_upto_region 5 with(first|(go_at_call 20;refine(HCP.out _ hL.below).mono ?_;rintro q w3 ⟨⟨rn,⟨vp,vn,vc⟩,⟨fp,fn,fc⟩⟩,rfl,gv,gf,rs,Rv,Rh,Rf,hrn,hO,hl3⟩;replace hL:=hL.gave hl3;simp only[List.cons_append,List.nil_append]at hL;clear hl3;dsimp only)|((with_reducible refine lal hL ?_);clear hL;intro b10 w1 hL)|(with_reducible first|refine lld hL ?_|(refine zd hL ?_;clear hL;intro w1 hL)))
 have hrn2:rn=false:=by rw[show rn=d.none from hrn];exact HN0.out
 subst hrn2
 clear hrn
 have hgd:=(hL.get (S:=zS gv gf d.vars d.fields) List.mem_cons_self).1
 have hnv:=hO.vars.flatlen jl (by decide)
 have hgl:=hgd.len
 (try dsimp only at hnv)
 obtain⟨bv,cs,hpv,rfl,htk,hlen⟩:=hO.vars.block (show 0<vn by have:=HK.out;omega)
 have hput:=fun g=>hO.vars.put jl zT (k:=k) (show k<vn by have:=HK.out;omega) g
 have hle:=hO.vars.fits
 (try dsimp only at hpv hput hle hlen)
 subst hpv
 have hkn:k<vn:=by have:=HK.out;omega
 have HPV:=Lib.hid (fun g:Gu=>show k*7+g.cells.length≤cs.length by show k*7+7≤_;rw[hlen];omega)
 have HO:=Lib.hid (And.intro hput hO)
 clear hgd hnv hgl htk hput hle hlen hO
 simp only[List.cons_append,List.nil_append]at hL
 go_upto_region 6 with(first|((with_reducible refine lbs hL ?_);clear hL;intro be w1 hL)|(with_reducible refine lld hL ?_))
 go_upto_region 7 with(first|(go_at_call 78;refine(zt _).mono ?_;rintro e w1 ⟨rfl,hb⟩;replace hL:=hL.grow hb;clear hb;dsimp only)|((with_reducible refine lal hL ?_);clear hL;first|(have hq12:b12=b12:=rfl;clear hq12;intro b13 w1 hL)|intro b12 w1 hL)|(with_reducible refine zd hL ?_;clear hL;intro w1 hL))
 go_upto_region 13 with(first|(with_reducible refine ldB HA.out hL ?_)|(go_at_call 74;refine(qe _ _).mono ?_;rintro e w1 ⟨rfl,hb⟩;replace hL:=hL.grow hb;clear hb;dsimp only)|(go_at_call 75;refine(qg _ _).mono ?_;rintro e w1 ⟨rfl,hb⟩;replace hL:=hL.grow hb;clear hb;dsimp only)|(go_at_call 78;refine(zt _).mono ?_;rintro e w1 ⟨rfl,hb⟩;replace hL:=hL.grow hb;clear hb;dsimp only)|((with_reducible refine lal hL ?_);clear hL;intro b14 w1 hL)|(with_reducible first|refine lld hL ?_|(refine zd hL ?_;clear hL;intro w1 hL)))
 go_upto_region 84 with(first|(go_at_call 82;refine(HM.out _ hL.below).mono ?_;rintro e w3 ⟨⟨r1,r2,r3⟩,rfl,hrr,hb3⟩;replace hL:=hL.grow hb3;clear hb3;have HRR:=Lib.hid hrr;clear hrr;dsimp only[Res.gu])|(with_reducible first|refine lld hL ?_|(refine zd hL ?_;clear hL;intro w1 hL)))
 replace hL:=hL.pure (S:=fun w=>zX w gx d.vars→qq w ⟨en,⟨esn,elo,ehi⟩,et,ef,⟨r1,r2,r3⟩⟩ ⟨en,⟨esn,elo,ehi⟩,et,ef,el⟩) (fun w2 hc=>⟨rfl,by
  rcases HRR.out with⟨h1,h2⟩|⟨h1,h2⟩
  ·(try dsimp only at h1 h2)
   rw[h1,h2];exact HCC.out w2 hc
  ·(try dsimp only at h1 h2)
   rw[h1,h2];exact zp.nil w2⟩)
 have hee:qj ⟨en,⟨esn,elo,ehi⟩,et,ef,⟨r1,r2,r3⟩⟩=qP ⟨en,⟨esn,elo,ehi⟩,et,ef,el⟩:=Za (d:=⟨en,⟨esn,elo,ehi⟩,et,ef,el⟩) (s:=⟨r1,r2,r3⟩) (by
  rcases HRR.out with⟨h1,h2⟩|⟨h1,h2⟩
  ·(try dsimp only at h1 h2)
   rw[h1,h2];exact HSN.out
  ·(try dsimp only at h1 h2)
   rw[h1,h2];rfl)
 have hem:=fun w'=>zW ⟨en,⟨esn,elo,ehi⟩,et,ef,⟨r1,r2,r3⟩⟩ w'
 rw[hee]at hem
 clear hee
 generalize hem0:qP ⟨en,⟨esn,elo,ehi⟩,et,ef,el⟩=em at hem HS
 have HE:=Lib.hid hem
 clear hem hem0
 cases em with
 | true=>
  go_wp2_with (first|(go_at_call 83;refine(HE.out _).mono ?_;rintro e w1 ⟨rfl,hb⟩;replace hL:=hL.grow hb;clear hb;dsimp only)|(with_reducible refine lld hL ?_))
  refine rt3 ?_
  refine⟨zn,rfl,?_⟩
  show Q2 _ _ _ _ (jV d at' k ⟨en,⟨esn,elo,ehi⟩,et,ef,el⟩)
  rw[HS.out]
  exact Q2.nil hL.below
 | false=>
  go_wp2_with (first|(go_at_call 83;refine(HE.out _).mono ?_;rintro e w1 ⟨rfl,hb⟩;replace hL:=hL.grow hb;clear hb;dsimp only)|(refine qa (b:=bv) (off:=k*7) (vs:=Gu.cells ⟨en,⟨esn,elo,ehi⟩,et,ef,⟨r1,r2,r3⟩⟩) (cs':=zk cs (k*7) (Gu.cells ⟨en,⟨esn,elo,ehi⟩,et,ef,⟨r1,r2,r3⟩⟩)) hL rfl rfl cIn rfl zZ.sz rfl (HPV.out ⟨en,⟨esn,elo,ehi⟩,et,ef,⟨r1,r2,r3⟩⟩) rfl ?_;clear hL;intro w' hL)|(with_reducible refine lld hL ?_))
  refine rt3 ?_
  obtain⟨hput,hO⟩:=HO.out
  refine⟨⟨some ⟨be,0,none⟩,1,1⟩,rfl,?_⟩
  show Q2 _ _ _ _ (jV d at' k ⟨en,⟨esn,elo,ehi⟩,et,ef,el⟩)
  rw[HS.out]
  exact((hL.both (U:=fun w=>zX w gx d.vars→zS (gv.set k ⟨en,⟨esn,elo,ehi⟩,et,ef,⟨r1,r2,r3⟩⟩) gf (d.setVar k ⟨en,⟨esn,elo,ehi⟩,et,ef,el⟩).vars (d.setVar k ⟨en,⟨esn,elo,ehi⟩,et,ef,el⟩).fields w) (fun w h1 h2 hc=>⟨h2.1.set HK.out (h1 hc),h2.2⟩)).drop (.cons _ (.cons _ (.cons _ (.cons_cons _ (.cons _ (.cons _ (.cons _ (.cons _ (List.Sublist.refl _))))))))) (fun _ h=>h)).edge1 (K:=[]) (r:=⟨false,⟨some ⟨bv,0,none⟩,vn,vc⟩,⟨fp,fn,fc⟩⟩) (Rv:=[(bv,108,zk cs (k*7) (Gu.cells ⟨en,⟨esn,elo,ehi⟩,et,ef,⟨r1,r2,r3⟩⟩))]) ⟨hput ⟨en,⟨esn,elo,ehi⟩,et,ef,⟨r1,r2,r3⟩⟩,hO.heads,hO.rows⟩ HN0.out.symm (by show (d.vars.set k _).length+_≤_;rw[List.length_set];exact HPM.out)
theorem zge (p:Pg) (is:Nat→Ins) (i:Ins) (x:Pv) (d:Pd) (gx:List Gu) (at' : Nat) (w:World) (hp:zl p is=0) (hc:qc w p is) (hx:zN w x d) (hgx:J6 w x d gx) (ok:jh p is d) (hat:at' < p.n) (hi:is at'=i) (hk:i.kind=10):jj p at' x d gx (zU i at' d) w:=by
 have hs:=(zx hp).1
 have hk6:=hs.n1
 have hone:=(zx hp).2 at' hat
 rw[hi]at hone
 have hr:=qN hone
 have hf:=jL hone
 have hd:=qw.of ok hp
 have hfew:=yE.of hd.r hs
 have HCP:=Lib.hid (fun w' (hb:Below w.heap.size w w')=>qR x d w' (hx.grow hb) hfew)
 have hpm:d.vars.length+d.fields.length≤9223372036854775807:=(qS.of ok hp hx).m
 have HPM:=Lib.hid hpm
 obtain⟨bc,oc,hpc,hcr⟩:=hc
 have hpc2:=hpc (by omega)
 have hI1:=zg.agg (P:=Tryz.prog) jE (hcr at' hat).1 (fun j v hj=>(hcr at' hat).2 j v hj) rfl
 rw[hi]at hI1
 have HI:=Lib.hid (show zg Tryz.prog 86 w bc (oc+at' * 6) (Ins.v i) from hI1)
 have hxe:=hx.e
 have hdn:=ok.none
 rw[hdn]at hxe
 have hvn:=hx.vars.n
 have hvm:=hx.vars.m
 rw[show zU i at' d=⟨jV d at' i.to.toNat (qK i.kind ((d.var i.a.toNat).gu ⟨none,(d.var i.a.toNat).l.length,0⟩) ((d.var i.b.toNat).gu ⟨none,(d.var i.b.toNat).l.length,0⟩) (d.var i.a.toNat).l (d.var i.b.toNat).l).1,(qK i.kind ((d.var i.a.toNat).gu ⟨none,(d.var i.a.toNat).l.length,0⟩) ((d.var i.b.toNat).gu ⟨none,(d.var i.b.toNat).l.length,0⟩) (d.var i.a.toNat).l (d.var i.b.toNat).l).2,false⟩ by unfold zU;rw[if_neg (by omega),if_neg (by omega),if_neg (by omega),if_neg (by omega),if_neg (by omega),if_neg (by omega),if_neg (by omega),if_neg (by omega),if_neg (by omega)]]
 obtain⟨hia,hal⟩:=idx (hr.a (by rw[hk];decide)) hd.r.vars
 obtain⟨bo,oo,hpo,hco⟩:=hgx.l.ex
 have hpo2:=hpo (by omega)
 have hga:=hgx.d.at' i.a.toNat hal
 have hra:=zg.agg (P:=Tryz.prog) zZ (hco i.a.toNat (by omega)).1 (hco i.a.toNat (by omega)).2 rfl
 obtain⟨sa,hsa⟩:∃ s,gx.getD i.a.toNat zT=(d.var i.a.toNat).gu s:=⟨_,hga.e⟩
 have hla:zp w sa (d.var i.a.toNat).l:=by have:=hga.l;rw[hsa]at this;exact this
 rw[hsa]at hra
 have HA:=Lib.hid (show zg Tryz.prog 108 w bo (oo+i.a.toNat*7) ((d.var i.a.toNat).gu sa).v from hra)
 have hav:i.a.toNat<x.vars.n:=by omega
 have HN0:=Lib.hid hdn
 obtain⟨hit,hkl⟩:=idx (hr.to (by rw[hk];decide)) hd.r.vars
 have HK:=Lib.hid hkl
 have HCC:=Lib.hid (fun w2 (hc:zX w2 gx d.vars)=>show zp w2 sa (d.var i.a.toNat).l by
  have h1:=(hc.at' i.a.toNat hal).l
  rw[hsa]at h1
  exact h1)
 have hsn:=hla.n
 have hm:=fun w' (hb:Below w.heap.size w w')=>X6 i.kind ((d.var i.a.toNat).gu sa) qu (d.var i.a.toNat).l [] w' (by rw[hk];decide) ((hd.r.vg _ hal).gu hla.n) YM (hla.grow hb) (zp.nil w')
 have hq:qK i.kind ((d.var i.a.toNat).gu sa) qu (d.var i.a.toNat).l []=qK i.kind ((d.var i.a.toNat).gu ⟨none,(d.var i.a.toNat).l.length,0⟩) ((d.var i.b.toNat).gu ⟨none,(d.var i.b.toNat).l.length,0⟩) (d.var i.a.toNat).l (d.var i.b.toNat).l:=(Xx (by omega) _ _ _ _ _ _).trans (UB (t:=⟨none,(d.var i.b.toNat).l.length,0⟩) i.kind (d.var i.a.toNat) (d.var i.b.toNat) _ _ hla.n rfl)
 simp only[hq]at hm
 have HSN:=Lib.hid hsn
 generalize qK i.kind ((d.var i.a.toNat).gu ⟨none,(d.var i.a.toNat).l.length,0⟩) ((d.var i.b.toNat).gu ⟨none,(d.var i.b.toNat).l.length,0⟩) (d.var i.a.toNat).l (d.var i.b.toNat).l=mg at *
 obtain⟨⟨en,⟨esn,elo,ehi⟩,et,ef,el⟩,wrb⟩:=mg
 dsimp only at hm
 have HM:=Lib.hid hm
 clear hm
 have HS:=Lib.hid (show jV d at' i.to.toNat ⟨en,⟨esn,elo,ehi⟩,et,ef,el⟩=if qP ⟨en,⟨esn,elo,ehi⟩,et,ef,el⟩=true then [] else [((at' : Int)+1,d.setVar i.to.toNat ⟨en,⟨esn,elo,ehi⟩,et,ef,el⟩)] from rfl)
 clear hsn
 clear hq hx hgx hp hr hf hd hs hone hfew hpc hcr hI1 hi hdn hpm ok hpo hco hga hra hsa hla hal
 clear hkl
 unfold jj
 generalize i.to.toNat=k at *
 generalize i.a.toNat=a at *
 generalize d.var a=g at *
 obtain⟨ik,ito,ia,ib,inn,ig⟩:=i
 obtain⟨xn,⟨xp,xvn,xc⟩,⟨xfp,xfn,xfc⟩⟩:=x
 obtain⟨pv,pf,pc,pn,pcap⟩:=p
 dsimp only at hit
 subst hit
 dsimp only at hk hpc2 hk6 hat hxe hvn hvm hia hpo2 hav
 subst hk hpc2 hxe hvn hia hpo2
 obtain⟨gn,⟨gsn,glo,ghi⟩,gt,gff,gl⟩:=g
 obtain⟨s1,s2,s3⟩:=sa
 dsimp only[Res.gu]at HA HM HCC HSN
 have hna:nA 10=true:=by decide
 have hnb:nB 10=false:=by decide
 have hL:=Loc.start w
 go_enter Tryz.func40,Tryz.ntmps40
 go_step
 go_step
 go_step
 ((with_reducible refine lbx hL ?_);clear hL;intro b3 w1 hL)
 ((with_reducible refine lbx hL ?_);clear hL;intro b5 w1 hL)
 go_upto_region 4 with(first|(with_reducible refine ldB HI.out hL ?_)|((with_reducible refine lal hL ?_);clear hL;intro b9 w1 hL)|(with_reducible first|refine lld hL ?_|(refine zd hL ?_;clear hL;intro w1 hL)))
 go_upto_region 5 with(first|(go_at_call 20;refine(HCP.out _ hL.below).mono ?_;rintro q w3 ⟨⟨rn,⟨vp,vn,vc⟩,⟨fp,fn,fc⟩⟩,rfl,gv,gf,rs,Rv,Rh,Rf,hrn,hO,hl3⟩;replace hL:=hL.gave hl3;simp only[List.cons_append,List.nil_append]at hL;clear hl3;dsimp only)|((with_reducible refine lal hL ?_);clear hL;intro b10 w1 hL)|(with_reducible first|refine lld hL ?_|(refine zd hL ?_;clear hL;intro w1 hL)))
 have hrn2:rn=false:=by rw[show rn=d.none from hrn];exact HN0.out
 subst hrn2
 clear hrn
 have hgd:=(hL.get (S:=zS gv gf d.vars d.fields) List.mem_cons_self).1
 have hnv:=hO.vars.flatlen jl (by decide)
 have hgl:=hgd.len
 (try dsimp only at hnv)
 obtain⟨bv,cs,hpv,rfl,htk,hlen⟩:=hO.vars.block (show 0<vn by have:=HK.out;omega)
 have hput:=fun g=>hO.vars.put jl zT (k:=k) (show k<vn by have:=HK.out;omega) g
 have hle:=hO.vars.fits
 (try dsimp only at hpv hput hle hlen)
 subst hpv
 have hkn:k<vn:=by have:=HK.out;omega
 have HPV:=Lib.hid (fun g:Gu=>show k*7+g.cells.length≤cs.length by show k*7+7≤_;rw[hlen];omega)
 have HO:=Lib.hid (And.intro hput hO)
 clear hgd hnv hgl htk hput hle hlen hO
 simp only[List.cons_append,List.nil_append]at hL
 go_upto_region 6 with(first|((with_reducible refine lbs hL ?_);clear hL;intro be w1 hL)|(with_reducible refine lld hL ?_))
 go_upto_region 7 with(first|(go_at_call 78;refine(zt _).mono ?_;rintro e w1 ⟨rfl,hb⟩;replace hL:=hL.grow hb;clear hb;dsimp only)|((with_reducible refine lal hL ?_);clear hL;first|(have hq12:b12=b12:=rfl;clear hq12;intro b13 w1 hL)|intro b12 w1 hL)|(with_reducible refine zd hL ?_;clear hL;intro w1 hL))
 go_upto_region 13 with(first|(with_reducible refine ldB HA.out hL ?_)|(go_at_call 74;refine(qe _ _).mono ?_;rintro e w1 ⟨rfl,hb⟩;replace hL:=hL.grow hb;clear hb;dsimp only)|(go_at_call 75;refine(qg _ _).mono ?_;rintro e w1 ⟨rfl,hb⟩;replace hL:=hL.grow hb;clear hb;dsimp only)|(go_at_call 78;refine(zt _).mono ?_;rintro e w1 ⟨rfl,hb⟩;replace hL:=hL.grow hb;clear hb;dsimp only)|((with_reducible refine lal hL ?_);clear hL;intro b14 w1 hL)|(with_reducible first|refine lld hL ?_|(refine zd hL ?_;clear hL;intro w1 hL)))
 go_upto_region 84 with(first|(go_at_call 82;refine(HM.out _ hL.below).mono ?_;rintro e w3 ⟨⟨r1,r2,r3⟩,rfl,hrr,hb3⟩;replace hL:=hL.grow hb3;clear hb3;have HRR:=Lib.hid hrr;clear hrr;dsimp only[Res.gu])|(with_reducible first|refine lld hL ?_|(refine zd hL ?_;clear hL;intro w1 hL)))
 replace hL:=hL.pure (S:=fun w=>zX w gx d.vars→qq w ⟨en,⟨esn,elo,ehi⟩,et,ef,⟨r1,r2,r3⟩⟩ ⟨en,⟨esn,elo,ehi⟩,et,ef,el⟩) (fun w2 hc=>⟨rfl,by
  rcases HRR.out with⟨h1,h2⟩|⟨h1,h2⟩
  ·(try dsimp only at h1 h2)
   rw[h1,h2];exact HCC.out w2 hc
  ·(try dsimp only at h1 h2)
   rw[h1,h2];exact zp.nil w2⟩)
 have hee:qj ⟨en,⟨esn,elo,ehi⟩,et,ef,⟨r1,r2,r3⟩⟩=qP ⟨en,⟨esn,elo,ehi⟩,et,ef,el⟩:=Za (d:=⟨en,⟨esn,elo,ehi⟩,et,ef,el⟩) (s:=⟨r1,r2,r3⟩) (by
  rcases HRR.out with⟨h1,h2⟩|⟨h1,h2⟩
  ·(try dsimp only at h1 h2)
   rw[h1,h2];exact HSN.out
  ·(try dsimp only at h1 h2)
   rw[h1,h2];rfl)
 have hem:=fun w'=>zW ⟨en,⟨esn,elo,ehi⟩,et,ef,⟨r1,r2,r3⟩⟩ w'
 rw[hee]at hem
 clear hee
 generalize hem0:qP ⟨en,⟨esn,elo,ehi⟩,et,ef,el⟩=em at hem HS
 have HE:=Lib.hid hem
 clear hem hem0
 cases em with
 | true=>
  go_wp2_with (first|(go_at_call 83;refine(HE.out _).mono ?_;rintro e w1 ⟨rfl,hb⟩;replace hL:=hL.grow hb;clear hb;dsimp only)|(with_reducible refine lld hL ?_))
  refine rt3 ?_
  refine⟨zn,rfl,?_⟩
  show Q2 _ _ _ _ (jV d at' k ⟨en,⟨esn,elo,ehi⟩,et,ef,el⟩)
  rw[HS.out]
  exact Q2.nil hL.below
 | false=>
  go_wp2_with (first|(go_at_call 83;refine(HE.out _).mono ?_;rintro e w1 ⟨rfl,hb⟩;replace hL:=hL.grow hb;clear hb;dsimp only)|(refine qa (b:=bv) (off:=k*7) (vs:=Gu.cells ⟨en,⟨esn,elo,ehi⟩,et,ef,⟨r1,r2,r3⟩⟩) (cs':=zk cs (k*7) (Gu.cells ⟨en,⟨esn,elo,ehi⟩,et,ef,⟨r1,r2,r3⟩⟩)) hL rfl rfl cIn rfl zZ.sz rfl (HPV.out ⟨en,⟨esn,elo,ehi⟩,et,ef,⟨r1,r2,r3⟩⟩) rfl ?_;clear hL;intro w' hL)|(with_reducible refine lld hL ?_))
  refine rt3 ?_
  obtain⟨hput,hO⟩:=HO.out
  refine⟨⟨some ⟨be,0,none⟩,1,1⟩,rfl,?_⟩
  show Q2 _ _ _ _ (jV d at' k ⟨en,⟨esn,elo,ehi⟩,et,ef,el⟩)
  rw[HS.out]
  exact((hL.both (U:=fun w=>zX w gx d.vars→zS (gv.set k ⟨en,⟨esn,elo,ehi⟩,et,ef,⟨r1,r2,r3⟩⟩) gf (d.setVar k ⟨en,⟨esn,elo,ehi⟩,et,ef,el⟩).vars (d.setVar k ⟨en,⟨esn,elo,ehi⟩,et,ef,el⟩).fields w) (fun w h1 h2 hc=>⟨h2.1.set HK.out (h1 hc),h2.2⟩)).drop (.cons _ (.cons _ (.cons _ (.cons_cons _ (.cons _ (.cons _ (.cons _ (.cons _ (List.Sublist.refl _))))))))) (fun _ h=>h)).edge1 (K:=[]) (r:=⟨false,⟨some ⟨bv,0,none⟩,vn,vc⟩,⟨fp,fn,fc⟩⟩) (Rv:=[(bv,108,zk cs (k*7) (Gu.cells ⟨en,⟨esn,elo,ehi⟩,et,ef,⟨r1,r2,r3⟩⟩))]) ⟨hput ⟨en,⟨esn,elo,ehi⟩,et,ef,⟨r1,r2,r3⟩⟩,hO.heads,hO.rows⟩ HN0.out.symm (by show (d.vars.set k _).length+_≤_;rw[List.length_set];exact HPM.out)
end Go.Proofs.YtplcndmdkabmeaaGreatDoor
