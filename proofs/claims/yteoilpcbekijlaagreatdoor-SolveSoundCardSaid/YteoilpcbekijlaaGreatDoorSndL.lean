import Derived.Test.YteoilpcbekijlaaGreatDoorSoundG
import Derived.Test.YteoilpcbekijlaaGreatDoorFitL
set_option linter.unusedSimpArgs false
set_option linter.unusedVariables false
set_option maxRecDepth 100000
set_option maxHeartbeats 4000000
namespace Go.Proofs.YteoilpcbekijlaaGreatDoor
open Go.RowKit
theorem gotPs_below {w w' : World}{s:Sl}{l:List Pd}(h:GotPs w w' s l):Below w.heap.size w w':=by
 obtain⟨_,_,_,_,hL⟩:=h
 exact hL.below
theorem sound_err (p:Pg) (is:Nat→Ins) (ins:Sl) (fuel:Int) (w:World) (hn:p.n≤9223372036854775807) (hc:CodeAt w p is) (h0:checkProg p is≠0) (hp:Pows w):
  Calls Tryz.prog 6 #[p.v,ins.v,.int .i64 fuel] w fun q w'=>q=.returned (.bool true)∧Below w.heap.size w w':=by
 have HPW:=Lib.hid hp
 have HSV:=Lib.hid (fun w' (hb:Below w.heap.size w w')=>solve_err p is w' hn (hc.grow hb) h0)
 have hne:(checkProg p is != 0)=true:=by simpa using h0
 generalize checkProg p is=c at hne HSV
 clear hp hc hn h0
 obtain⟨pv,pf,pp,pn,pc⟩:=p
 obtain⟨ip,im,ic⟩:=ins
 try dsimp only at *
 have hL:=Loc.start w
 go_enter Tryz.func6,Tryz.ntmps6
 go_wp2_with (first|(with_reducible first|refine lld hL ?_|((first|refine lbx hL ?_|refine lal hL ?_|refine lbs hL ?_);clear hL;intro bl w1 hL)|(refine lst' hL ?_;clear hL;intro w1 hL))|(go_at_call 25;refine(solveBegun_any _).mono ?_;rintro e w1 ⟨rfl,hb⟩;replace hL:=hL.grow hb;clear hb;dsimp only)|(go_at_call 21;refine(picBegun_any _).mono ?_;rintro e w1 ⟨rfl,hb⟩;replace hL:=hL.grow hb;clear hb;dsimp only)|(go_at_call 15;refine(runBegun_any _ (HPW.out.grow hL.below)).mono ?_;rintro e w1 ⟨rfl,hb⟩;replace hL:=hL.grow hb;clear hb;dsimp only)|(go_at_call 26;refine(HSV.out _ hL.below).mono ?_;rintro e w1 ⟨rfl,hb⟩;replace hL:=hL.grow hb;clear hb;dsimp only))
 (try simp only[Exit.inBlock,Exit.then]);refine rt1 ?_
 exact⟨rfl,hL.below⟩
theorem sound_fuel (p:Pg) (is:Nat→Ins) (ins:Sl) (fuel:Int) (w:World) (hn:p.n≤9223372036854775807) (hc:CodeAt w p is) (h0:checkProg p is=0) (hp:Pows w) (hfu:fuel<0∨5000<fuel):
  Calls Tryz.prog 6 #[p.v,ins.v,.int .i64 fuel] w fun q w'=>q=.returned (.bool true)∧Below w.heap.size w w':=by
 have hs:=(prog_right h0).1
 obtain⟨nv,hv⟩:∃ nv:Nat,p.vars=nv:=⟨p.vars.toNat,by have:=hs.v1;omega⟩
 obtain⟨nf,hf⟩:∃ nf:Nat,p.fields=nf:=⟨p.fields.toNat,by have:=hs.f1;omega⟩
 have HPW:=Lib.hid hp
 have HSV:=Lib.hid (fun w' (hb:Below w.heap.size w w')=>solve_ok p is nv nf hv hf w' hn (hc.grow hb) h0)
 have HR:=Lib.hid (fun w' (hb:Below w.heap.size w w')=>runRun_fuel p is ins fuel w' hn (hc.grow hb) h0 hfu)
 have HFF:=Lib.hid (fun (k:Nat) (s:Sl) (hE:EndsN is p.n (beginL nv nf p.n) k) (w1:World) (hb1:Below w.heap.size w w1) (hx:PicsL w1 s (solN is p.n (beginL nv nf p.n) (k+1))) w' (hb:Below w1.heap.size w1 w')=>(show Calls Tryz.prog 27 #[p.v,.slice s.p s.n s.cap] w' fun e w2=>e=.returned (.tuple #[.bool true,.int .i64 0])∧Below w'.heap.size w' w2 by
  have h1:=sol_fits h0 hv hf hE
  have h2:=fits_ok p is nv nf hv hf s _ h0 w' (hc.grow (hb1.trans (hb.mono hb1.size))) (hx.grow hb) (hx.n.trans h1.1.len) h1.1.r
  rw[h1.2]at h2
  exact h2))
 clear hp h0 hc hn hfu hs hv hf
 obtain⟨pv,pf,pp,pn,pc⟩:=p
 obtain⟨ip,im,ic⟩:=ins
 dsimp only at *
 have hL:=Loc.start w
 go_enter Tryz.func6,Tryz.ntmps6
 go_wp2_with (first|(with_reducible first|refine lld hL ?_|((first|refine lbx hL ?_|refine lal hL ?_|refine lbs hL ?_);clear hL;intro bl w1 hL)|(refine lst' hL ?_;clear hL;intro w1 hL))|(go_at_call 25;refine(solveBegun_any _).mono ?_;rintro e w1 ⟨rfl,hb⟩;replace hL:=hL.grow hb;clear hb;dsimp only)|(go_at_call 21;refine(picBegun_any _).mono ?_;rintro e w1 ⟨rfl,hb⟩;replace hL:=hL.grow hb;clear hb;dsimp only)|(go_at_call 15;refine(runBegun_any _ (HPW.out.grow hL.below)).mono ?_;rintro e w1 ⟨rfl,hb⟩;replace hL:=hL.grow hb;clear hb;dsimp only)|(go_at_call 26;refine(HSV.out _ hL.below).mono ?_;rintro e w1 ⟨k,⟨sp,sn,sc⟩,rfl,hE,hG⟩;have HFI:=Lib.hid (HFF.out k ⟨sp,sn,sc⟩ hE w1 ((hL.below).trans ((gotPs_below hG).mono hL.below.size)) hG.is);have HEE:=Lib.hid hE;have HB1:=Lib.hid (Below.refl w1.heap.size w1);replace hL:=hL.picsL hG;clear hG hE;dsimp only)|(go_at_call 18;refine(HR.out _ hL.below).mono ?_;rintro e w1 ⟨rfl,hb⟩;replace hL:=hL.grow hb;clear hb;dsimp only)|(go_at_call 27;refine(HFI.out _ HB1.out).mono ?_;rintro e w1 ⟨rfl,hb3⟩;replace hL:=hL.grow hb3;clear hb3;dsimp only))
 (try simp only[Exit.inBlock,Exit.then]);refine rt1 ?_
 exact⟨rfl,hL.below⟩
theorem sound_ok (p:Pg) (is:Nat→Ins) (ins:Sl) (xs:Nat→Int) (fuel:Nat) (w:World) (hn:p.n≤9223372036854775807) (hc:CodeAt w p is) (hin:InputsAt w ins xs) (h0:checkProg p is=0) (hp:Pows w) (hfu:fuel≤5000):
  Calls Tryz.prog 6 #[p.v,ins.v,.int .i64 fuel] w fun q w'=>q=.returned (.bool true)∧Below w.heap.size w w':=by
 have hs:=(prog_right h0).1
 obtain⟨nv,hv⟩:∃ nv:Nat,p.vars=nv:=⟨p.vars.toNat,by have:=hs.v1;omega⟩
 obtain⟨nf,hf⟩:∃ nf:Nat,p.fields=nf:=⟨p.fields.toNat,by have:=hs.f1;omega⟩
 have hrun:=fun w' (hb:Below w.heap.size w w')=>runRun_ok p is ins xs fuel nv w' hn (hc.grow hb) h0 ⟨hin.1.grow hb,hin.2⟩ (hp.grow hb) hv (by have:=hs.v2;omega) hfu
 have HPW:=Lib.hid hp
 have HSV:=Lib.hid (fun w' (hb:Below w.heap.size w w')=>solve_ok p is nv nf hv hf w' hn (hc.grow hb) h0)
 have HFF:=Lib.hid (fun (k:Nat) (s:Sl) (hE:EndsN is p.n (beginL nv nf p.n) k) (w1:World) (hb1:Below w.heap.size w w1) (hx:PicsL w1 s (solN is p.n (beginL nv nf p.n) (k+1))) w' (hb:Below w1.heap.size w1 w')=>(show Calls Tryz.prog 27 #[p.v,.slice s.p s.n s.cap] w' fun e w2=>e=.returned (.tuple #[.bool true,.int .i64 0])∧Below w'.heap.size w' w2 by
  have h1:=sol_fits h0 hv hf hE
  have h2:=fits_ok p is nv nf hv hf s _ h0 w' (hc.grow (hb1.trans (hb.mono hb1.size))) (hx.grow hb) (hx.n.trans h1.1.len) h1.1.r
  rw[h1.2]at h2
  exact h2))
 have hkp:=fun (k:Nat) (hE:EndsN is p.n (beginL nv nf p.n) k)=>fit_shows (ins:=ins) (xs:=xs) hv hf h0 (sol_fits h0 hv hf hE).1.r (sol_fits h0 hv hf hE).2 hfu
 generalize outS (runN p is ins xs fuel (beginS nv) 0).1=t at hkp hrun
 generalize (runN p is ins xs fuel (beginS nv) 0).2=steps at hrun
 have HSHOW:=Lib.hid (fun (k:Nat) (s:Sl) (hE:EndsN is p.n (beginL nv nf p.n) k) (w1:World) (hb1:Below w.heap.size w w1) (hx:PicsL w1 s (solN is p.n (beginL nv nf p.n) (k+1)))=>(show ∃ (b o m:Nat) (y:Pv),s.p=some ⟨b,o,none⟩∧t.at'=m∧m<s.n∧ReadsAt Tryz.prog 54 w1 b (o+m*3) (.agg y.cells.toArray)∧
   ∀ (r:Rn) (w2:World) (hb2:Below w1.heap.size w1 w2) (hri:RunIs w2 r t) w' (hb:Below w2.heap.size w2 w'),Calls Tryz.prog 22 #[p.v,y.v,r.v] w' fun q w3=>q=.returned (.tuple #[.bool true,.int .i64 0])∧Below w'.heap.size w' w3 by
  obtain⟨m,hg,hst,he,hsh⟩:=hkp k hE
  have hr:=(sol_fits h0 hv hf hE).1
  obtain⟨k',hk⟩:∃ k' : Nat,t.at'=k':=⟨t.at'.toNat,by have:=hg.r.a;omega⟩
  have hkn:k'≤p.n:=by have:=hg.r.a;omega
  rw[hk,Int.toNat_natCast]at hsh
  have hln:s.n=p.n+1:=hx.n.trans hr.len
  obtain⟨ys,hx1,hpc⟩:=hx.ex
  obtain⟨b,o,hpp,hcc⟩:=hx1.ex
  refine⟨b,o,k',ys k',hpp (by omega),hk,by omega,ReadsAt.agg (P:=Tryz.prog) tPic (hcc k' (by omega)).1 (hcc k' (by omega)).2 rfl,fun r w2 hb2 hri w' hb=>?_⟩
  have hb3:Below w1.heap.size w1 w':=hb2.trans (hb.mono hb2.size)
  have hb4:Below w.heap.size w w':=hb1.trans (hb3.mono hb1.size)
  obtain⟨ths,hra,hth⟩:=hri.ex
  have hok:=showOk_of (OkPd.of (hr.r k' hkn) hsh.n) hg.r hst
  have h:=pHolds_ok p is (ys k') _ r t ths w' hn (hc.grow hb4) ((hpc k' (by omega)).grow hb3) (hra.l.grow hb) (hri.grow hb) (cp1_of h0 (hr.r k' hkn)) (right_is hg.r hst he hri.a hri.t hri.e hri.nv hri.nt hth) (fun _=>hok)
  rw[shows_iff.2 hsh]at h
  exact h))
 have HRUN:=Lib.hid hrun
 clear hp h0 hc hn hfu hs hv hf hin hkp hrun
 obtain⟨pv,pf,pp,pn,pc⟩:=p
 obtain⟨ip,im,ic⟩:=ins
 dsimp only at *
 have hL:=Loc.start w
 go_enter Tryz.func6,Tryz.ntmps6
 go_upto_region 9 with(first|(with_reducible first|refine lld hL ?_|((first|refine lbx hL ?_|refine lal hL ?_|refine lbs hL ?_);clear hL;intro bl w1 hL)|(refine lst' hL ?_;clear hL;intro w1 hL))|(go_at_call 25;refine(solveBegun_any _).mono ?_;rintro e w1 ⟨rfl,hb⟩;replace hL:=hL.grow hb;clear hb;dsimp only)|(go_at_call 21;refine(picBegun_any _).mono ?_;rintro e w1 ⟨rfl,hb⟩;replace hL:=hL.grow hb;clear hb;dsimp only)|(go_at_call 15;refine(runBegun_any _ (HPW.out.grow hL.below)).mono ?_;rintro e w1 ⟨rfl,hb⟩;replace hL:=hL.grow hb;clear hb;dsimp only)|(go_at_call 26;refine(HSV.out _ hL.below).mono ?_;rintro e w1 ⟨k,⟨sp,sn,sc⟩,rfl,hE,hG⟩;have HFI:=Lib.hid (HFF.out k ⟨sp,sn,sc⟩ hE w1 ((hL.below).trans ((gotPs_below hG).mono hL.below.size)) hG.is);have HEE:=Lib.hid hE;have HB1:=Lib.hid (Below.refl w1.heap.size w1);replace hL:=hL.picsL hG;clear hG hE;dsimp only)|(go_at_call 27;refine(HFI.out _ HB1.out).mono ?_;rintro e w1 ⟨rfl,hb3⟩;replace hL:=hL.grow hb3;clear hb3;dsimp only))
 have hpl:=hL.get (S:=fun w=>PicsL w ⟨sp,sn,sc⟩ (solN is pn (beginL nv nf pn) (k+1))) cMm
 obtain⟨b,o,m,⟨yn,⟨yp,yvn,yc⟩,⟨yfp,yfn,yfc⟩⟩,hq,hm,hmn,hrd,hho⟩:=HSHOW.out k ⟨sp,sn,sc⟩ HEE.out w1 hL.below hpl
 dsimp only at hq hmn
 subst hq
 have HRD:=Lib.hid hrd
 have HHO:=Lib.hid hho
 have HAT:=Lib.hid (fun (r:Rn) ts Rv Rt Rl Rf (h:RowsR r t ts Rv Rt Rl Rf)=>(show r.at'=m from h.a.trans hm))
 obtain⟨wp,hwp⟩:∃ x,x=w1:=⟨_,rfl⟩
 subst hwp
 have HB0:=Lib.hid hL.below
 have HRP:=Lib.hid (hL.readsG (Tv:=27) (off:=0) (v:=Pg.v ⟨pv,pf,pp,pn,pc⟩) InL.head (Reads.agg tProg rfl rfl))
 have HMN:=Lib.hid hmn
 clear hpl hrd hho hm hmn HSHOW hL HFI HB1 HFF HSV
 have hL:=Loc.start wp
 go_upto_region 12 with(first|(with_reducible refine ldB HRP.out hL ?_)|(with_reducible first|refine lld hL ?_|((first|refine lbx hL ?_|refine lal hL ?_|refine lbs hL ?_);clear hL;intro bl w1 hL)|(refine lst' hL ?_;clear hL;intro w1 hL))|(go_at_call 18;refine(HRUN.out _ (HB0.out.trans (hL.below.mono HB0.out.size))).mono ?_;rintro e w3 ⟨⟨ra,⟨rvp,rvn,rvc⟩,⟨rtp,rtn,rtc⟩,rk,⟨rlp,rln,rlc⟩,re⟩,ts,Rv,Rt,Rl,Rf,rfl,hR,ho,hb3⟩;obtain rfl:=(show ra=_ from HAT.out _ _ _ _ _ _ hR);replace hL:=hL.gainTail hb3 ho;simp only[List.nil_append]at hL;clear ho hb3;(try dsimp only)))
 have HRI:=Lib.hid (hR.is (hL.ownOf (by repeat (first|exact List.Sublist.refl _|apply List.Sublist.cons))))
 have HB:=Lib.hid hL.below
 clear hR
 obtain⟨wq,hwq⟩:∃ x,x=w1:=⟨_,rfl⟩
 subst hwq
 have hlt:=HMN.out
 refine draw_begin [58,59,60,61,62,63,64,65,57,66,67,13,9] ?_
 apply draw_val
 ·intro g w hb u;replace hL:=hL.grow hb;clear u;simp only[fillD,fLa,fLb,sTa,sTb]
  refine loc_loadB HRP.out hL rfl rfl ?_
  exact cY
 simp only[apN,apC]
 refine dv0 ?_
 refine dv0 ?_
 refine dv1 2 ?_
 refine dv2 1 3 ?_
 apply draw_val
 ·intro g w hb u;replace hL:=hL.grow hb;have d4:=yv u 4;clear u;simp only[fillD,fLa,fLb,sTa,sTb];simp only[d4]
  refine loc_loadB HRD.out hL rfl rfl ?_
  exact cY
 simp only[apN,apC]
 refine dv0 ?_
 apply draw_val
 ·intro g w hb u;replace hL:=hL.grow hb;have d0:=yv u 0;have d5:=yv u 5;have d6:=yv u 6;clear u;simp only[fillD,fLa,fLb,sTa,sTb];simp only[d0,d5,d6]
  go_wp2_with (go_at_call 22;refine(HHO.out _ _ HB.out HRI.out _ hb).mono ?_;rintro e w4 ⟨rfl,hb4⟩;dsimp only)
  exact⟨rfl,_,rfl,hb4,rfl⟩
 simp only[apN,apC]
 refine dv1 7 ?_
 refine dv1 8 ?_
 refine dv1 8 ?_
 refine dv1 9 ?_
 refine dv1 10 ?_
 refine dnd hL ?_
 clear hL;intro w2 hL;simp only[fillX,sTa,sTb]
 go_wp2_with (first|(with_reducible first|refine lld hL ?_|((first|refine lbx hL ?_|refine lal hL ?_|refine lbs hL ?_);clear hL;intro bl w1 hL)|(refine lst' hL ?_;clear hL;intro w1 hL)))
 (try simp only[Exit.inBlock,Exit.then]);refine rt1 ?_
 exact⟨rfl,HB0.out.trans (hL.below.mono HB0.out.size)⟩
theorem sound_any (p:Pg) (is:Nat→Ins) (ins:Sl) (xs:Nat→Int) (fuel:Int) (w:World) (hn:p.n≤9223372036854775807) (hc:CodeAt w p is) (hin:InputsAt w ins xs) (hp:Pows w):
  Calls Tryz.prog 6 #[p.v,ins.v,.int .i64 fuel] w fun q w'=>q=.returned (.bool true)∧Below w.heap.size w w':=by
 by_cases h0:checkProg p is=0
 ·by_cases hfu:fuel<0∨5000<fuel
  ·exact sound_fuel p is ins fuel w hn hc h0 hp hfu
  ·obtain⟨f,rfl⟩:∃ f:Nat,fuel=f:=⟨fuel.toNat,by omega⟩
   exact sound_ok p is ins xs f w hn hc hin h0 hp (by omega)
 ·exact sound_err p is ins fuel w hn hc h0 hp
end Go.Proofs.YteoilpcbekijlaaGreatDoor
