/-  -/
import Derived.Test.YteoilpcbekijlaaGreatDoorRunLaw0
import Derived.Test.YteoilpcbekijlaaGreatDoorSoundF
import Derived.Test.YteoilpcbekijlaaGreatDoorPicW
import Derived.Test.YteoilpcbekijlaaGreatDoorRunBegun
set_option linter.unusedSimpArgs false
set_option linter.unusedVariables false
set_option maxRecDepth 100000
set_option maxHeartbeats 2000000
namespace Go.Proofs.YteoilpcbekijlaaGreatDoor
open Go.RowKit
theorem runRun_fuel (p:Pg) (is:Nat→Ins) (ins:Sl) (fuel:Int) (w:World) (hn:p.n≤9223372036854775807) (hc:CodeAt w p is) (hP:checkProg p is=0) (hf:fuel<0∨5000<fuel):
  Calls Tryz.prog 18 #[p.v,ins.v,.int .i64 fuel] w fun e w'=>e=.returned (.tuple #[zeroR.v,.int .i64 0,.int .i64 3])∧Below w.heap.size w w':=by
 have hk:=fun w' (hb:Below w.heap.size w w')=>codeCheck_any p is w' (hc.grow hb) hn
 rw[hP]at hk
 have HK:=Lib.hid hk
 clear hk hP hc hn
 by_cases h0:fuel<0
 ·have c0:decide (fuel<0)=true:=decide_eq_true h0
  clear hf h0
  have hL:=Loc.start w
  go_enter Tryz.func18,Tryz.ntmps18
  go_wp2_with (first|(with_reducible first|refine lld hL ?_|((first|refine lbx hL ?_|refine lal hL ?_|refine lbs hL ?_);clear hL;intro bl w1 hL)|(refine lst' hL ?_;clear hL;intro w1 hL))|(go_at_call 48;refine(HK.out _ hL.below).mono ?_;rintro e w1 ⟨rfl,hb⟩;replace hL:=hL.grow hb;clear hb;dsimp only))
  (try simp only[Exit.inBlock,Exit.then]);refine rt3 ?_
  exact⟨rfl,hL.below⟩
 ·have c0:decide (fuel<0)=false:=decide_eq_false h0
  have c1:decide ((5000:Int)<fuel)=true:=decide_eq_true (by omega)
  clear hf h0
  have hL:=Loc.start w
  go_enter Tryz.func18,Tryz.ntmps18
  go_wp2_with (first|(with_reducible first|refine lld hL ?_|((first|refine lbx hL ?_|refine lal hL ?_|refine lbs hL ?_);clear hL;intro bl w1 hL)|(refine lst' hL ?_;clear hL;intro w1 hL))|(go_at_call 48;refine(HK.out _ hL.below).mono ?_;rintro e w1 ⟨rfl,hb⟩;replace hL:=hL.grow hb;clear hb;dsimp only))
  (try simp only[Exit.inBlock,Exit.then]);refine rt3 ?_
  exact⟨rfl,hL.below⟩
end Go.Proofs.YteoilpcbekijlaaGreatDoor
set_option linter.unusedSimpArgs false
set_option linter.unusedVariables false
set_option maxRecDepth 100000
set_option maxHeartbeats 4000000
namespace Go.Proofs.YteoilpcbekijlaaGreatDoor
open Go.RowKit
theorem fits_any (p:Pg) (is:Nat→Ins) (s:Sl) (l:List Pd) (w:World) (hn:p.n≤9223372036854775807) (hc:CodeAt w p is) (hx:PicsL w s l):
  ∃ (b:Bool) (c:Int),(∀ w',Below w.heap.size w w'→Calls Tryz.prog 27 #[p.v,.slice s.p s.n s.cap] w' fun e w2=>e=.returned (.tuple #[.bool b,.int .i64 c])∧Below w'.heap.size w' w2)∧
   (c=0→b=true→checkProg p is=0∧s.n=p.n+1∧(∀ k,k≤p.n→rightP p is (l.getD k nonePd)=0)∧∀ nv nf:Nat,p.vars=nv→p.fields=nf→fitsS is p.n l (firstP nv nf p.n)=true):=by
 by_cases h0:checkProg p is=0
 ·by_cases h1:s.n=p.n+1
  ·by_cases h2:rightsE p is l=0
   ·have hr:∀ k,k≤p.n→rightP p is (l.getD k nonePd)=0:=fun k hk=>rights_of h2 k (by have:=hx.n;omega)
    have hs:=(prog_right h0).1
    obtain⟨nv,hv⟩:∃ nv:Nat,p.vars=nv:=⟨p.vars.toNat,by have:=hs.v1;omega⟩
    obtain⟨nf,hf⟩:∃ nf:Nat,p.fields=nf:=⟨p.fields.toNat,by have:=hs.f1;omega⟩
    refine⟨_,0,fun w' hb=>fits_ok p is nv nf hv hf s l h0 w' (hc.grow hb) (hx.grow hb) h1 hr,fun _ h=>⟨h0,h1,hr,fun a b ha hb=>?_⟩⟩
    obtain rfl:a=nv:=by omega
    obtain rfl:b=nf:=by omega
    exact h
   ·exact⟨false,_,fun w' hb=>fits_pic p is s l w' hn (hc.grow hb) (hx.grow hb) h0 h1 h2,fun h=>absurd h h2⟩
  ·exact⟨false,_,fun w' hb=>fits_form p is s w' hn (hc.grow hb) h0 h1,fun h=>by cases h⟩
 ·exact⟨false,_,fun w' hb=>fits_prog p is s w' hn (hc.grow hb) h0,fun h=>absurd h h0⟩
theorem fitting_no (p:Pg) (s:Sl) (ins:Sl) (fuel:Int) (w:World) (b:Bool) (c:Int) (hF:∀ w',Below w.heap.size w w'→Calls Tryz.prog 27 #[p.v,.slice s.p s.n s.cap] w' fun e w2=>e=.returned (.tuple #[.bool b,.int .i64 c])∧Below w'.heap.size w' w2) (hp:Pows w) (h:¬ (c=0∧b=true)):
  Calls Tryz.prog 7 #[p.v,.slice s.p s.n s.cap,ins.v,.int .i64 fuel] w fun q w'=>q=.returned (.bool true)∧Below w.heap.size w w':=by
 have HPW:=Lib.hid hp
 have HF:=Lib.hid hF
 have hcb:(c != 0)=true∨((c != 0)=false∧b=false):=by
  by_cases h1:c=0
  ·right
   refine⟨by simp[h1],?_⟩
   cases b with
   | false=>rfl
   | true=>exact absurd ⟨h1,rfl⟩ h
  ·left;simpa using h1
 clear hF hp h
 obtain⟨pv,pf,pp,pn,pc⟩:=p
 obtain⟨tp,tn,tc⟩:=s
 obtain⟨ip,im,ic⟩:=ins
 dsimp only at *
 have hL:=Loc.start w
 go_enter Tryz.func7,Tryz.ntmps7
 rcases hcb with hc|⟨hc,rfl⟩
 ·go_wp2_with (first|(with_reducible first|refine lld hL ?_|((first|refine lbx hL ?_|refine lal hL ?_|refine lbs hL ?_);clear hL;intro bl w1 hL)|(refine lst' hL ?_;clear hL;intro w1 hL))|(go_at_call 25;refine(solveBegun_any _).mono ?_;rintro e w1 ⟨rfl,hb⟩;replace hL:=hL.grow hb;clear hb;dsimp only)|(go_at_call 21;refine(picBegun_any _).mono ?_;rintro e w1 ⟨rfl,hb⟩;replace hL:=hL.grow hb;clear hb;dsimp only)|(go_at_call 15;refine(runBegun_any _ (HPW.out.grow hL.below)).mono ?_;rintro e w1 ⟨rfl,hb⟩;replace hL:=hL.grow hb;clear hb;dsimp only)|(go_at_call 27;refine(HF.out _ hL.below).mono ?_;rintro e w1 ⟨rfl,hb⟩;replace hL:=hL.grow hb;clear hb;dsimp only))
  (try simp only[Exit.inBlock,Exit.then]);refine rt1 ?_
  exact⟨rfl,hL.below⟩
 ·go_wp2_with (first|(with_reducible first|refine lld hL ?_|((first|refine lbx hL ?_|refine lal hL ?_|refine lbs hL ?_);clear hL;intro bl w1 hL)|(refine lst' hL ?_;clear hL;intro w1 hL))|(go_at_call 25;refine(solveBegun_any _).mono ?_;rintro e w1 ⟨rfl,hb⟩;replace hL:=hL.grow hb;clear hb;dsimp only)|(go_at_call 21;refine(picBegun_any _).mono ?_;rintro e w1 ⟨rfl,hb⟩;replace hL:=hL.grow hb;clear hb;dsimp only)|(go_at_call 15;refine(runBegun_any _ (HPW.out.grow hL.below)).mono ?_;rintro e w1 ⟨rfl,hb⟩;replace hL:=hL.grow hb;clear hb;dsimp only)|(go_at_call 27;refine(HF.out _ hL.below).mono ?_;rintro e w1 ⟨rfl,hb⟩;replace hL:=hL.grow hb;clear hb;dsimp only))
  (try simp only[Exit.inBlock,Exit.then]);refine rt1 ?_
  exact⟨rfl,hL.below⟩
abbrev FitsTrue (p:Pg) (s:Sl) (w:World):Prop:=∀ w',Below w.heap.size w w'→Calls Tryz.prog 27 #[p.v,.slice s.p s.n s.cap] w' fun e w2=>e=.returned (.tuple #[.bool true,.int .i64 0])∧Below w'.heap.size w' w2
theorem fitting_fuel (p:Pg) (is:Nat→Ins) (s:Sl) (ins:Sl) (fuel:Int) (w:World) (hn:p.n≤9223372036854775807) (hc:CodeAt w p is) (h0:checkProg p is=0) (hF:FitsTrue p s w) (hp:Pows w) (hfu:fuel<0∨5000<fuel):
  Calls Tryz.prog 7 #[p.v,.slice s.p s.n s.cap,ins.v,.int .i64 fuel] w fun q w'=>q=.returned (.bool true)∧Below w.heap.size w w':=by
 have HPW:=Lib.hid hp
 have HF:=Lib.hid hF
 have HR:=Lib.hid (fun w' (hb:Below w.heap.size w w')=>runRun_fuel p is ins fuel w' hn (hc.grow hb) h0 hfu)
 clear hF hp h0 hc hn hfu
 obtain⟨pv,pf,pp,pn,pc⟩:=p
 obtain⟨tp,tn,tc⟩:=s
 obtain⟨ip,im,ic⟩:=ins
 dsimp only at *
 have hL:=Loc.start w
 go_enter Tryz.func7,Tryz.ntmps7
 go_wp2_with (first|(with_reducible first|refine lld hL ?_|((first|refine lbx hL ?_|refine lal hL ?_|refine lbs hL ?_);clear hL;intro bl w1 hL)|(refine lst' hL ?_;clear hL;intro w1 hL))|(go_at_call 25;refine(solveBegun_any _).mono ?_;rintro e w1 ⟨rfl,hb⟩;replace hL:=hL.grow hb;clear hb;dsimp only)|(go_at_call 21;refine(picBegun_any _).mono ?_;rintro e w1 ⟨rfl,hb⟩;replace hL:=hL.grow hb;clear hb;dsimp only)|(go_at_call 15;refine(runBegun_any _ (HPW.out.grow hL.below)).mono ?_;rintro e w1 ⟨rfl,hb⟩;replace hL:=hL.grow hb;clear hb;dsimp only)|(go_at_call 27;refine(HF.out _ hL.below).mono ?_;rintro e w1 ⟨rfl,hb⟩;replace hL:=hL.grow hb;clear hb;dsimp only)|(go_at_call 18;refine(HR.out _ hL.below).mono ?_;rintro e w1 ⟨rfl,hb⟩;replace hL:=hL.grow hb;clear hb;dsimp only))
 (try simp only[Exit.inBlock,Exit.then]);refine rt1 ?_
 exact⟨rfl,hL.below⟩
theorem fitting_ok (p:Pg) (is:Nat→Ins) (s:Sl) (l:List Pd) (ins:Sl) (xs:Nat→Int) (fuel:Nat) (w:World) (hn:p.n≤9223372036854775807) (hc:CodeAt w p is) (hx:PicsL w s l) (hin:InputsAt w ins xs) (h0:checkProg p is=0) (h1:s.n=p.n+1) (hr:∀ k,k≤p.n→rightP p is (l.getD k nonePd)=0) (hfit:∀ nv nf:Nat,p.vars=nv→p.fields=nf→fitsS is p.n l (firstP nv nf p.n)=true) (hF:FitsTrue p s w) (hp:Pows w) (hfu:fuel≤5000):
  Calls Tryz.prog 7 #[p.v,.slice s.p s.n s.cap,ins.v,.int .i64 fuel] w fun q w'=>q=.returned (.bool true)∧Below w.heap.size w w':=by
 have hs:=(prog_right h0).1
 obtain⟨nv,hv⟩:∃ nv:Nat,p.vars=nv:=⟨p.vars.toNat,by have:=hs.v1;omega⟩
 obtain⟨nf,hf⟩:∃ nf:Nat,p.fields=nf:=⟨p.fields.toNat,by have:=hs.f1;omega⟩
 obtain⟨m,hK⟩:=fit_shows (ins:=ins) (xs:=xs) hv hf h0 hr (hfit nv nf hv hf) hfu
 have hrun:=fun w' (hb:Below w.heap.size w w')=>runRun_ok p is ins xs fuel nv w' hn (hc.grow hb) h0 ⟨hin.1.grow hb,hin.2⟩ (hp.grow hb) hv (by have:=hs.v2;omega) hfu
 generalize outS (runN p is ins xs fuel (beginS nv) 0).1=t at hK hrun
 generalize (runN p is ins xs fuel (beginS nv) 0).2=steps at hrun
 obtain⟨hg,hst,he,hsh⟩:=hK
 obtain⟨k,hk⟩:∃ k:Nat,t.at'=k:=⟨t.at'.toNat,by have:=hg.r.a;omega⟩
 have hkn:k≤p.n:=by have:=hg.r.a;omega
 rw[hk,Int.toNat_natCast]at hsh
 obtain⟨ys,hx1,hpc⟩:=hx.ex
 obtain⟨b,o,hpp,hcc⟩:=hx1.ex
 have hrd:=ReadsAt.agg (P:=Tryz.prog) tPic (hcc k (by omega)).1 (hcc k (by omega)).2 rfl
 have hho:=fun (r:Rn) (w1:World) (hb1:Below w.heap.size w w1) (hri:RunIs w1 r t) w' (hb:Below w1.heap.size w1 w')=>(show Calls Tryz.prog 22 #[p.v,(ys k).v,r.v] w' fun q w2=>q=.returned (.tuple #[.bool true,.int .i64 0])∧Below w'.heap.size w' w2 by
  have hb2:Below w.heap.size w w':=hb1.trans (hb.mono hb1.size)
  obtain⟨ths,hra,hth⟩:=hri.ex
  have hok:=showOk_of (OkPd.of (hr k hkn) hsh.n) hg.r hst
  have h:=pHolds_ok p is (ys k) (l.getD k nonePd) r t ths w' hn (hc.grow hb2) ((hpc k (by omega)).grow hb2) (hra.l.grow hb) (hri.grow hb) (cp1_of h0 (hr k hkn)) (right_is hg.r hst he hri.a hri.t hri.e hri.nv hri.nt hth) (fun _=>hok)
  rw[shows_iff.2 hsh]at h
  exact h)
 have hat:∀ (r:Rn) ts Rv Rt Rl Rf,RowsR r t ts Rv Rt Rl Rf→r.at'=k:=fun r ts Rv Rt Rl Rf h=>h.a.trans hk
 have HPW:=Lib.hid hp
 have HF:=Lib.hid hF
 have HRUN:=Lib.hid hrun
 have hpq:s.p=some ⟨b,o,none⟩:=hpp (by omega)
 generalize ys k=y at hrd hho
 have HHO:=Lib.hid hho
 have HRD:=Lib.hid hrd
 have HAT:=Lib.hid hat
 have HLT:=Lib.hid (show k<s.n by omega)
 clear hF hp h0 hc hn hfu hrun hho hrd hat hx hx1 hpc hpp hcc hsh hst he hg hkn hk hr hfit hin h1 hs hv hf
 obtain⟨pv,pf,pp,pn,pc⟩:=p
 obtain⟨tp,tn,tc⟩:=s
 obtain⟨ip,im,ic⟩:=ins
 dsimp only at hpq
 subst hpq
 obtain⟨yn,⟨yp,yvn,yc⟩,⟨yfp,yfn,yfc⟩⟩:=y
 dsimp only at *
 have hL:=Loc.start w
 go_enter Tryz.func7,Tryz.ntmps7
 go_upto_region 9 with(first|(with_reducible first|refine lld hL ?_|((first|refine lbx hL ?_|refine lal hL ?_|refine lbs hL ?_);clear hL;intro bl w1 hL)|(refine lst' hL ?_;clear hL;intro w1 hL))|(go_at_call 25;refine(solveBegun_any _).mono ?_;rintro e w1 ⟨rfl,hb⟩;replace hL:=hL.grow hb;clear hb;dsimp only)|(go_at_call 21;refine(picBegun_any _).mono ?_;rintro e w1 ⟨rfl,hb⟩;replace hL:=hL.grow hb;clear hb;dsimp only)|(go_at_call 15;refine(runBegun_any _ (HPW.out.grow hL.below)).mono ?_;rintro e w1 ⟨rfl,hb⟩;replace hL:=hL.grow hb;clear hb;dsimp only)|(go_at_call 27;refine(HF.out _ hL.below).mono ?_;rintro e w1 ⟨rfl,hb⟩;replace hL:=hL.grow hb;clear hb;dsimp only)|(go_at_call 18;refine(HRUN.out _ hL.below).mono ?_;rintro e w3 ⟨⟨ra,⟨rvp,rvn,rvc⟩,⟨rtp,rtn,rtc⟩,rk,⟨rlp,rln,rlc⟩,re⟩,ts,Rv,Rt,Rl,Rf,rfl,hR,ho,hb3⟩;obtain rfl:=(show ra=_ from HAT.out _ _ _ _ _ _ hR);replace hL:=hL.gainTail hb3 ho;simp only[List.cons_append,List.nil_append]at hL;clear ho hb3;(try dsimp only)))
 have HRI:=Lib.hid (hR.is (hL.ownOf (by repeat (first|exact List.Sublist.refl _|apply List.Sublist.cons))))
 have HB:=Lib.hid hL.below
 clear hR
 obtain⟨wq,hwq⟩:∃ x,x=w1:=⟨_,rfl⟩
 subst hwq
 have hlt:=HLT.out
 refine draw_begin [47,48,49,50,51,52,53,54,46,55,56,13,10] ?_
 refine dv0 ?_
 refine dv0 ?_
 refine dv0 ?_
 refine dv1 2 ?_
 refine dv2 1 3 ?_
 apply draw_val
 ·intro g w hb v;replace hL:=hL.grow hb;have d4:=yv v 4;clear v;simp only[fillD,fLa,fLb,sTa,sTb];simp only[d4]
  refine loc_loadB HRD.out hL rfl rfl ?_
  exact cY
 simp only[apN,apC]
 refine dv0 ?_
 apply draw_val
 ·intro g w hb v;replace hL:=hL.grow hb;have d0:=yv v 0;have d5:=yv v 5;have d6:=yv v 6;clear v;simp only[fillD,fLa,fLb,sTa,sTb];simp only[d0,d5,d6]
  go_wp2_with (go_at_call 22;refine(HHO.out _ _ HB.out HRI.out _ hb).mono ?_;rintro e w4 ⟨rfl,hb4⟩;dsimp only)
  exact⟨rfl,_,rfl,hb4,rfl⟩
 simp only[apN,apC]
 refine dv1 7 ?_
 refine dv1 8 ?_
 refine dv1 8 ?_
 refine dv1 9 ?_
 refine dv1 10 ?_
 refine dnd hL ?_
 clear hL;intro w2 hL;simp only[fillX,sTa,sTb]
 go_wp2_with (first|(with_reducible first|refine lld hL ?_|((first|refine lbx hL ?_|refine lal hL ?_|refine lbs hL ?_);clear hL;intro bl w1 hL)|(refine lst' hL ?_;clear hL;intro w1 hL)))
 (try simp only[Exit.inBlock,Exit.then]);refine rt1 ?_
 exact⟨rfl,hL.below⟩
theorem fitting_any (p:Pg) (is:Nat→Ins) (s:Sl) (l:List Pd) (ins:Sl) (xs:Nat→Int) (fuel:Int) (w:World) (hn:p.n≤9223372036854775807) (hc:CodeAt w p is) (hx:PicsL w s l) (hin:InputsAt w ins xs) (hp:Pows w):
  Calls Tryz.prog 7 #[p.v,.slice s.p s.n s.cap,ins.v,.int .i64 fuel] w fun q w'=>q=.returned (.bool true)∧Below w.heap.size w w':=by
 obtain⟨b,c,hF,hT⟩:=fits_any p is s l w hn hc hx
 by_cases h:c=0∧b=true
 ·obtain⟨rfl,rfl⟩:=h
  obtain⟨h0,h1,hr,hfit⟩:=hT rfl rfl
  by_cases hfu:fuel<0∨5000<fuel
  ·exact fitting_fuel p is s ins fuel w hn hc h0 hF hp hfu
  ·obtain⟨f,rfl⟩:∃ f:Nat,fuel=f:=⟨fuel.toNat,by omega⟩
   exact fitting_ok p is s l ins xs f w hn hc hx hin h0 h1 hr hfit hF hp (by omega)
 ·exact fitting_no p s ins fuel w b c hF hp h
end Go.Proofs.YteoilpcbekijlaaGreatDoor
