import Derived.Test.YtajgekeiflblnaaGreatSolI
import Derived.Test.YtajgekeiflblnaaGreatRefSolC
import Derived.Test.YtajgekeiflblnaaGreatRefSolD
import Derived.Test.YtajgekeiflblnaaGreatRpa
set_option linter.unusedSimpArgs false
set_option linter.unusedVariables false
set_option maxRecDepth 100000
set_option maxHeartbeats 4000000
namespace Go.Proofs.YtajgekeiflblnaaGreat
open Go.RowKit
structure SolveIn (w:World) (p:Pg) (is:Nat→Ins) (s:Sl) (l:List Pd):Prop where
 n:p.n≤9223372036854775807
 c:CodeAt w p is
 x:PicsL w s l
theorem rchecks_any {p:Pg}{is:Nat→Ins}{s:Sl}{l:List Pd}{w:World}(hi:SolveIn w p is s l) (w' : World) (hb:Below w.heap.size w w'):
  Calls Tryz.prog 6 #[p.v,.slice s.p s.n s.cap] w' fun e w2=>e=.returned (.int .i64 (errs (checkProg p is) (fun k=>rightP p is (l.getD k nonePd)) l.length))∧Below w'.heap.size w' w2:=by
 obtain⟨xs,hx⟩:=(hi.x.grow hb).at'
 have h:=rCheckPictures_any p is s.p s.n s.cap xs (fun k=>l.getD k nonePd) w' hi.n (hi.c.grow hb) hx
 rw[show checkPs p is (fun k=>l.getD k nonePd) s.n=errs (checkProg p is) (fun k=>rightP p is (l.getD k nonePd)) l.length by rw[hi.x.n];rfl]at h
 exact h
theorem psolve_a (p:Pg) (is:Nat→Ins) (s:Sl) (l:List Pd) (w:World) (hi:SolveIn w p is s l) (h0:checkProg p is≠0):
  Calls Tryz.prog 4 #[p.v,.slice s.p s.n s.cap] w fun q w'=>q=.returned (.bool true)∧Below w.heap.size w w':=by
 have HSB:=Lib.hid (fun w'=>solveBegun_any w')
 obtain⟨hn,hc,hx⟩:=id hi
 have hcp:=fun w' (hb:Below w.heap.size w w')=>rCheckProgram_any p is w' (hc.grow hb) hn
 have HSV:=Lib.hid (fun w' (hb:Below w.heap.size w w')=>solve_err p is w' hn (hc.grow hb) h0)
 have HFI:=Lib.hid (fun w' (hb:Below w.heap.size w w')=>fits_prog p is s w' hn (hc.grow hb) h0)
 have hcc:(checkProg p is==0)=false:=by simpa using h0
 generalize checkProg p is=c at *
 have HCP:=Lib.hid hcp
 clear hcp hc hx hi h0 hn
 obtain⟨pv,pf,pp,pn,pc⟩:=p
 obtain⟨tp,tn,tc⟩:=s
 dsimp only at *
 have hL:=Loc.start w
 go_enter Tryz.func4,Tryz.ntmps4
 go_upto_region 13 with(first|(refine loc_build0 hL rfl sPics ?_;clear hL;intro p0 w1 hL)|(go_at_call 10;refine(HSV.out _ hL.below).mono ?_;rintro e w1 ⟨rfl,hb⟩;replace hL:=hL.grow hb;clear hb;dsimp only)|(go_at_call 11;refine(HFI.out _ hL.below).mono ?_;rintro e w1 ⟨rfl,hb⟩;replace hL:=hL.grow hb;clear hb;dsimp only)|(go_at_call 12;refine(HCP.out _ hL.below).mono ?_;rintro e w1 ⟨rfl,hb⟩;replace hL:=hL.grow hb;clear hb;dsimp only)|(with_reducible first|refine lld hL ?_|((first|refine lbx hL ?_|refine lal hL ?_|refine lbs hL ?_);clear hL;intro bl w1 hL)|(refine lst' hL ?_;clear hL;intro w1 hL)))
 have HSM:=Lib.hid (fun w'=>(show Calls Tryz.prog 16 #[.slice none 0 0,.slice p0 0 0] w' _ from samePics_any ⟨none,0,0⟩ ⟨p0,0,0⟩ [] w' (PicsL.zero w' _ _) (PicsL.zero w' _ _)))
 obtain⟨wr,hwr⟩:∃ x,x=w1:=⟨_,rfl⟩
 subst hwr
 refine seq_begin [59,60,61,62,63,64,65,66,67,68,69,70,71,72,73,74,75,76,77,78,79,80,81,82,83,84,4] ?_
 apply draw_val
 ·intro g w hb v;replace hL:=hL.grow hb;clear v;simp only[fillD,fLa,fLb,sTa,sTb]
  go_wp2_with (go_at_call 15;refine(HSB.out _).mono ?_;rintro e w3 ⟨rfl,hb3⟩;dsimp only)
  exact⟨rfl,_,rfl,(by assumption),rfl⟩
 simp only[apN,apC]
 refine dv1 0 ?_
 refine dv1 1 ?_
 refine dv1 1 ?_
 refine dv3 2 3 1 ?_
 apply draw_val
 ·intro g w hb v;replace hL:=hL.grow hb;have d1:=yv v 1;have d4:=yv v 4;clear v;simp only[fillD,fLa,fLb,sTa,sTb];simp only[d1,d4]
  go_wp2
  exact cY
 simp only[apN,apC]
 refine dv1 5 ?_
 refine dv1 6 ?_
 refine dv1 6 ?_
 apply draw_val
 ·intro g w hb v;replace hL:=hL.grow hb;have d7:=yv v 7;have d8:=yv v 8;have d6:=yv v 6;clear v;simp only[fillD,fLa,fLb,sTa,sTb];simp only[d7,d8,d6]
  go_wp2_with (go_at_call 16;refine(HSM.out _).mono ?_;rintro e w3 ⟨rfl,hb3⟩;dsimp only)
  exact⟨rfl,_,rfl,(by assumption),rfl⟩
 simp only[apN,apC]
 apply draw_val
 ·intro g w hb v;replace hL:=hL.grow hb;have d6:=yv v 6;have d9:=yv v 9;clear v;simp only[fillD,fLa,fLb,sTa,sTb];simp only[d6,d9]
  go_wp2
  exact cY
 simp only[apN,apC]
 refine dv1 10 ?_
 refine dv1 11 ?_
 refine dv1 11 ?_
 refine dv3 12 13 11 ?_
 apply draw_val
 ·intro g w hb v;replace hL:=hL.grow hb;have d11:=yv v 11;have d14:=yv v 14;clear v;simp only[fillD,fLa,fLb,sTa,sTb];simp only[d11,d14]
  go_wp2
  exact cY
 simp only[apN,apC]
 refine dv1 15 ?_
 refine dv1 16 ?_
 refine dv1 16 ?_
 refine dv3 17 18 16 ?_
 apply draw_val
 ·intro g w hb v;replace hL:=hL.grow hb;have d16:=yv v 16;have d19:=yv v 19;clear v;simp only[fillD,fLa,fLb,sTa,sTb];simp only[d16,d19]
  go_wp2
  exact cY
 simp only[apN,apC]
 refine dv1 20 ?_
 refine dv1 21 ?_
 refine dv1 21 ?_
 refine dv3 22 23 21 ?_
 apply draw_val
 ·intro g w hb v;replace hL:=hL.grow hb;have d21:=yv v 21;have d24:=yv v 24;clear v;simp only[fillD,fLa,fLb,sTa,sTb];simp only[d21,d24]
  go_wp2
  exact cY
 simp only[apN,apC]
 refine dv1 25 ?_
 refine dns hL ?_
 clear hL;intro w2 hL;simp only[fillX,sTa,sTb]
 go_wp2_with (first|(with_reducible first|refine lld hL ?_|((first|refine lbx hL ?_|refine lal hL ?_|refine lbs hL ?_);clear hL;intro bl w1 hL)|(refine lst' hL ?_;clear hL;intro w1 hL)))
 (try simp only[Exit.inBlock,Exit.then]);refine rt1 ?_
 exact⟨by simp,hL.below⟩
theorem psolve_b (p:Pg) (is:Nat→Ins) (s:Sl) (l:List Pd) (w:World) (hi:SolveIn w p is s l) (h0:checkProg p is=0) (h1:s.n≠p.n+1):
  Calls Tryz.prog 4 #[p.v,.slice s.p s.n s.cap] w fun q w'=>q=.returned (.bool true)∧Below w.heap.size w w':=by
 have HSB:=Lib.hid (fun w'=>solveBegun_any w')
 obtain⟨hn,hc,hx⟩:=id hi
 have hcp:=fun w' (hb:Below w.heap.size w w')=>rCheckProgram_any p is w' (hc.grow hb) hn
 have hs:=(prog_right h0).1
 obtain⟨nv,hv⟩:∃ nv:Nat,p.vars=nv:=⟨p.vars.toNat,by have:=hs.v1;omega⟩
 obtain⟨nf,hf⟩:∃ nf:Nat,p.fields=nf:=⟨p.fields.toNat,by have:=hs.f1;omega⟩
 rw[h0]at hcp
 have HSV:=Lib.hid (fun w' (hb:Below w.heap.size w w')=>solve_ok p is nv nf hv hf w' hn (hc.grow hb) h0)
 have HSO:=Lib.hid (fun w' (hb:Below w.heap.size w w')=>rsolve_any p is nv nf hv hf h0 w' (hc.grow hb))
 have h60:=hs.n1
 have HFI:=Lib.hid (fun w' (hb:Below w.heap.size w w')=>fits_form p is s w' hn (hc.grow hb) h0 h1)
 have hne:((s.n:Int) != (p.n:Int)+1)=true:=by rw[bne_iff_ne];omega
 generalize beginS nv nf p.n=l0 at HSV HSO
 have HCP:=Lib.hid hcp
 have H1:=Lib.hid h1
 clear hcp hc hx hi h0 hn hs h1 hv hf
 obtain⟨pv,pf,pp,pn,pc⟩:=p
 obtain⟨tp,tn,tc⟩:=s
 dsimp only at *
 have hL:=Loc.start w
 go_enter Tryz.func4,Tryz.ntmps4
 go_upto_region 13 with(first|(refine loc_build0 hL rfl sPics ?_;clear hL;intro p0 w1 hL)|(go_at_call 10;refine(HSV.out _ hL.below).mono ?_;rintro e w1 ⟨k,⟨sp,sn,sc⟩,rfl,hE,hG⟩;replace hL:=hL.picsL hG;clear hG;dsimp only)|(go_at_call 13;refine(HSO.out _ hL.below).mono ?_;rintro e w1 ⟨k2,⟨up,un,uc⟩,rfl,hE2,hG⟩;obtain rfl:=hE2.one hE;replace hL:=hL.picsL hG;clear hG hE2;dsimp only)|(go_at_call 11;refine(HFI.out _ hL.below).mono ?_;rintro e w1 ⟨rfl,hb⟩;replace hL:=hL.grow hb;clear hb;dsimp only)|(go_at_call 12;refine(HCP.out _ hL.below).mono ?_;rintro e w1 ⟨rfl,hb⟩;replace hL:=hL.grow hb;clear hb;dsimp only)|(with_reducible first|refine lld hL ?_|((first|refine lbx hL ?_|refine lal hL ?_|refine lbs hL ?_);clear hL;intro bl w1 hL)|(refine lst' hL ?_;clear hL;intro w1 hL)))
 have he1:=hL.get (S:=fun w=>PicsL w ⟨sp,sn,sc⟩ (solN is pn l0 (k2+1))) cMm
 have he2:=hL.get (S:=fun w=>PicsL w ⟨up,un,uc⟩ (solN is pn l0 (k2+1))) cMm
 have HSM:=Lib.hid (fun w' (hb:Below w1.heap.size w1 w')=>(show Calls Tryz.prog 16 #[.slice sp sn sc,.slice up un uc] w' _ from samePics_any ⟨sp,sn,sc⟩ ⟨up,un,uc⟩ (solN is pn l0 (k2+1)) w' (he1.grow hb) (he2.grow hb)))
 clear he1 he2
 obtain⟨wr,hwr⟩:∃ x,x=w1:=⟨_,rfl⟩
 subst hwr
 refine seq_begin [59,60,61,62,63,64,65,66,67,68,69,70,71,72,73,74,75,76,77,78,79,80,81,82,83,84,4] ?_
 apply draw_val
 ·intro g w hb v;replace hL:=hL.grow hb;clear v;simp only[fillD,fLa,fLb,sTa,sTb]
  go_wp2_with (go_at_call 15;refine(HSB.out _).mono ?_;rintro e w3 ⟨rfl,hb3⟩;dsimp only)
  exact⟨rfl,_,rfl,(by assumption),rfl⟩
 simp only[apN,apC]
 refine dv1 0 ?_
 refine dv1 1 ?_
 refine dv1 1 ?_
 refine dv3 2 3 1 ?_
 apply draw_val
 ·intro g w hb v;replace hL:=hL.grow hb;have d1:=yv v 1;have d4:=yv v 4;clear v;simp only[fillD,fLa,fLb,sTa,sTb];simp only[d1,d4]
  go_wp2
  exact cY
 simp only[apN,apC]
 refine dv1 5 ?_
 refine dv1 6 ?_
 refine dv1 6 ?_
 apply draw_val
 ·intro g w hb v;replace hL:=hL.grow hb;have d7:=yv v 7;have d8:=yv v 8;have d6:=yv v 6;clear v;simp only[fillD,fLa,fLb,sTa,sTb];simp only[d7,d8,d6]
  go_wp2_with (go_at_call 16;refine(HSM.out _ hb).mono ?_;rintro e w3 ⟨rfl,hb3⟩;dsimp only)
  exact⟨rfl,_,rfl,(by assumption),rfl⟩
 simp only[apN,apC]
 apply draw_val
 ·intro g w hb v;replace hL:=hL.grow hb;have d6:=yv v 6;have d9:=yv v 9;clear v;simp only[fillD,fLa,fLb,sTa,sTb];simp only[d6,d9]
  go_wp2
  exact cY
 simp only[apN,apC]
 refine dv1 10 ?_
 refine dv1 11 ?_
 refine dv1 11 ?_
 refine dv3 12 13 11 ?_
 apply draw_val
 ·intro g w hb v;replace hL:=hL.grow hb;have d11:=yv v 11;have d14:=yv v 14;clear v;simp only[fillD,fLa,fLb,sTa,sTb];simp only[d11,d14]
  go_wp2
  exact cY
 simp only[apN,apC]
 refine dv1 15 ?_
 refine dv1 16 ?_
 refine dv1 16 ?_
 refine dv3 17 18 16 ?_
 apply draw_val
 ·intro g w hb v;replace hL:=hL.grow hb;have d16:=yv v 16;have d19:=yv v 19;clear v;simp only[fillD,fLa,fLb,sTa,sTb];simp only[d16,d19]
  go_wp2
  exact cY
 simp only[apN,apC]
 refine dv1 20 ?_
 refine dv1 21 ?_
 refine dv1 21 ?_
 refine dv3 22 23 21 ?_
 apply draw_val
 ·intro g w hb v;replace hL:=hL.grow hb;have d21:=yv v 21;have d24:=yv v 24;clear v;simp only[fillD,fLa,fLb,sTa,sTb];simp only[d21,d24]
  go_wp2
  exact cY
 simp only[apN,apC]
 refine dv1 25 ?_
 refine dns hL ?_
 clear hL;intro w2 hL;simp only[fillX,sTa,sTb]
 go_wp2_with (first|(with_reducible first|refine lld hL ?_|((first|refine lbx hL ?_|refine lal hL ?_|refine lbs hL ?_);clear hL;intro bl w1 hL)|(refine lst' hL ?_;clear hL;intro w1 hL)))
 (try simp only[Exit.inBlock,Exit.then]);refine rt1 ?_
 exact⟨by simp,hL.below⟩
theorem psolve_c (p:Pg) (is:Nat→Ins) (s:Sl) (l:List Pd) (w:World) (hi:SolveIn w p is s l) (h0:checkProg p is=0) (h1:s.n=p.n+1) (h2:rightsE p is l≠0):
  Calls Tryz.prog 4 #[p.v,.slice s.p s.n s.cap] w fun q w'=>q=.returned (.bool true)∧Below w.heap.size w w':=by
 have HSB:=Lib.hid (fun w'=>solveBegun_any w')
 obtain⟨hn,hc,hx⟩:=id hi
 have hcp:=fun w' (hb:Below w.heap.size w w')=>rCheckProgram_any p is w' (hc.grow hb) hn
 have hs:=(prog_right h0).1
 obtain⟨nv,hv⟩:∃ nv:Nat,p.vars=nv:=⟨p.vars.toNat,by have:=hs.v1;omega⟩
 obtain⟨nf,hf⟩:∃ nf:Nat,p.fields=nf:=⟨p.fields.toNat,by have:=hs.f1;omega⟩
 rw[h0]at hcp
 have HSV:=Lib.hid (fun w' (hb:Below w.heap.size w w')=>solve_ok p is nv nf hv hf w' hn (hc.grow hb) h0)
 have HSO:=Lib.hid (fun w' (hb:Below w.heap.size w w')=>rsolve_any p is nv nf hv hf h0 w' (hc.grow hb))
 have h60:=hs.n1
 have hck:=rchecks_any hi
 rw[h0]at hck
 have hln:s.n=l.length:=hx.n
 have hne:((s.n:Int) != (p.n:Int)+1)=false:=by rw[h1];simp
 have HFI:=Lib.hid (fun w' (hb:Below w.heap.size w w')=>fits_pic p is s l w' hn (hc.grow hb) (hx.grow hb) h0 h1 h2)
 have hcc:(rightsE p is l==0)=false:=by simpa using h2
 obtain⟨c,hc0⟩:∃ c,rightsE p is l=c:=⟨_,rfl⟩
 rw[show errs 0 (fun k=>rightP p is (l.getD k nonePd)) l.length=c from hc0]at hck
 rw[hc0]at hcc h2 HFI
 clear hc0
 have HCK:=Lib.hid hck
 clear hck hln h2
 generalize beginS nv nf p.n=l0 at HSV HSO
 have HCP:=Lib.hid hcp
 have H1:=Lib.hid h1
 clear hcp hc hx hi h0 hn hs h1 hv hf
 obtain⟨pv,pf,pp,pn,pc⟩:=p
 obtain⟨tp,tn,tc⟩:=s
 dsimp only at *
 have hL:=Loc.start w
 go_enter Tryz.func4,Tryz.ntmps4
 go_upto_region 13 with(first|(refine loc_build0 hL rfl sPics ?_;clear hL;intro p0 w1 hL)|(go_at_call 10;refine(HSV.out _ hL.below).mono ?_;rintro e w1 ⟨k,⟨sp,sn,sc⟩,rfl,hE,hG⟩;replace hL:=hL.picsL hG;clear hG;dsimp only)|(go_at_call 13;refine(HSO.out _ hL.below).mono ?_;rintro e w1 ⟨k2,⟨up,un,uc⟩,rfl,hE2,hG⟩;obtain rfl:=hE2.one hE;replace hL:=hL.picsL hG;clear hG hE2;dsimp only)|(go_at_call 11;refine(HFI.out _ hL.below).mono ?_;rintro e w1 ⟨rfl,hb⟩;replace hL:=hL.grow hb;clear hb;dsimp only)|(go_at_call 12;refine(HCP.out _ hL.below).mono ?_;rintro e w1 ⟨rfl,hb⟩;replace hL:=hL.grow hb;clear hb;dsimp only)|(go_at_call 6;refine(HCK.out _ hL.below).mono ?_;rintro e w1 ⟨rfl,hb⟩;replace hL:=hL.grow hb;clear hb;dsimp only)|(with_reducible first|refine lld hL ?_|((first|refine lbx hL ?_|refine lal hL ?_|refine lbs hL ?_);clear hL;intro bl w1 hL)|(refine lst' hL ?_;clear hL;intro w1 hL)))
 have he1:=hL.get (S:=fun w=>PicsL w ⟨sp,sn,sc⟩ (solN is pn l0 (k2+1))) cMm
 have he2:=hL.get (S:=fun w=>PicsL w ⟨up,un,uc⟩ (solN is pn l0 (k2+1))) cMm
 have HSM:=Lib.hid (fun w' (hb:Below w1.heap.size w1 w')=>(show Calls Tryz.prog 16 #[.slice sp sn sc,.slice up un uc] w' _ from samePics_any ⟨sp,sn,sc⟩ ⟨up,un,uc⟩ (solN is pn l0 (k2+1)) w' (he1.grow hb) (he2.grow hb)))
 clear he1 he2
 obtain⟨wr,hwr⟩:∃ x,x=w1:=⟨_,rfl⟩
 subst hwr
 refine seq_begin [59,60,61,62,63,64,65,66,67,68,69,70,71,72,73,74,75,76,77,78,79,80,81,82,83,84,4] ?_
 apply draw_val
 ·intro g w hb v;replace hL:=hL.grow hb;clear v;simp only[fillD,fLa,fLb,sTa,sTb]
  go_wp2_with (go_at_call 15;refine(HSB.out _).mono ?_;rintro e w3 ⟨rfl,hb3⟩;dsimp only)
  exact⟨rfl,_,rfl,(by assumption),rfl⟩
 simp only[apN,apC]
 refine dv1 0 ?_
 refine dv1 1 ?_
 refine dv1 1 ?_
 refine dv3 2 3 1 ?_
 apply draw_val
 ·intro g w hb v;replace hL:=hL.grow hb;have d1:=yv v 1;have d4:=yv v 4;clear v;simp only[fillD,fLa,fLb,sTa,sTb];simp only[d1,d4]
  go_wp2
  exact cY
 simp only[apN,apC]
 refine dv1 5 ?_
 refine dv1 6 ?_
 refine dv1 6 ?_
 apply draw_val
 ·intro g w hb v;replace hL:=hL.grow hb;have d7:=yv v 7;have d8:=yv v 8;have d6:=yv v 6;clear v;simp only[fillD,fLa,fLb,sTa,sTb];simp only[d7,d8,d6]
  go_wp2_with (go_at_call 16;refine(HSM.out _ hb).mono ?_;rintro e w3 ⟨rfl,hb3⟩;dsimp only)
  exact⟨rfl,_,rfl,(by assumption),rfl⟩
 simp only[apN,apC]
 apply draw_val
 ·intro g w hb v;replace hL:=hL.grow hb;have d6:=yv v 6;have d9:=yv v 9;clear v;simp only[fillD,fLa,fLb,sTa,sTb];simp only[d6,d9]
  go_wp2
  exact cY
 simp only[apN,apC]
 refine dv1 10 ?_
 refine dv1 11 ?_
 refine dv1 11 ?_
 refine dv3 12 13 11 ?_
 apply draw_val
 ·intro g w hb v;replace hL:=hL.grow hb;have d11:=yv v 11;have d14:=yv v 14;clear v;simp only[fillD,fLa,fLb,sTa,sTb];simp only[d11,d14]
  go_wp2
  exact cY
 simp only[apN,apC]
 refine dv1 15 ?_
 refine dv1 16 ?_
 refine dv1 16 ?_
 refine dv3 17 18 16 ?_
 apply draw_val
 ·intro g w hb v;replace hL:=hL.grow hb;have d16:=yv v 16;have d19:=yv v 19;clear v;simp only[fillD,fLa,fLb,sTa,sTb];simp only[d16,d19]
  go_wp2
  exact cY
 simp only[apN,apC]
 refine dv1 20 ?_
 refine dv1 21 ?_
 refine dv1 21 ?_
 refine dv3 22 23 21 ?_
 apply draw_val
 ·intro g w hb v;replace hL:=hL.grow hb;have d21:=yv v 21;have d24:=yv v 24;clear v;simp only[fillD,fLa,fLb,sTa,sTb];simp only[d21,d24]
  go_wp2
  exact cY
 simp only[apN,apC]
 refine dv1 25 ?_
 refine dns hL ?_
 clear hL;intro w2 hL;simp only[fillX,sTa,sTb]
 go_wp2_with (first|(with_reducible first|refine lld hL ?_|((first|refine lbx hL ?_|refine lal hL ?_|refine lbs hL ?_);clear hL;intro bl w1 hL)|(refine lst' hL ?_;clear hL;intro w1 hL)))
 (try simp only[Exit.inBlock,Exit.then]);refine rt1 ?_
 exact⟨by simp,hL.below⟩
theorem psolve_d (p:Pg) (is:Nat→Ins) (s:Sl) (l:List Pd) (w:World) (hi:SolveIn w p is s l) (h0:checkProg p is=0) (h1:s.n=p.n+1) (h2:rightsE p is l=0):
  Calls Tryz.prog 4 #[p.v,.slice s.p s.n s.cap] w fun q w'=>q=.returned (.bool true)∧Below w.heap.size w w':=by
 have HSB:=Lib.hid (fun w'=>solveBegun_any w')
 obtain⟨hn,hc,hx⟩:=id hi
 have hcp:=fun w' (hb:Below w.heap.size w w')=>rCheckProgram_any p is w' (hc.grow hb) hn
 have hs:=(prog_right h0).1
 obtain⟨nv,hv⟩:∃ nv:Nat,p.vars=nv:=⟨p.vars.toNat,by have:=hs.v1;omega⟩
 obtain⟨nf,hf⟩:∃ nf:Nat,p.fields=nf:=⟨p.fields.toNat,by have:=hs.f1;omega⟩
 rw[h0]at hcp
 have HSV:=Lib.hid (fun w' (hb:Below w.heap.size w w')=>solve_ok p is nv nf hv hf w' hn (hc.grow hb) h0)
 have HSO:=Lib.hid (fun w' (hb:Below w.heap.size w w')=>rsolve_any p is nv nf hv hf h0 w' (hc.grow hb))
 have h60:=hs.n1
 have hck:=rchecks_any hi
 rw[h0]at hck
 have hln:s.n=l.length:=hx.n
 have hne:((s.n:Int) != (p.n:Int)+1)=false:=by rw[h1];simp
 have hrr:∀ k,k≤p.n→rightP p is (l.getD k nonePd)=0:=fun k hk=>rights_of h2 k (by omega)
 have HFI:=Lib.hid (fun w' (hb:Below w.heap.size w w')=>fits_ok p is nv nf hv hf s l h0 w' (hc.grow hb) (hx.grow hb) h1 hrr)
 have HFO:=Lib.hid (fun w' (hb:Below w.heap.size w w')=>rfits_any p is nv nf hv hf s l h0 w' (hc.grow hb) (hx.grow hb) h1 hrr)
 rw[show errs 0 (fun k=>rightP p is (l.getD k nonePd)) l.length=0 from h2]at hck
 generalize fitsS is p.n l (firstP nv nf p.n)=fb at HFI HFO
 have HCK:=Lib.hid hck
 clear hck hln h2 hrr
 generalize beginS nv nf p.n=l0 at HSV HSO
 have HCP:=Lib.hid hcp
 have H1:=Lib.hid h1
 clear hcp hc hx hi h0 hn hs h1 hv hf
 obtain⟨pv,pf,pp,pn,pc⟩:=p
 obtain⟨tp,tn,tc⟩:=s
 dsimp only at *
 have hL:=Loc.start w
 go_enter Tryz.func4,Tryz.ntmps4
 go_upto_region 13 with(first|(refine loc_build0 hL rfl sPics ?_;clear hL;intro p0 w1 hL)|(go_at_call 10;refine(HSV.out _ hL.below).mono ?_;rintro e w1 ⟨k,⟨sp,sn,sc⟩,rfl,hE,hG⟩;replace hL:=hL.picsL hG;clear hG;dsimp only)|(go_at_call 13;refine(HSO.out _ hL.below).mono ?_;rintro e w1 ⟨k2,⟨up,un,uc⟩,rfl,hE2,hG⟩;obtain rfl:=hE2.one hE;replace hL:=hL.picsL hG;clear hG hE2;dsimp only)|(go_at_call 11;refine(HFI.out _ hL.below).mono ?_;rintro e w1 ⟨rfl,hb⟩;replace hL:=hL.grow hb;clear hb;dsimp only)|(go_at_call 12;refine(HCP.out _ hL.below).mono ?_;rintro e w1 ⟨rfl,hb⟩;replace hL:=hL.grow hb;clear hb;dsimp only)|(go_at_call 6;refine(HCK.out _ hL.below).mono ?_;rintro e w1 ⟨rfl,hb⟩;replace hL:=hL.grow hb;clear hb;dsimp only)|(go_at_call 14;refine(HFO.out _ hL.below).mono ?_;rintro e w1 ⟨rfl,hb⟩;replace hL:=hL.grow hb;clear hb;dsimp only)|(with_reducible first|refine lld hL ?_|((first|refine lbx hL ?_|refine lal hL ?_|refine lbs hL ?_);clear hL;intro bl w1 hL)|(refine lst' hL ?_;clear hL;intro w1 hL)))
 have he1:=hL.get (S:=fun w=>PicsL w ⟨sp,sn,sc⟩ (solN is pn l0 (k2+1))) cMm
 have he2:=hL.get (S:=fun w=>PicsL w ⟨up,un,uc⟩ (solN is pn l0 (k2+1))) cMm
 have HSM:=Lib.hid (fun w' (hb:Below w1.heap.size w1 w')=>(show Calls Tryz.prog 16 #[.slice sp sn sc,.slice up un uc] w' _ from samePics_any ⟨sp,sn,sc⟩ ⟨up,un,uc⟩ (solN is pn l0 (k2+1)) w' (he1.grow hb) (he2.grow hb)))
 clear he1 he2
 obtain⟨wr,hwr⟩:∃ x,x=w1:=⟨_,rfl⟩
 subst hwr
 refine seq_begin [59,60,61,62,63,64,65,66,67,68,69,70,71,72,73,74,75,76,77,78,79,80,81,82,83,84,4] ?_
 apply draw_val
 ·intro g w hb v;replace hL:=hL.grow hb;clear v;simp only[fillD,fLa,fLb,sTa,sTb]
  go_wp2_with (go_at_call 15;refine(HSB.out _).mono ?_;rintro e w3 ⟨rfl,hb3⟩;dsimp only)
  exact⟨rfl,_,rfl,(by assumption),rfl⟩
 simp only[apN,apC]
 refine dv1 0 ?_
 refine dv1 1 ?_
 refine dv1 1 ?_
 refine dv3 2 3 1 ?_
 apply draw_val
 ·intro g w hb v;replace hL:=hL.grow hb;have d1:=yv v 1;have d4:=yv v 4;clear v;simp only[fillD,fLa,fLb,sTa,sTb];simp only[d1,d4]
  go_wp2
  exact cY
 simp only[apN,apC]
 refine dv1 5 ?_
 refine dv1 6 ?_
 refine dv1 6 ?_
 apply draw_val
 ·intro g w hb v;replace hL:=hL.grow hb;have d7:=yv v 7;have d8:=yv v 8;have d6:=yv v 6;clear v;simp only[fillD,fLa,fLb,sTa,sTb];simp only[d7,d8,d6]
  go_wp2_with (go_at_call 16;refine(HSM.out _ hb).mono ?_;rintro e w3 ⟨rfl,hb3⟩;dsimp only)
  exact⟨rfl,_,rfl,(by assumption),rfl⟩
 simp only[apN,apC]
 apply draw_val
 ·intro g w hb v;replace hL:=hL.grow hb;have d6:=yv v 6;have d9:=yv v 9;clear v;simp only[fillD,fLa,fLb,sTa,sTb];simp only[d6,d9]
  go_wp2
  exact cY
 simp only[apN,apC]
 refine dv1 10 ?_
 refine dv1 11 ?_
 refine dv1 11 ?_
 refine dv3 12 13 11 ?_
 apply draw_val
 ·intro g w hb v;replace hL:=hL.grow hb;have d11:=yv v 11;have d14:=yv v 14;clear v;simp only[fillD,fLa,fLb,sTa,sTb];simp only[d11,d14]
  go_wp2
  exact cY
 simp only[apN,apC]
 refine dv1 15 ?_
 refine dv1 16 ?_
 refine dv1 16 ?_
 refine dv3 17 18 16 ?_
 apply draw_val
 ·intro g w hb v;replace hL:=hL.grow hb;have d16:=yv v 16;have d19:=yv v 19;clear v;simp only[fillD,fLa,fLb,sTa,sTb];simp only[d16,d19]
  go_wp2
  exact cY
 simp only[apN,apC]
 refine dv1 20 ?_
 refine dv1 21 ?_
 refine dv1 21 ?_
 refine dv3 22 23 21 ?_
 apply draw_val
 ·intro g w hb v;replace hL:=hL.grow hb;have d21:=yv v 21;have d24:=yv v 24;clear v;simp only[fillD,fLa,fLb,sTa,sTb];simp only[d21,d24]
  go_wp2
  exact cY
 simp only[apN,apC]
 refine dv1 25 ?_
 refine dns hL ?_
 clear hL;intro w2 hL;simp only[fillX,sTa,sTb]
 go_wp2_with (first|(with_reducible first|refine lld hL ?_|((first|refine lbx hL ?_|refine lal hL ?_|refine lbs hL ?_);clear hL;intro bl w1 hL)|(refine lst' hL ?_;clear hL;intro w1 hL)))
 (try simp only[Exit.inBlock,Exit.then]);refine rt1 ?_
 exact⟨by simp,hL.below⟩
theorem psolve_any (p:Pg) (is:Nat→Ins) (s:Sl) (l:List Pd) (w:World) (hi:SolveIn w p is s l):
  Calls Tryz.prog 4 #[p.v,.slice s.p s.n s.cap] w fun q w'=>q=.returned (.bool true)∧Below w.heap.size w w':=by
 by_cases h0:checkProg p is=0
 ·by_cases h1:s.n=p.n+1
  ·by_cases h2:rightsE p is l=0
   ·exact psolve_d p is s l w hi h0 h1 h2
   ·exact psolve_c p is s l w hi h0 h1 h2
  ·exact psolve_b p is s l w hi h0 h1
 ·exact psolve_a p is s l w hi h0
end Go.Proofs.YtajgekeiflblnaaGreat
