/-  -/
import Derived.Test.YteoilpcbekijlaaGreatDoorSolH
import Derived.Test.YteoilpcbekijlaaGreatDoorSml
import Derived.Test.YteoilpcbekijlaaGreatDoorPice
import Derived.Test.YteoilpcbekijlaaGreatDoorPicd
import Derived.Test.YteoilpcbekijlaaGreatDoorEnd0
import Derived.Test.YteoilpcbekijlaaGreatDoorRbs
set_option linter.unusedSimpArgs false
set_option linter.unusedVariables false
set_option maxRecDepth 100000
set_option maxHeartbeats 4000000
namespace Go.Proofs.YteoilpcbekijlaaGreatDoor
open Go.RowKit
theorem PicsL.zero (w:World) (p:Option Addr) (c:Nat):PicsL w ⟨p,0,c⟩ []:=⟨rfl,Nat.zero_le _,fun _=>nonePv,⟨0,0,fun h=>absurd h (Nat.lt_irrefl 0),fun k hk=>absurd hk (Nat.not_lt_zero k)⟩,fun k hk=>absurd hk (Nat.not_lt_zero k)⟩
theorem Loc.picsL {w0 w w1:World}{L:List LBlk}{D:List Datum}(h:Loc w0 w L D) {s:Sl}{l:List Pd}(g:GotPs w w1 s l):Loc w0 w1 L ((fun w=>PicsL w s l)::D):=by
 obtain⟨xs,R,hl,hR,hG⟩:=g
 refine(h.gave hG).facts (fun w' hr ht=>?_)
 have hn:=hR.flatlen lenP3 (by decide)
 obtain⟨_,h2⟩:=hR.listC (B:=w.heap.size) (w:=w') lenP3 zeroPv (by decide) ⟨hG.nodup,fun e he=>⟨hG.ids e he,hr e he⟩⟩
 exact⟨by rw[hn,hl],hR.max,fun k=>xs.getD k zeroPv,h2,fun k hk=>ht k (by omega)⟩
def smallL:List Pd:=solN smallIs 2 (beginL 1 0 2) 2
theorem small_chg0:chgN smallIs 2 (beginL 1 0 2) 0=true:=by kernel_rfl
theorem small_chg1:chgN smallIs 2 (beginL 1 0 2) 1=false:=by kernel_rfl
theorem small_ends:EndsN smallIs 2 (beginL 1 0 2) 1:=⟨small_chg1,fun j hj=>by
 obtain rfl:j=0:=by omega
 exact small_chg0⟩
theorem small_fits:fitsS smallIs 2 smallL (firstP 1 0 2)=true:=by kernel_rfl
theorem small_len:smallL.length=3:=by kernel_rfl
theorem small_none:(smallL.getD 2 nonePd).none=false:=by kernel_rfl
theorem small_rights (b:Nat):∀ k,k≤2→rightP (smallP b) smallIs (smallL.getD k nonePd)=0:=
 (solN_ok (p:=smallP b) (small_right b) (beginL_ok (p:=smallP b) (is:=smallIs) (nv:=1) (nf:=0) rfl rfl) 2).r
theorem solveBegun_any (w:World):
  Calls Tryz.prog 25 #[] w fun e w'=>e=.returned (.bool true)∧Below w.heap.size w w':=by
 have hL:=Loc.start w
 go_enter Tryz.func25,Tryz.ntmps25
 go_upto_region 3 with(first|(with_reducible first|refine lld hL ?_|((first|refine lbx hL ?_|refine lal hL ?_|refine lbs hL ?_);clear hL;intro bl w1 hL)|(refine lst' hL ?_;clear hL;intro w1 hL))|(go_at_call 44;refine(small_any _).mono ?_;rintro e w3 ⟨bs,rfl,hge,hsm,hb3⟩;replace hL:=hL.gain hb3 hge hsm;clear hge hsm hb3;(try dsimp only))|(go_at_call 26;refine(solve_ok (smallP bs) smallIs 1 0 rfl rfl _ (show (2:Nat)≤9223372036854775807 by decide) (small_code (hL.heap cIn)) (small_right bs)).mono ?_;rintro e w3 ⟨k,⟨sp,sn,sc⟩,rfl,hE,hG⟩;obtain rfl:=hE.one small_ends;replace hL:=hL.picsL (l:=smallL) hG;clear hE hG;dsimp only)|(go_at_call 27;refine(fits_ok (smallP bs) smallIs 1 0 rfl rfl ⟨sp,sn,sc⟩ smallL (small_right bs) _ (small_code (hL.heap cIn)) (hL.get (S:=fun w=>PicsL w ⟨sp,sn,sc⟩ smallL) cMm) ((hL.get (S:=fun w=>PicsL w ⟨sp,sn,sc⟩ smallL) cMm).n.trans small_len) (small_rights bs)).mono ?_;rw[show fitsS smallIs (smallP bs).n smallL (firstP 1 0 (smallP bs).n)=true from small_fits];rintro e w1 ⟨rfl,hb⟩;replace hL:=hL.grow hb;clear hb;dsimp only))
 obtain⟨hn,-,xs,hx,hpp⟩:=hL.get (S:=fun w=>PicsL w ⟨sp,sn,sc⟩ smallL) cMm
 rw[small_len]at hn
 dsimp only at hn hx hpp
 subst hn
 obtain⟨b,o,hq,hcc⟩:=hx.ex
 obtain rfl:=hq (by decide)
 have hr:=ReadsAt.cell (P:=Tryz.prog) tBool (hcc 2 (by decide)).1 ((hcc 2 (by decide)).2 0 _ rfl)
 rw[show (xs 2).none=false from (hpp 2 (by decide)).e.trans small_none]at hr
 have HR:=Lib.hid hr
 have HB0:=Lib.hid hL.below
 clear hr hq hcc hx hpp hL
 have hL:=Loc.start w1
 go_wp2_with (first|(with_reducible refine ldB HR.out hL ?_)|(with_reducible first|refine lld hL ?_|((first|refine lbx hL ?_|refine lal hL ?_|refine lbs hL ?_);clear hL;intro bl w1 hL)|(refine lst' hL ?_;clear hL;intro w1 hL)))
 (try simp only[Exit.inBlock,Exit.then]);refine rt1 ?_
 exact⟨by simp,HB0.out.trans (hL.below.mono HB0.out.size)⟩
end Go.Proofs.YteoilpcbekijlaaGreatDoor
set_option linter.unusedSimpArgs false
set_option linter.unusedVariables false
set_option maxRecDepth 100000
set_option maxHeartbeats 4000000
namespace Go.Proofs.YteoilpcbekijlaaGreatDoor
open Go.RowKit
theorem Own.both {B:Nat}{w:World}{R R' : List LBlk}(h:Own B w R) (h' : Own B w R') (hd:∀ e∈R,∀ e'∈R',e.2.1≠e'.2.1):Own B w (R++R'):=by
 refine⟨?_,fun e he=>?_⟩
 ·rw[List.map_append,List.nodup_append]
  refine⟨h.nodup,h'.nodup,fun a ha b hb hab=>?_⟩
  subst hab
  obtain⟨e,he,hee⟩:=List.mem_map.1 ha
  obtain⟨e',he',hee'⟩:=List.mem_map.1 hb
  have h1:=(h.at' e he).2
  have h2:=(h'.at' e' he').2
  rw[hee]at h1
  rw[hee',h1]at h2
  have h3:=Option.some.inj h2
  injection h3 with _ h4
  exact hd e he e' he' h4
 ·rcases List.mem_append.1 he with he|he
  ·exact h.at' e he
  ·exact h'.at' e he
theorem Own.single {B:Nat}{w:World}{b:Nat}{T:TypeId}{cs:List Value}(h1:B≤b) (h2:w.heap[b]? = some (.cells cs.toArray T (0,0))):Own B w [(b,T,cs)]:=
 ⟨by simp,fun e he=>by rw[List.mem_singleton.1 he];exact⟨h1,h2⟩⟩
theorem one_guess {p:Option Addr}{n cap:Nat}{g:Gu}{R:List LBlk}(h:RowS 110 7 p n cap ([g].flatMap Gu.cells) R):∃ b cs,p=some ⟨b,0,none⟩∧n=1∧R=[(b,110,Gu.cells g++cs)]:=by
 obtain⟨h1,h2⟩:=h
 have hn:n=1:=by simp at h1;omega
 rcases h2 with⟨h3,_,_⟩|⟨b,cs,hp,hR,_,_,hl,ht⟩
 ·omega
 ·subst hn
  refine⟨b,cs.drop 7,hp,rfl,?_⟩
  rw[hR]
  have e:cs.take 7=Gu.cells g:=by simpa using ht
  rw[← e,List.take_append_drop]
def TupP (wq:World) (d:Pd):Value→World→Prop:=fun v w=>∃ r:Pv,v=.tuple #[r.v,.int .i64 0]∧GotP wq w r d
theorem TupP.stable {wq:World}{d:Pd}:Stable (TupP wq d):=by
 rintro v w w' hb ⟨r,h1,h2⟩;exact⟨r,h1,h2.grow hb⟩
def PicR (wq:World) (d:Pd):Value→World→Prop:=fun v w=>∃ r:Pv,v=r.v∧GotP wq w r d
theorem PicR.stable {wq:World}{d:Pd}:Stable (PicR wq d):=by
 rintro v w w' hb ⟨r,h1,h2⟩;exact⟨r,h1,h2.grow hb⟩
abbrev smallF:Pd:=firstP 1 0 2
theorem small_cp1 (b:Nat):cp1 (smallP b) smallIs smallF=0:=rfl
theorem small_cp2 (b:Nat):cp2 (smallP b) smallIs nonePd smallF=0:=rfl
theorem small_join:bothP both nonePd smallF=smallF:=by
 show bothRaw both smallF smallF=smallF
 exact bothRaw_self (p:=smallP 0) (RightPd.of (is:=smallIs) rfl rfl rfl) rfl
theorem small_show_ok:ShowOk smallF (beginS 1):=by
 refine⟨rfl,fun k hk=>absurd hk (Nat.not_lt_zero k),fun k hk=>?_,fun k hk=>absurd hk (Nat.not_lt_zero k)⟩
 obtain rfl:k=0:=by have:k<1:=hk;omega
 rfl
theorem small_right_run {w:World}{r:Rn}(h:RunIs w r (beginS 1)):∃ ths,RunAt w r (beginS 1).val ths (beginS 1).field (beginS 1).line∧∀ b,rightRun (smallP b) smallIs r (beginS 1).val ths (beginS 1).field=0:=by
 obtain⟨⟨ths,h1,h2⟩,h3,h4,h5,h6,h7,h8⟩:=h
 refine⟨ths,h1,fun b=>?_⟩
 have e7:r.things.n=0:=h7
 have e6:r.vars.n=1:=h6
 have e3:r.at'=0:=h3
 have e4:r.taken=0:=h4
 have e5:r.ending=0:=h5
 unfold rightRun placeBad siteBad lenBad varBad fieldBad
 rw[e7,e6,e3,e4,e5]
 rfl
theorem PicO.types {x:Pv}{gv:List Gu}{gf:List (List Gu)}{rs:List Sl}{Rv Rh Rf:List LBlk}(h:PicO x gv gf rs Rv Rh Rf):∀ e∈Rv,e.2.1≠54:=by
 intro e he
 rcases h.vars.2 with⟨_,_,rfl⟩|⟨g,cs,_,rfl,_⟩
 ·cases he
 ·rw[List.mem_singleton.1 he];show 110≠54;decide
abbrev zeroPC:List Value:=[.bool false,.slice none 0 0,.slice none 0 0]
theorem picBegun_any (w:World):
  Calls Tryz.prog 21 #[] w fun e w'=>e=.returned (.bool true)∧Below w.heap.size w w':=by
 have hL:=Loc.start w
 go_enter Tryz.func21,Tryz.ntmps21
 go_upto_region 3 with(first|(with_reducible first|refine lld hL ?_|((first|refine lbx hL ?_|refine lal hL ?_|refine lbs hL ?_);clear hL;intro bl w1 hL)|(refine lst' hL ?_;clear hL;intro w1 hL))|(go_at_call 44;refine(small_any _).mono ?_;rintro e w3 ⟨bs,rfl,hge,hsm,hb3⟩;replace hL:=hL.gain hb3 hge hsm;clear hge hsm hb3;(try dsimp only))|(go_at_call 54;refine(pBegin_ok (smallP bs) smallIs 1 0 rfl rfl (by decide) (by decide) (show (2:Nat)≤1000 by decide) _ (small_code (hL.heap cIn)) (small_right bs)).mono ?_;rintro e w3 ⟨⟨xn,⟨xp,xvn,xc⟩,⟨xfp,xfn,xfc⟩⟩,rfl,hGX⟩;replace hL:=hL.gotP (d:=smallF) hGX (by decide);clear hGX;(try dsimp only))|(go_at_call 46;refine(runBegin_ok (smallP bs) smallIs 1 _ (show (2:Nat)≤9223372036854775807 by decide) (small_code (hL.heap cIn)) (small_right bs) rfl (by decide)).mono ?_;rintro e w3 ⟨⟨ra2,⟨rvp,rvn,rvc⟩,⟨rtp,rtn,rtc⟩,rk2,⟨rlp,rln,rlc⟩,re2⟩,ts2,Rv2,Rt2,Rl2,Rf2,rfl,hR2,ho2,hb3⟩;replace hL:=hL.gainTail hb3 ho2;simp only[List.cons_append,List.nil_append]at hL;clear ho2 hb3;(try dsimp only)))
 have hrun:=hR2.is (hL.ownOf (by repeat (first|exact List.Sublist.refl _|apply List.Sublist.cons)))
 obtain⟨ths,hra,hrr⟩:=small_right_run hrun
 have hpx:=hL.get (S:=fun w=>PicIs w ⟨xn,⟨xp,xvn,xc⟩,⟨xfp,xfn,xfc⟩⟩ smallF) cMm
 have HHO:=Lib.hid (fun (b0:Nat) w' (hb:Below w1.heap.size w1 w') (hc:CodeAt w' (smallP b0) smallIs)=>(show Calls Tryz.prog 22 #[(smallP b0).v,Pv.v ⟨xn,⟨xp,xvn,xc⟩,⟨xfp,xfn,xfc⟩⟩,Rn.v ⟨ra2,⟨rvp,rvn,rvc⟩,⟨rtp,rtn,rtc⟩,rk2,⟨rlp,rln,rlc⟩,re2⟩] w' fun q w2=>q=.returned (.tuple #[.bool true,.int .i64 0])∧Below w'.heap.size w' w2 from
  pHolds_ok (smallP b0) smallIs _ smallF _ (beginS 1) ths w' (show (2:Nat)≤9223372036854775807 by decide) hc (hpx.grow hb) ((hra.l).grow hb) (hrun.grow hb) (small_cp1 b0) (hrr b0) (fun _=>small_show_ok)))
 clear hrun hra hrr hpx hR2
 obtain⟨wq,hwq⟩:∃ x,x=w1:=⟨_,rfl⟩
 subst hwq
 refine draw_begin [20,21,22,23,19,24,25,5,6] ?_
 refine draw_next (SmR wq.heap.size) SmR.stable ?_ ?_
 ·intro g w hb y;replace hL:=hL.grow hb;clear y;simp only[fillD,fLa,fLb,sTa,sTb]
  go_wp2_with (go_at_call 44;refine(small_any _).mono ?_;rintro e w3 ⟨b0,rfl,hge,hsm,hb3⟩;dsimp only)
  exact⟨rfl,_,rfl,hb3,b0,Nat.le_trans hb.size hge,rfl,hsm⟩
 simp only[apN,apC]
 refine dv0 ?_
 refine dv0 ?_
 apply draw_val
 ·intro g w hb y;replace hL:=hL.grow hb;have d0:(SmR wq.heap.size) (g 20) w:=yr y 0;obtain⟨b0,-,d0,m0⟩:=d0;have d1:=yv y 1;have d2:=yv y 2;clear y;simp only[fillD,fLa,fLb,sTa,sTb];simp only[d0,d1,d2]
  go_wp2_with (go_at_call 22;refine(HHO.out b0 _ hb (small_code m0)).mono ?_;rintro e w3 ⟨rfl,hb3⟩;dsimp only)
  exact⟨rfl,_,rfl,hb3,rfl⟩
 simp only[apN,apC]
 refine dv1 3 ?_
 refine dv1 4 ?_
 refine dv1 4 ?_
 refine dv1 5 ?_
 refine dv1 6 ?_
 refine draw_end hL (by kernel_rfl) (by kernel_rfl) ?_
 intro g w1 hb hR;simp only[List.length_cons,List.length_nil,Nat.reduceAdd]at hR
 have e0:(SmR wq.heap.size) (g 20) w1:=yr hR 0
 obtain⟨bz0,-,e0,-⟩:=e0
 have e1:=yv hR 1
 have e2:=yv hR 2
 have e3:=yv hR 3
 have e4:=yv hR 4
 have e5:=yv hR 5
 have e6:=yv hR 6
 have e7:=yv hR 7
 have e8:=yv hR 8
 clear hR;simp only[fillD,fLa,fLb,sTa,sTb]
 simp only[e0,e1,e2,e3,e4,e5,e6,e7,e8]
 clear e0 e1 e2 e3 e4 e5 e6 e7 e8
 replace hL:=hL.grow hb
 clear hb
 clear HHO
 go_upto_region 4 with(first|(with_reducible first|refine lld hL ?_|((first|refine lbx hL ?_|refine lal hL ?_|refine lbs hL ?_);clear hL;intro bl w1 hL)|(refine lst' hL ?_;clear hL;intro w1 hL)))
 have hpx:=hL.get (S:=fun w=>PicIs w ⟨xn,⟨xp,xvn,xc⟩,⟨xfp,xfn,xfc⟩⟩ smallF) cMm
 have hjo:=fun (b0:Nat) w' (hb:Below w1.heap.size w1 w') (hc:CodeAt w' (smallP b0) smallIs)=>pJoin_ok (smallP b0) smallIs ⟨true,nilSl,nilSl⟩ _ nonePd smallF w' (show (2:Nat)≤9223372036854775807 by decide) hc ⟨rfl,RowIs.zero w' _ _,RowsIs.zero w' _ _,Nat.zero_le _⟩ (hpx.grow hb) (small_cp2 b0)
 rw[small_join]at hjo
 have HJO:=Lib.hid hjo
 clear hpx hjo
 obtain⟨wr,hwr⟩:∃ x,x=w1:=⟨_,rfl⟩
 subst hwr
 refine draw_begin [27,28,29,30,26,31,32,7] ?_
 refine draw_next (SmR wr.heap.size) SmR.stable ?_ ?_
 ·intro g w hb y;replace hL:=hL.grow hb;clear y;simp only[fillD,fLa,fLb,sTa,sTb]
  go_wp2_with (go_at_call 44;refine(small_any _).mono ?_;rintro e w3 ⟨b0,rfl,hge,hsm,hb3⟩;dsimp only)
  exact⟨rfl,_,rfl,hb3,b0,Nat.le_trans hb.size hge,rfl,hsm⟩
 simp only[apN,apC]
 refine dv0 ?_
 refine dv0 ?_
 refine draw_next (TupP wr smallF) TupP.stable ?_ ?_
 ·intro g w hb y;replace hL:=hL.grow hb;have d0:(SmR wr.heap.size) (g 27) w:=yr y 0;obtain⟨b0,-,d0,m0⟩:=d0;have d1:=yv y 1;have d2:=yv y 2;clear y;simp only[fillD,fLa,fLb,sTa,sTb];simp only[d0,d1,d2]
  go_wp2_with (go_at_call 32;refine(HJO.out b0 _ hb (small_code m0)).mono ?_;rintro e w3 ⟨r1,rfl,hG1⟩;dsimp only)
  exact⟨rfl,_,rfl,hG1.below,r1,rfl,hG1.since hb⟩
 simp only[apN,apC]
 refine draw_next (TupP wr smallF) TupP.stable ?_ ?_
 ·intro g w hb y;replace hL:=hL.grow hb;have d3:(TupP wr smallF) (g 30) w:=yr y 3;obtain⟨r1,d3,hG1⟩:=d3;clear y;simp only[fillD,fLa,fLb,sTa,sTb];simp only[d3]
  go_wp2_with (fail)
  exact⟨rfl,_,rfl,Below.refl _ _,r1,rfl,hG1⟩
 simp only[apN,apC]
 refine draw_next (PicR wr smallF) PicR.stable ?_ ?_
 ·intro g w hb y;replace hL:=hL.grow hb;have d4:(TupP wr smallF) (g 26) w:=yr y 4;obtain⟨r1,d4,hG1⟩:=d4;clear y;simp only[fillD,fLa,fLb,sTa,sTb];simp only[d4]
  go_wp2_with (fail)
  exact⟨rfl,_,rfl,Below.refl _ _,r1,rfl,hG1⟩
 simp only[apN,apC]
 apply draw_val
 ·intro g w hb y;replace hL:=hL.grow hb;have d4:(TupP wr smallF) (g 26) w:=yr y 4;obtain⟨r1,d4,hG1⟩:=d4;clear y;simp only[fillD,fLa,fLb,sTa,sTb];simp only[d4]
  go_wp2
  exact cY
 simp only[apN,apC]
 refine draw_next (PtrR wr.heap.size 54 zeroPC) PtrR.stable ?_ ?_
 ·intro g w hb y;replace hL:=hL.grow hb;clear y;simp only[fillD,fLa,fLb,sTa,sTb]
  go_wp2_with (fail)
  exact⟨rfl,_,rfl,(Below.refl _ _).alloc (Nat.le_refl _) _,_,hb.size,rfl,heap_new _ _⟩
 simp only[apN,apC]
 refine draw_end1 6 hL (by kernel_rfl) (by kernel_rfl) (fun _ _ _ _ _ h=>h) ?_ ?_
 ·refine late_ok rfl rfl ?_;intro g w hb y;have d4:(TupP wr smallF) (g 26) w:=yr y 4;obtain⟨r1,d4,hG1⟩:=d4;clear y;simp only[fillD,fLa,fLb,sTa,sTb];simp only[d4]
  exact⟨_,.inl ⟨rfl,fun w=>(by go_simp)⟩,rfl⟩
 intro g w2 hb hR;simp only[List.length_cons,List.length_nil,Nat.reduceAdd]at hR
 have e0:(SmR wr.heap.size) (g 27) w2:=yr hR 0
 obtain⟨bz0,-,e0,-⟩:=e0
 have e1:=yv hR 1
 have e2:=yv hR 2
 have e3:(TupP wr smallF) (g 30) w2:=yr hR 3
 obtain⟨rz3,e3,-⟩:=e3
 have e4:(TupP wr smallF) (g 26) w2:=yr hR 4
 obtain⟨rz4,e4,-⟩:=e4
 have e5:(PicR wr smallF) (g 31) w2:=yr hR 5
 obtain⟨⟨jn,⟨jvp,jvn,jvc⟩,⟨jfp,jfn,jfc⟩⟩,e5,hGJ⟩:=e5;have hL0:=hL;have hb0:=hb
 have e6:=yv hR 6
 have e7:(PtrR wr.heap.size 54 zeroPC) (g 7) w2:=yr hR 7
 obtain⟨b7,p7,e7,c7⟩:=e7
 clear hR;simp only[fillD,fLa,fLb,sTa,sTb]
 simp only[e0,e1,e2,e3,e4,e5,e6,e7]
 clear e0 e1 e2 e3 e4 e5 e6 e7
 replace hL:=hL.grow hb
 clear hb
 clear hL HJO
 obtain⟨gv,gf,rs,Rv,Rh,Rf,hjn,hO,hl3⟩:=hGJ
 have hgd:GusD w2 gv smallF.vars:=(hl3.get (S:=PicDt gv gf smallF.vars smallF.fields) List.mem_cons_self).1
 obtain⟨g0,hg0⟩:∃ g0,gv=[g0]:=by
  have:=hgd.len
  match gv,this with
  | [g0],_=>exact⟨g0,rfl⟩
 subst hg0
 have hgn:g0.null=true:=by
  have h:=(hgd.at' 0 (by decide)).e
  have h2:g0=nullD.gu g0.s:=h
  rw[h2]
 obtain⟨bj,cj,e1,e2,e3⟩:=one_guess hO.vars
 have ho:=(Own.single p7 c7).both (hl3.own.sub (List.sublist_append_left _ _)) (fun e he e' he'=>by rw[List.mem_singleton.1 he];exact(hO.types e' he').symm)
 rw[e3]at ho
 dsimp only at e1 e2
 subst e1 e2 e3
 have hL:=hL0.gainOwn hb0 ho
 obtain⟨gn,⟨gsn,glo,ghi⟩,gt,gf',⟨gp,gk,gc⟩⟩:=g0
 dsimp only at hgn
 subst hgn
 clear hL0 hb0 ho p7 c7 hl3 hO hgd hjn
 simp only[List.cons_append,List.nil_append]at hL
 go_upto_region 5 with(first|(with_reducible first|refine lld hL ?_|((first|refine lbx hL ?_|refine lal hL ?_|refine lbs hL ?_);clear hL;intro bl w1 hL)|(refine lst' hL ?_;clear hL;intro w1 hL)))
 have hpx:=hL.get (S:=fun w=>PicIs w ⟨xn,⟨xp,xvn,xc⟩,⟨xfp,xfn,xfc⟩⟩ smallF) cMm
 have hck:=fun (b0:Nat) w' (hb:Below w1.heap.size w1 w') (hc:CodeAt w' (smallP b0) smallIs)=>pCheck_any (smallP b0) smallIs _ smallF w' (show (2:Nat)≤9223372036854775807 by decide) hc (hpx.grow hb)
 simp only[small_cp1]at hck
 have HCK:=Lib.hid hck
 clear hpx hck
 obtain⟨ws,hws⟩:∃ x,x=w1:=⟨_,rfl⟩
 subst hws
 refine draw_begin [33,34,35,36,37,38,39,40,41,42,43,44,45,46,47,48,49,50,51,52,53,54,55,56,57,58,59,60,61,62,63,64,65,66,67,68,0] ?_
 refine dv0 ?_
 refine dv1 0 ?_
 refine dv1 1 ?_
 refine dv1 2 ?_
 refine dv2 3 2 ?_
 apply draw_val
 ·intro g w hb y;replace hL:=hL.grow hb;have d2:=yv y 2;have d4:=yv y 4;clear y;simp only[fillD,fLa,fLb,sTa,sTb];simp only[d2,d4]
  go_wp2
  exact cY
 simp only[apN,apC]
 refine dv1 5 ?_
 refine dv1 6 ?_
 refine dv2 7 6 ?_
 apply draw_val
 ·intro g w hb y;replace hL:=hL.grow hb;have d6:=yv y 6;have d8:=yv y 8;clear y;simp only[fillD,fLa,fLb,sTa,sTb];simp only[d6,d8]
  go_wp2
  exact cY
 simp only[apN,apC]
 refine dv1 9 ?_
 refine dv1 10 ?_
 refine dv2 11 10 ?_
 apply draw_val
 ·intro g w hb y;replace hL:=hL.grow hb;have d10:=yv y 10;have d12:=yv y 12;clear y;simp only[fillD,fLa,fLb,sTa,sTb];simp only[d10,d12]
  go_wp2
  exact cY
 simp only[apN,apC]
 refine dv1 13 ?_
 refine dv1 14 ?_
 apply draw_val
 ·intro g w hb y;replace hL:=hL.grow hb;have d14:=yv y 14;have d15:=yv y 15;clear y;simp only[fillD,fLa,fLb,sTa,sTb];simp only[d14,d15]
  go_wp2
  exact cY
 simp only[apN,apC]
 refine dv1 16 ?_
 refine draw_next (SmR ws.heap.size) SmR.stable ?_ ?_
 ·intro g w hb y;replace hL:=hL.grow hb;have d17:=yv y 17;clear y;simp only[fillD,fLa,fLb,sTa,sTb];simp only[d17]
  go_wp2_with (go_at_call 44;refine(small_any _).mono ?_;rintro e w3 ⟨b0,rfl,hge,hsm,hb3⟩;dsimp only)
  exact⟨rfl,_,rfl,hb3,b0,Nat.le_trans hb.size hge,rfl,hsm⟩
 simp only[apN,apC]
 refine dv1 17 ?_
 apply draw_val
 ·intro g w hb y;replace hL:=hL.grow hb;have d18:(SmR ws.heap.size) (g 51) w:=yr y 18;have s18:=Exists.choose_spec d18;generalize Exists.choose d18=b0 at s18;have m0:=s18.2.2;replace d18:=s18.2.1;have d19:=yv y 19;have d17:=yv y 17;clear y;simp only[fillD,fLa,fLb,sTa,sTb];simp only[d18,d19,d17]
  go_wp2_with (go_at_call 55;refine(HCK.out b0 _ hb (small_code m0)).mono ?_;rintro e w3 ⟨rfl,hb3⟩;dsimp only)
  exact⟨rfl,_,rfl,hb3,rfl⟩
 simp only[apN,apC]
 refine dv2 20 17 ?_
 apply draw_val
 ·intro g w hb y;replace hL:=hL.grow hb;have d17:=yv y 17;have d21:=yv y 21;clear y;simp only[fillD,fLa,fLb,sTa,sTb];simp only[d17,d21]
  go_wp2
  exact cY
 simp only[apN,apC]
 refine dv1 22 ?_
 refine dv1 23 ?_
 refine dv2 24 23 ?_
 refine dv2 25 23 ?_
 refine dv2 26 23 ?_
 apply draw_val
 ·intro g w hb y;replace hL:=hL.grow hb;have d23:=yv y 23;have d27:=yv y 27;clear y;simp only[fillD,fLa,fLb,sTa,sTb];simp only[d23,d27]
  go_wp2
  exact cY
 simp only[apN,apC]
 refine dv1 28 ?_
 refine dv1 29 ?_
 refine dv2 30 29 ?_
 refine dv2 31 29 ?_
 refine dv2 32 29 ?_
 refine dv2 33 29 ?_
 apply draw_val
 ·intro g w hb y;replace hL:=hL.grow hb;have d29:=yv y 29;have d34:=yv y 34;clear y;simp only[fillD,fLa,fLb,sTa,sTb];simp only[d29,d34]
  go_wp2
  exact cY
 simp only[apN,apC]
 refine dv1 35 ?_
 refine draw_end hL (by kernel_rfl) (by kernel_rfl) ?_
 intro g w2 hb hR;simp only[List.length_cons,List.length_nil,Nat.reduceAdd]at hR
 have e0:=yv hR 0
 have e1:=yv hR 1
 have e2:=yv hR 2
 have e3:=yv hR 3
 have e4:=yv hR 4
 have e5:=yv hR 5
 have e6:=yv hR 6
 have e7:=yv hR 7
 have e8:=yv hR 8
 have e9:=yv hR 9
 have e10:=yv hR 10
 have e11:=yv hR 11
 have e12:=yv hR 12
 have e13:=yv hR 13
 have e14:=yv hR 14
 have e15:=yv hR 15
 have e16:=yv hR 16
 have e17:=yv hR 17
 have e18:(SmR ws.heap.size) (g 51) w2:=yr hR 18
 have s18:=Exists.choose_spec e18;generalize Exists.choose e18=bz18 at s18;replace e18:=s18.2.1
 have e19:=yv hR 19
 have e20:=yv hR 20
 have e21:=yv hR 21
 have e22:=yv hR 22
 have e23:=yv hR 23
 have e24:=yv hR 24
 have e25:=yv hR 25
 have e26:=yv hR 26
 have e27:=yv hR 27
 have e28:=yv hR 28
 have e29:=yv hR 29
 have e30:=yv hR 30
 have e31:=yv hR 31
 have e32:=yv hR 32
 have e33:=yv hR 33
 have e34:=yv hR 34
 have e35:=yv hR 35
 have e36:=yv hR 36
 clear hR;simp only[fillD,fLa,fLb,sTa,sTb]
 simp only[e0,e1,e2,e3,e4,e5,e6,e7,e8,e9,e10,e11,e12,e13,e14,e15,e16,e17,e18,e19,e20,e21,e22,e23,e24,e25,e26,e27,e28,e29,e30,e31,e32,e33,e34,e35,e36]
 clear e0 e1 e2 e3 e4 e5 e6 e7 e8 e9 e10 e11 e12 e13 e14 e15 e16 e17 e18 e19 e20 e21 e22 e23 e24 e25 e26 e27 e28 e29 e30 e31 e32 e33 e34 e35 e36
 replace hL:=hL.grow hb
 clear hb
 go_wp2_with (first|(with_reducible first|refine lld hL ?_|((first|refine lbx hL ?_|refine lal hL ?_|refine lbs hL ?_);clear hL;intro bl w1 hL)|(refine lst' hL ?_;clear hL;intro w1 hL)))
 (try simp only[Exit.inBlock,Exit.then]);refine rt1 ?_
 exact⟨rfl,hL.below⟩
end Go.Proofs.YteoilpcbekijlaaGreatDoor
