/-  -/
import Derived.Test.YtplcndmdkabmeaaGreatDoorRunRun
import Derived.Test.YtplcndmdkabmeaaGreatDoorStpc
set_option linter.unusedSimpArgs false
set_option linter.unusedVariables false
set_option maxRecDepth 100000
namespace Go.Proofs.YtplcndmdkabmeaaGreatDoor
open Go.RowKit
abbrev nilS:Sl:=⟨none,0,0⟩
theorem nil_inputs (w:World):InputsAt w nilS (fun _=>0):=⟨⟨0,0,fun h=>absurd h (Nat.lt_irrefl 0),fun k hk=>absurd hk (Nat.not_lt_zero k)⟩,by decide⟩
abbrev smallEnd:Rs:=⟨2,[⟨1,5⟩],[],0,[⟨#[53]⟩],1⟩
abbrev smallOn:Rs:=⟨1,[⟨1,5⟩],[],0,[],0⟩
theorem line5:lineV ⟨1,5⟩=⟨#[53]⟩:=by
 have h:Lib.itoa 5=[53]:=by simp[Lib.itoa,Lib.decDigits]
 show (⟨(Lib.itoa 5).toArray⟩:ByteArray)=_
 rw[h]
theorem small_run (b:Nat):runN (smallP b) smallIs nilS (fun _=>0) 10 (beginS 1) 0=(smallEnd,3):=by
 have h:runN (smallP b) smallIs nilS (fun _=>0) 10 (beginS 1) 0=(⟨2,[⟨1,5⟩],[],0,[lineV ⟨1,5⟩],1⟩,3):=rfl
 rw[h,line5]
theorem small_stepR (b:Nat):stepS (smallP b) smallIs nilS (fun _=>0) (beginS 1)=smallOn:=rfl
theorem small_check {b:Nat}{r:Rn}{vs:Nat→Vl}{ths:Nat→Th}{fv:Nat→Nat→Vl}(h0:0≤r.at') (h1:r.at'≤2) (ht:r.taken=0) (he:r.ending=0) (hv:r.vars.n=1) (hn:r.things.n=0) (hx:isValue (vs 0) 0=true):
  checkRun (smallP b) smallIs r vs ths fv=0:=by
 have e1:placeBad (smallP b) r=false:=by simp[placeBad,ht,he];omega
 have e2:siteBad (smallP b) smallIs r ths=false:=by simp[siteBad,hn,anyN]
 have e3:lenBad (smallP b) r ths=false:=by simp[lenBad,hn,anyN]
 have e4:varBad r vs=false:=by simp[varBad,hv,hn,anyN,hx]
 have e5:fieldBad r ths fv=false:=by simp[fieldBad,hn,anyN]
 rw[checkRun,if_pos (small_right b)]
 simp[rightRun,e1,e2,e3,e4,e5,hv,hn]
theorem small_begin_right (b:Nat):RightS (smallP b) (beginS 1):=(Gone.begin (p:=smallP b) (n:=1) rfl (Int.natCast_nonneg _)).r
theorem small_step_any (b:Nat) (r:Rn) (w:World) (hc:CodeAt w (smallP b) smallIs) (hr:RunIs w r (beginS 1)) (hp:Pows w):
  Calls Tryz.prog 27 #[(smallP b).v,r.v,nilS.v] w fun e w'=>∃ r' ts Rv Rt Rl Rf,e=.returned (.tuple #[Rn.v r',.int .i64 0])∧RowsR r' smallOn ts Rv Rt Rl Rf∧Own w.heap.size w' (Rv++(Rt++(Rl++Rf)))∧Below w.heap.size w w':=by
 obtain⟨ths,h1,h2⟩:=hr.ex
 have h3:=runStep_ok (smallP b) smallIs nilS (fun _=>0) r (beginS 1) _ ths _ w (show (2:Nat)≤9223372036854775807 by decide) hc h1.l
  (small_check (by rw[hr.a];decide) (by rw[hr.a];decide) hr.t hr.e hr.nv hr.nt rfl) hr (small_begin_right b) (small_right b) (nil_inputs w) (by decide) hp
 rw[small_stepR]at h3
 exact h3
theorem small_check_any (b:Nat) (r:Rn) (w:World) (hc:CodeAt w (smallP b) smallIs) (hr:RunIs w r smallOn):
  Calls Tryz.prog 42 #[(smallP b).v,r.v] w fun e w'=>e=.returned (.int .i64 0)∧Below w.heap.size w w':=by
 obtain⟨ths,h1,h2⟩:=hr.ex
 have h3:=runCheck_any (smallP b) smallIs r _ ths _ w (show (2:Nat)≤9223372036854775807 by decide) hc h1.l
 rw[small_check (by rw[hr.a];decide) (by rw[hr.a];decide) hr.t hr.e hr.nv hr.nt rfl]at h3
 exact h3
end Go.Proofs.YtplcndmdkabmeaaGreatDoor
set_option linter.unusedSimpArgs false
set_option linter.unusedVariables false
set_option maxRecDepth 100000
set_option maxHeartbeats 4000000
namespace Go.Proofs.YtplcndmdkabmeaaGreatDoor
open Go.RowKit
theorem Own.join {B:Nat}{w:World}{R R' : List LBlk}(h:Own B w R) (h' : Own B w R') (hd:∀ e∈R,∀ e'∈R',e.2.1≠e'.2.1):Own B w (R++R'):=by
 refine⟨?_,fun e he=>?_⟩
 ·rw[List.map_append,List.nodup_append]
  refine⟨h.nodup,h'.nodup,fun a ha b hb hab=>?_⟩
  subst hab
  obtain⟨e,he,hee⟩:=List.mem_map.1 ha
  obtain⟨e',he',hee'⟩:=List.mem_map.1 hb
  have h1:=(h.at' e he).2
  have h2:=(h'.at' e' he').2
  rw[hee]at h1
  rw[hee',h1]at h2
  have h3:=Option.some.inj h2
  injection h3 with _ h4
  exact hd e he e' he' h4
 ·rcases List.mem_append.1 he with he|he
  ·exact h.at' e he
  ·exact h'.at' e he
theorem Own.one {B:Nat}{w:World}{b:Nat}{T:TypeId}{cs:List Value}(h1:B≤b) (h2:w.heap[b]? = some (.cells cs.toArray T (0,0))):Own B w [(b,T,cs)]:=
 ⟨by simp,fun e he=>by rw[List.mem_singleton.1 he];exact⟨h1,h2⟩⟩
theorem RowS.typesE {E:TypeId}{size:Nat}{p:Option Addr}{n cap:Nat}{xs:List Value}{R:List LBlk}(h:RowS E size p n cap xs R):∀ e∈R,e.2.1=E:=by
 rcases h.2 with⟨_,_,rfl⟩|⟨g,cs,_,rfl,_⟩
 ·intro e he;cases he
 ·intro e he;rw[List.mem_singleton.1 he]
theorem FRows.types {ts:List Th}{ths:List (Int × List Vl)}{R:List LBlk}(h:FRows ts ths R):∀ e∈R,e.2.1=77:=by
 induction h with
 | nil=>intro e he;cases he
 | cons h hs ih=>
  intro e he
  rcases List.mem_append.1 he with he|he
  ·exact h.typesE e he
  ·exact ih e he
theorem RowsR.types {r:Rn}{s:Rs}{ts:List Th}{Rv Rt Rl Rf:List LBlk}(h:RowsR r s ts Rv Rt Rl Rf):∀ e∈Rv++(Rt++(Rl++Rf)),e.2.1≠46:=by
 intro e he
 simp only[List.mem_append]at he
 rcases he with he|he|he|he
 ·rw[h.vars.typesE e he];decide
 ·rw[h.things.typesE e he];decide
 ·rw[h.lines.typesE e he];decide
 ·rw[h.fields.types e he];decide
theorem one_line {E:TypeId}{p:Option Addr}{n cap:Nat}{x:Value}{R:List LBlk}(h:RowS E 1 p n cap [x] R):∃ g cs,p=some ⟨g,0,none⟩∧n=1∧R=[(g,E,x::cs)]:=by
 obtain⟨h1,h2⟩:=h
 have hn:n=1:=by simpa using h1.symm
 rcases h2 with⟨h3,_,_⟩|⟨g,cs,hp,hR,_,_,hl,ht⟩
 ·omega
 ·subst hn
  cases cs with
  | nil=>simp at ht
  | cons c cs=>
   simp at ht
   subst ht
   exact⟨g,cs,hp,rfl,hR⟩
abbrev zeroRC:List Value:=[.int .i64 0,.slice none 0 0,.slice none 0 0,.int .i64 0,.slice none 0 0,.int .i64 0]
def TupR (B:Nat) (s:Rs):Value→World→Prop:=fun v w=>∃ r ts Rv Rt Rl Rf,v=.tuple #[Rn.v r,.int .i64 0]∧RowsR r s ts Rv Rt Rl Rf∧Own B w (Rv++(Rt++(Rl++Rf)))
theorem TupR.stable {B:Nat}{s:Rs}:Stable (TupR B s):=by
 rintro v w w' hb ⟨r,ts,Rv,Rt,Rl,Rf,h1,h2,h3⟩;exact⟨r,ts,Rv,Rt,Rl,Rf,h1,h2,h3.grow hb⟩
theorem runBegun_any (w:World) (hp:Pows w):
  Calls Tryz.prog 12 #[] w fun e w'=>e=.returned (.bool true)∧Below w.heap.size w w':=by
 have HPW:=Lib.hid hp
 clear hp
 have hL:=Loc.start w
 go_enter Tryz.func12,Tryz.ntmps12
 go_upto_region 3 with(first|(with_reducible first|refine lld hL ?_|((first|refine lbx hL ?_|refine lal hL ?_|refine lbs hL ?_);clear hL;intro bl w1 hL)|(refine lst' hL ?_;clear hL;intro w1 hL))|(go_at_call 39;refine(small_any _).mono ?_;rintro e w3 ⟨bs,rfl,hge,hsm,hb3⟩;replace hL:=hL.gain hb3 hge hsm;clear hge hsm hb3;(try dsimp only))|(go_at_call 15;refine(runRun_ok (smallP bs) smallIs nilS (fun _=>0) 10 1 _ (show (2:Nat)≤9223372036854775807 by decide) (small_code (hL.heap cIn)) (small_right bs) (nil_inputs _) (HPW.out.grow hL.below) rfl (by decide) (by decide)).mono ?_;rintro e w3 ⟨⟨ra,rv,rt,rk,⟨lp,ln,lc⟩,re⟩,ts,Rv,Rt,Rl,Rf,rfl,hR,ho,hb3⟩;rw[small_run]at hR;simp only[small_run];obtain⟨g1,cs1,e1,e2,e3⟩:=one_line hR.lines;dsimp only at e1 e2;obtain rfl:=(show re=1 from hR.e);subst e1 e2 e3;replace hL:=hL.gainTail hb3 (ho.sub (((List.sublist_append_left _ _).trans (List.sublist_append_right _ _)).trans (List.sublist_append_right _ _)));simp only[List.cons_append,List.nil_append]at hL;clear hR ho hb3;(try dsimp only))|(go_at_call 41;refine(runBegin_ok (smallP bs) smallIs 1 _ (show (2:Nat)≤9223372036854775807 by decide) (small_code (hL.heap cIn)) (small_right bs) rfl (by decide)).mono ?_;rintro e w3 ⟨⟨ra2,rv2,rt2,rk2,rl2,re2⟩,ts2,Rv2,Rt2,Rl2,Rf2,rfl,hR2,ho2,hb3⟩;replace hL:=hL.gainTail hb3 ho2;simp only[List.cons_append,List.nil_append]at hL;clear ho2 hb3;(try dsimp only)))
 have HB:=Lib.hid (hR2.is (hL.ownOf (by repeat (first|exact List.Sublist.refl _|apply List.Sublist.cons))))
 clear hR2
 obtain⟨wq,hwq⟩:∃ x,x=w1:=⟨_,rfl⟩
 subst hwq
 refine draw_begin [20,21,22,19,23,24,6] ?_
 refine draw_next (SmR wq.heap.size) SmR.stable ?_ ?_
 ·intro g w hb y;replace hL:=hL.grow hb;clear y;simp only[fillD,fLa,fLb,sTa,sTb]
  go_wp2_with (go_at_call 39;refine(small_any _).mono ?_;rintro e w3 ⟨b0,rfl,hge,hsm,hb3⟩;dsimp only)
  exact⟨rfl,_,rfl,hb3,b0,Nat.le_trans hb.size hge,rfl,hsm⟩
 simp only[apN,apC]
 refine dv0 ?_
 refine draw_next (TupR wq.heap.size smallOn) TupR.stable ?_ ?_
 ·intro g w hb y;replace hL:=hL.grow hb;have d0:(SmR wq.heap.size) (g 20) w:=yr y 0;obtain⟨b0,-,d0,m0⟩:=d0;have d1:=yv y 1;clear y;simp only[fillD,fLa,fLb,sTa,sTb];simp only[d0,d1]
  go_wp2_with (go_at_call 27;refine(small_step_any b0 ⟨ra2,rv2,rt2,rk2,rl2,re2⟩ _ (small_code m0) (HB.out.grow hb) (HPW.out.grow hL.below)).mono ?_;rintro e w3 ⟨r1,ts,Rv,Rt,Rl,Rf,rfl,hR1,ho1,hb1⟩;dsimp only)
  exact⟨rfl,_,rfl,hb1,r1,ts,Rv,Rt,Rl,Rf,rfl,hR1,ho1.mono hb.size⟩
 simp only[apN,apC]
 refine draw_next (TupR wq.heap.size smallOn) TupR.stable ?_ ?_
 ·intro g w hb y;replace hL:=hL.grow hb;have d2:(TupR wq.heap.size smallOn) (g 22) w:=yr y 2;obtain⟨r1,ts,Rv,Rt,Rl,Rf,d2,hR1,ho1⟩:=d2;clear y;simp only[fillD,fLa,fLb,sTa,sTb];simp only[d2]
  go_wp2_with (fail)
  exact⟨rfl,_,rfl,Below.refl _ _,r1,ts,Rv,Rt,Rl,Rf,rfl,hR1,ho1⟩
 simp only[apN,apC]
 refine draw_next (GivR wq.heap.size smallOn) GivR.stable ?_ ?_
 ·intro g w hb y;replace hL:=hL.grow hb;have d3:(TupR wq.heap.size smallOn) (g 19) w:=yr y 3;obtain⟨r1,ts,Rv,Rt,Rl,Rf,d3,hR1,ho1⟩:=d3;clear y;simp only[fillD,fLa,fLb,sTa,sTb];simp only[d3]
  go_wp2_with (fail)
  exact⟨rfl,_,rfl,Below.refl _ _,r1,ts,Rv,Rt,Rl,Rf,rfl,hR1,ho1⟩
 simp only[apN,apC]
 apply draw_val
 ·intro g w hb y;replace hL:=hL.grow hb;have d3:(TupR wq.heap.size smallOn) (g 19) w:=yr y 3;obtain⟨r1,ts,Rv,Rt,Rl,Rf,d3,hR1,ho1⟩:=d3;clear y;simp only[fillD,fLa,fLb,sTa,sTb];simp only[d3]
  go_wp2
  exact cY
 simp only[apN,apC]
 refine draw_next (PtrR wq.heap.size 46 zeroRC) PtrR.stable ?_ ?_
 ·intro g w hb y;replace hL:=hL.grow hb;clear y;simp only[fillD,fLa,fLb,sTa,sTb]
  go_wp2_with (fail)
  exact⟨rfl,_,rfl,(Below.refl _ _).alloc (Nat.le_refl _) _,_,hb.size,rfl,heap_new _ _⟩
 simp only[apN,apC]
 refine draw_end1 5 hL (by kernel_rfl) (by kernel_rfl) (fun _ _ _ _ _ h=>h) ?_ ?_
 ·refine late_ok rfl rfl ?_;intro g w hb y;have d3:(TupR wq.heap.size smallOn) (g 19) w:=yr y 3;obtain⟨r1,ts,Rv,Rt,Rl,Rf,d3,hR1,ho1⟩:=d3;clear y;simp only[fillD,fLa,fLb,sTa,sTb];simp only[d3]
  exact⟨_,.inl ⟨rfl,fun w=>(by go_simp)⟩,rfl⟩
 intro g w2 hb hR;simp only[List.length_cons,List.length_nil,Nat.reduceAdd]at hR
 have e0:(SmR wq.heap.size) (g 20) w2:=yr hR 0
 obtain⟨bz0,-,e0,-⟩:=e0
 have e1:=yv hR 1
 have e2:(TupR wq.heap.size smallOn) (g 22) w2:=yr hR 2
 obtain⟨rz2,-,-,-,-,-,e2,-,-⟩:=e2
 have e3:(TupR wq.heap.size smallOn) (g 19) w2:=yr hR 3
 obtain⟨rz3,-,-,-,-,-,e3,-,-⟩:=e3
 have e4:(GivR wq.heap.size smallOn) (g 23) w2:=yr hR 4
 obtain⟨⟨ra3,rv3,rt3,rk3,rl3,re3⟩,ts3,Rv3,Rt3,Rl3,Rf3,e4,hR3,ho3⟩:=e4;have hL0:=hL;have hb0:=hb
 have e5:=yv hR 5
 have e6:(PtrR wq.heap.size 46 zeroRC) (g 6) w2:=yr hR 6
 obtain⟨b6,p6,e6,c6⟩:=e6
 clear hR;simp only[fillD,fLa,fLb,sTa,sTb]
 simp only[e0,e1,e2,e3,e4,e5,e6]
 clear e0 e1 e2 e3 e4 e5 e6
 replace hL:=hL.grow hb
 clear hb
 have ho6:=(Own.one p6 c6).join ho3 (fun e he e' he'=>by rw[List.mem_singleton.1 he];exact(hR3.types e' he').symm)
 replace hL:=(hL0.gainOwn hb0 ho6).perm (List.Perm.cons _ List.perm_append_comm)
 clear hL0 hb0 ho6 ho3 p6 c6
 have HR3:=Lib.hid hR3
 have ea:ra3=1:=hR3.a
 subst ea
 clear hR3
 simp only[List.cons_append,List.nil_append]at hL
 go_upto_region 4 with(first|(with_reducible first|refine lld hL ?_|((first|refine lbx hL ?_|refine lal hL ?_|refine lbs hL ?_);clear hL;intro bl w1 hL)|(refine lst' hL ?_;clear hL;intro w1 hL)))
 have HC:=Lib.hid (HR3.out.is (hL.ownOf (by repeat (first|exact List.Sublist.refl _|exact List.sublist_append_right _ _|apply List.Sublist.cons))))
 clear HB HR3
 obtain⟨wr,hwr⟩:∃ x,x=w1:=⟨_,rfl⟩
 subst hwr
 refine draw_begin [25,26,27,28,29,30,31,32,33,34,35,36,37,38,39,40,41,42,43,44,45,46,47,48,49,50,51,52,53,54,55,56,57,58,59,60,61,62,63,64,65,66,67,0] ?_
 refine dv0 ?_
 refine dv1 0 ?_
 refine dv1 1 ?_
 refine dv1 2 ?_
 refine dv2 3 2 ?_
 apply draw_val
 ·intro g w hb y;replace hL:=hL.grow hb;have d2:=yv y 2;have d4:=yv y 4;clear y;simp only[fillD,fLa,fLb,sTa,sTb];simp only[d2,d4]
  go_wp2
  exact cY
 simp only[apN,apC]
 refine dv1 5 ?_
 refine dv1 6 ?_
 refine dv2 7 6 ?_
 apply draw_val
 ·intro g w hb y;replace hL:=hL.grow hb;have d6:=yv y 6;have d8:=yv y 8;clear y;simp only[fillD,fLa,fLb,sTa,sTb];simp only[d6,d8]
  go_wp2
  exact cY
 simp only[apN,apC]
 refine dv1 9 ?_
 refine dv1 10 ?_
 refine dv2 11 10 ?_
 apply draw_val
 ·intro g w hb y;replace hL:=hL.grow hb;have d10:=yv y 10;have d12:=yv y 12;clear y;simp only[fillD,fLa,fLb,sTa,sTb];simp only[d10,d12]
  go_wp2
  exact cY
 simp only[apN,apC]
 refine dv1 13 ?_
 refine dv1 14 ?_
 refine dv2 15 14 ?_
 refine dv2 16 14 ?_
 apply draw_val
 ·intro g w hb y;replace hL:=hL.grow hb;have d14:=yv y 14;have d17:=yv y 17;clear y;simp only[fillD,fLa,fLb,sTa,sTb];simp only[d14,d17]
  go_wp2
  exact cY
 simp only[apN,apC]
 refine dv1 18 ?_
 refine dv1 19 ?_
 refine dv2 20 19 ?_
 refine dv2 21 19 ?_
 refine dv2 22 19 ?_
 apply draw_val
 ·intro g w hb y;replace hL:=hL.grow hb;have d19:=yv y 19;have d23:=yv y 23;clear y;simp only[fillD,fLa,fLb,sTa,sTb];simp only[d19,d23]
  go_wp2
  exact cY
 simp only[apN,apC]
 refine dv1 24 ?_
 refine dv1 25 ?_
 refine dv2 26 25 ?_
 refine dv2 27 25 ?_
 refine dv2 28 25 ?_
 refine dv2 29 25 ?_
 apply draw_val
 ·intro g w hb y;replace hL:=hL.grow hb;have d25:=yv y 25;have d30:=yv y 30;clear y;simp only[fillD,fLa,fLb,sTa,sTb];simp only[d25,d30]
  go_wp2
  exact cY
 simp only[apN,apC]
 refine dv1 31 ?_
 refine dv1 32 ?_
 refine dv2 33 32 ?_
 refine dv2 34 32 ?_
 apply draw_val
 ·intro g w hb y;replace hL:=hL.grow hb;have d32:=yv y 32;have d35:=yv y 35;clear y;simp only[fillD,fLa,fLb,sTa,sTb];simp only[d32,d35]
  go_wp2
  exact cY
 simp only[apN,apC]
 refine dv1 36 ?_
 refine draw_next (SmR wr.heap.size) SmR.stable ?_ ?_
 ·intro g w hb y;replace hL:=hL.grow hb;have d37:=yv y 37;clear y;simp only[fillD,fLa,fLb,sTa,sTb];simp only[d37]
  go_wp2_with (go_at_call 39;refine(small_any _).mono ?_;rintro e w3 ⟨b0,rfl,hge,hsm,hb3⟩;dsimp only)
  exact⟨rfl,_,rfl,hb3,b0,Nat.le_trans hb.size hge,rfl,hsm⟩
 simp only[apN,apC]
 refine dv1 37 ?_
 apply draw_val
 ·intro g w hb y;replace hL:=hL.grow hb;have d38:(SmR wr.heap.size) (g 63) w:=yr y 38;have s38:=Exists.choose_spec d38;generalize Exists.choose d38=b0 at s38;have m0:=s38.2.2;replace d38:=s38.2.1;have d39:=yv y 39;have d37:=yv y 37;clear y;simp only[fillD,fLa,fLb,sTa,sTb];simp only[d38,d39,d37]
  go_wp2_with (go_at_call 42;refine(small_check_any _ ⟨1,rv3,rt3,rk3,rl3,re3⟩ _ (small_code m0) (HC.out.grow hb)).mono ?_;rintro e w3 ⟨rfl,hb3⟩;dsimp only)
  exact⟨rfl,_,rfl,hb3,rfl⟩
 simp only[apN,apC]
 refine dv2 40 37 ?_
 apply draw_val
 ·intro g w hb y;replace hL:=hL.grow hb;have d37:=yv y 37;have d41:=yv y 41;clear y;simp only[fillD,fLa,fLb,sTa,sTb];simp only[d37,d41]
  go_wp2
  exact cY
 simp only[apN,apC]
 refine dv1 42 ?_
 refine draw_end hL (by kernel_rfl) (by kernel_rfl) ?_
 intro g w2 hb hR;simp only[List.length_cons,List.length_nil,Nat.reduceAdd]at hR
 have e0:=yv hR 0
 have e1:=yv hR 1
 have e2:=yv hR 2
 have e3:=yv hR 3
 have e4:=yv hR 4
 have e5:=yv hR 5
 have e6:=yv hR 6
 have e7:=yv hR 7
 have e8:=yv hR 8
 have e9:=yv hR 9
 have e10:=yv hR 10
 have e11:=yv hR 11
 have e12:=yv hR 12
 have e13:=yv hR 13
 have e14:=yv hR 14
 have e15:=yv hR 15
 have e16:=yv hR 16
 have e17:=yv hR 17
 have e18:=yv hR 18
 have e19:=yv hR 19
 have e20:=yv hR 20
 have e21:=yv hR 21
 have e22:=yv hR 22
 have e23:=yv hR 23
 have e24:=yv hR 24
 have e25:=yv hR 25
 have e26:=yv hR 26
 have e27:=yv hR 27
 have e28:=yv hR 28
 have e29:=yv hR 29
 have e30:=yv hR 30
 have e31:=yv hR 31
 have e32:=yv hR 32
 have e33:=yv hR 33
 have e34:=yv hR 34
 have e35:=yv hR 35
 have e36:=yv hR 36
 have e37:=yv hR 37
 have e38:(SmR wr.heap.size) (g 63) w2:=yr hR 38
 have s38:=Exists.choose_spec e38;generalize Exists.choose e38=bz38 at s38;replace e38:=s38.2.1
 have e39:=yv hR 39
 have e40:=yv hR 40
 have e41:=yv hR 41
 have e42:=yv hR 42
 have e43:=yv hR 43
 clear hR;simp only[fillD,fLa,fLb,sTa,sTb]
 simp only[e0,e1,e2,e3,e4,e5,e6,e7,e8,e9,e10,e11,e12,e13,e14,e15,e16,e17,e18,e19,e20,e21,e22,e23,e24,e25,e26,e27,e28,e29,e30,e31,e32,e33,e34,e35,e36,e37,e38,e39,e40,e41,e42,e43]
 clear e0 e1 e2 e3 e4 e5 e6 e7 e8 e9 e10 e11 e12 e13 e14 e15 e16 e17 e18 e19 e20 e21 e22 e23 e24 e25 e26 e27 e28 e29 e30 e31 e32 e33 e34 e35 e36 e37 e38 e39 e40 e41 e42 e43
 replace hL:=hL.grow hb
 clear hb
 go_wp2_with (first|(with_reducible first|refine lld hL ?_|((first|refine lbx hL ?_|refine lal hL ?_|refine lbs hL ?_);clear hL;intro bl w1 hL)|(refine lst' hL ?_;clear hL;intro w1 hL)))
 (try simp only[Exit.inBlock,Exit.then]);refine rt1 ?_
 exact⟨rfl,hL.below⟩
end Go.Proofs.YtplcndmdkabmeaaGreatDoor
set_option linter.unusedSimpArgs false
set_option linter.unusedVariables false
set_option maxRecDepth 100000
set_option maxHeartbeats 2000000
namespace Go.Proofs.YtplcndmdkabmeaaGreatDoor
open Go.RowKit
theorem runRun_fuel (p:Pg) (is:Nat→Ins) (ins:Sl) (fuel:Int) (w:World) (hn:p.n≤9223372036854775807) (hc:CodeAt w p is) (hP:checkProg p is=0) (hf:fuel<0∨5000<fuel):
  Calls Tryz.prog 15 #[p.v,ins.v,.int .i64 fuel] w fun e w'=>e=.returned (.tuple #[zeroR.v,.int .i64 0,.int .i64 3])∧Below w.heap.size w w':=by
 have hk:=fun w' (hb:Below w.heap.size w w')=>codeCheck_any p is w' (hc.grow hb) hn
 rw[hP]at hk
 have HK:=Lib.hid hk
 clear hk hP hc hn
 by_cases h0:fuel<0
 ·have c0:decide (fuel<0)=true:=decide_eq_true h0
  clear hf h0
  have hL:=Loc.start w
  go_enter Tryz.func15,Tryz.ntmps15
  go_wp2_with (first|(with_reducible first|refine lld hL ?_|((first|refine lbx hL ?_|refine lal hL ?_|refine lbs hL ?_);clear hL;intro bl w1 hL)|(refine lst' hL ?_;clear hL;intro w1 hL))|(go_at_call 43;refine(HK.out _ hL.below).mono ?_;rintro e w1 ⟨rfl,hb⟩;replace hL:=hL.grow hb;clear hb;dsimp only))
  (try simp only[Exit.inBlock,Exit.then]);refine rt3 ?_
  exact⟨rfl,hL.below⟩
 ·have c0:decide (fuel<0)=false:=decide_eq_false h0
  have c1:decide ((5000:Int)<fuel)=true:=decide_eq_true (by omega)
  clear hf h0
  have hL:=Loc.start w
  go_enter Tryz.func15,Tryz.ntmps15
  go_wp2_with (first|(with_reducible first|refine lld hL ?_|((first|refine lbx hL ?_|refine lal hL ?_|refine lbs hL ?_);clear hL;intro bl w1 hL)|(refine lst' hL ?_;clear hL;intro w1 hL))|(go_at_call 43;refine(HK.out _ hL.below).mono ?_;rintro e w1 ⟨rfl,hb⟩;replace hL:=hL.grow hb;clear hb;dsimp only))
  (try simp only[Exit.inBlock,Exit.then]);refine rt3 ?_
  exact⟨rfl,hL.below⟩
end Go.Proofs.YtplcndmdkabmeaaGreatDoor
