/- The walks over the package span: what each call computes. Conditions: the ends of Made's spans lie in range. | The walks over the package span: its exported functions on two spans. Conditions: none. | The walks over the package span: what comes of two spans. Conditions: the ends lie in range. | The walks over the reference's functions on spans. Conditions: the ends of DoSpan's spans lie in range. | The walks over the reference's functions on spans. Conditions: the ends of DoSpan's spans lie in range. | The walks over what the laws on spans lean on. Conditions: none. | The plain laws of spans, with no program in sight: whatever comes of numbers is in what comes of spans that have them; what is widened again and again stays. Conditions: the spans are right. | The walks over the reference's functions on spans: MeetSpan, SpanIn, DoSpan. Conditions: the spans are right. | The walk over the reference's DoSpan. Conditions: the spans are right. -/
import Derived.Test.YtplcndmdkabmeaaGreatDoorCod
import Derived.Deep.QuietTactic
import Derived.BigQuiet
import Derived.Test.YtplcndmdkabmeaaGreatDoorLib
set_option linter.unusedSimpArgs false
set_option linter.unusedVariables false
set_option maxRecDepth 100000
set_option maxHeartbeats 4000000
namespace Go.Proofs.YtplcndmdkabmeaaGreatDoor
open Go.RowKit
theorem Gb (n:Int) (w:World):
  Calls Tryz.prog 226 #[.int .i64 n] w fun e w'=>e=.returned (.bool (jm n))∧w=w':=by
 by_cases h1:-2147483648≤n
 all_goals
  go_enter Tryz.func226,Tryz.ntmps226
  go_wp2
  go_ret
  exact⟨by simp[jm];omega,rfl⟩
theorem yL (a b:Int) (w:World):
  Calls Tryz.prog 106 #[.int .i64 a,.int .i64 b] w fun e w'=>e=.returned (zq.v ⟨false,a,b⟩)∧Below w.heap.size w w':=by
 have hL:=Loc.start w
 go_enter Tryz.func106,Tryz.ntmps106
 go_wp2_with (first|(with_reducible first|(refine lal hL ?_;clear hL;intro bl w1 hL)|(refine zd hL ?_;clear hL;intro w1 hL)))
 all_goals
  refine rt1 ?_
  exact⟨by rfl,hL.below⟩
theorem Zc  (w:World):
  Calls Tryz.prog 181 #[] w fun e w'=>e=.returned (zC.v)∧Below w.heap.size w w':=by
 have hL:=Loc.start w
 go_enter Tryz.func181,Tryz.ntmps181
 go_wp2_with (first|(with_reducible first|(refine lal hL ?_;clear hL;intro bl w1 hL)|(refine zd hL ?_;clear hL;intro w1 hL)))
 all_goals
  refine rt1 ?_
  exact⟨by rfl,hL.below⟩
theorem Js (s t:zq) (w:World):
  Calls Tryz.prog 60 #[s.v,t.v] w fun e w'=>e=.returned ((both s t).v)∧Below w.heap.size w w':=by
 have hL:=Loc.start w
 go_enter Tryz.func60,Tryz.ntmps60
 go_wp2_with (first|(with_reducible first|refine lld hL ?_|((first|refine lbx hL ?_|refine lal hL ?_);clear hL;intro bl w1 hL)|(refine zd hL ?_;clear hL;intro w1 hL))|(go_at_call 106;refine(yL _ _ _).mono ?_;rintro e w1 ⟨rfl,hb⟩;replace hL:=hL.grow hb;clear hb;dsimp only))
 all_goals
  refine rt1 ?_
  exact⟨by simp[both, *]<;>omega,hL.below⟩
theorem zgh (s:zq) (n:Int) (w:World):
  Calls Tryz.prog 182 #[s.v,.int .i64 n] w fun e w'=>e=.returned (.bool (jT s n))∧Below w.heap.size w w':=by
 have hL:=Loc.start w
 go_enter Tryz.func182,Tryz.ntmps182
 go_wp2_with (first|(with_reducible first|refine lld hL ?_|(refine lbx hL ?_;clear hL;intro bl w1 hL)))
 all_goals
  refine rt1 ?_
  exact⟨by simp_all [jT]<;>omega,hL.below⟩
theorem zbo (s t:zq) (w:World):
  Calls Tryz.prog 190 #[s.v,t.v] w fun e w'=>e=.returned (.bool (yJ s t))∧Below w.heap.size w w':=by
 have hL:=Loc.start w
 go_enter Tryz.func190,Tryz.ntmps190
 go_wp2_with (first|(with_reducible first|refine lld hL ?_|(refine lbx hL ?_;clear hL;intro bl w1 hL)))
 all_goals
  refine rt1 ?_
  exact⟨by simp_all [yJ]<;>omega,hL.below⟩
theorem Vu (s t:zq) (w:World):
  Calls Tryz.prog 203 #[s.v,t.v] w fun e w'=>e=.returned ((ji s t).v)∧Below w.heap.size w w':=by
 have hL:=Loc.start w
 go_enter Tryz.func203,Tryz.ntmps203
 go_wp2_with (first|(with_reducible first|refine lld hL ?_|((first|refine lbx hL ?_|refine lal hL ?_);clear hL;intro bl w1 hL)|(refine zd hL ?_;clear hL;intro w1 hL))|(go_at_call 106;refine(yL _ _ _).mono ?_;rintro e w1 ⟨rfl,hb⟩;replace hL:=hL.grow hb;clear hb;dsimp only)|(go_at_call 181;refine(Zc _).mono ?_;rintro e w1 ⟨rfl,hb⟩;replace hL:=hL.grow hb;clear hb;dsimp only))
 all_goals
  refine rt1 ?_
  exact⟨by simp[ji, *]<;>(try (split<;>simp<;>omega)),hL.below⟩
theorem zda (s t:zq) (w:World):
  Calls Tryz.prog 61 #[s.v,t.v] w fun e w'=>e=.returned ((jA s t).v)∧Below w.heap.size w w':=by
 have hL:=Loc.start w
 go_enter Tryz.func61,Tryz.ntmps61
 go_wp2_with (first|(with_reducible first|refine lld hL ?_|((first|refine lbx hL ?_|refine lal hL ?_);clear hL;intro bl w1 hL)|(refine zd hL ?_;clear hL;intro w1 hL))|(go_at_call 60;refine(Js _ _ _).mono ?_;rintro e w1 ⟨rfl,hb⟩;replace hL:=hL.grow hb;clear hb;dsimp only))
 all_goals
  refine rt1 ?_
  exact⟨by simp[jA,both, *]<;>omega,hL.below⟩
theorem zek (ts:Array TypeId) (t:TypeId) (P:Program) (x y z u:Int) (w:World):(Builtin.min_ ts t #[.int .i64 x,.int .i64 y,.int .i64 z,.int .i64 u]).run P w=.ok (.int .i64 (KO x y z u)) w:=by
 simp[Builtin.min_,Builtin.min2,KO,min2];rfl
theorem zel (ts:Array TypeId) (t:TypeId) (P:Program) (x y z u:Int) (w:World):(Builtin.max_ ts t #[.int .i64 x,.int .i64 y,.int .i64 z,.int .i64 u]).run P w=.ok (.int .i64 (KP x y z u)) w:=by
 simp[Builtin.max_,Builtin.max2,KP,max2]
def YA (s:zq):Prop:=-2147483648≤s.lo∧s.lo≤2147483647∧-2147483648≤s.hi∧s.hi≤2147483647
theorem Qd {a b:Int}(h1:-2147483648≤a) (h2:a≤2147483647) (h3:-2147483648≤b) (h4:b≤2147483647):-4611686018427387904≤a*b∧a*b≤4611686018427387904:=by
 have e1:(a+2147483648)*(b+2147483648) ≥ 0:=Int.mul_nonneg (by omega) (by omega)
 have e2:(2147483647 - a)*(2147483647 - b) ≥ 0:=Int.mul_nonneg (by omega) (by omega)
 have e3:(a+2147483648)*(2147483647 - b) ≥ 0:=Int.mul_nonneg (by omega) (by omega)
 have e4:(2147483647 - a)*(b+2147483648) ≥ 0:=Int.mul_nonneg (by omega) (by omega)
 simp only[Int.add_mul,Int.mul_add,Int.sub_mul,Int.mul_sub]at e1 e2 e3 e4
 omega
theorem zem (s t:zq) (h1:YA s) (h2:YA t) (hs:s.none=false) (ht:t.none=false) (w:World):
  Calls Tryz.prog 234 #[.int .i64 7,s.v,t.v] w fun e w'=>e=.returned (QK 7 s t).v∧Below w.heap.size w w':=by
 have a1:=Qd h1.1 h1.2.1 h2.1 h2.2.1
 have a2:=Qd h1.1 h1.2.1 h2.2.2.1 h2.2.2.2
 have a3:=Qd h1.2.2.1 h1.2.2.2 h2.1 h2.2.1
 have a4:=Qd h1.2.2.1 h1.2.2.2 h2.2.2.1 h2.2.2.2
 have q1:=zek #[3,3,3,3] 3 Tryz.prog
 have q2:=zel #[3,3,3,3] 3 Tryz.prog
 obtain⟨b1,b2,b3,b4⟩:=h1
 obtain⟨c1,c2,c3,c4⟩:=h2
 have hL:=Loc.start w
 go_enter Tryz.func234,Tryz.ntmps234
 go_wp2_with (first|(with_reducible first|refine lld hL ?_|((first|refine lbx hL ?_|refine lal hL ?_);clear hL;intro bl w1 hL)|(refine zd hL ?_;clear hL;intro w1 hL))|(go_at_call 106;refine(yL _ _ _).mono ?_;rintro e w1 ⟨rfl,hb⟩;replace hL:=hL.grow hb;clear hb;dsimp only))
 (have hq:=hL.all;simp only[List.forall_mem_cons,List.forall_mem_nil,and_true]at hq;go_quiet (fail);clear hq;rename_i nq;replace hL:=hL.grow (below_drewN (Below.refl _ _) nq);generalize World.drewN _ nq=w1 at hL ⊢;clear nq)
 go_wp2_with (first|(with_reducible first|refine lld hL ?_|(refine zd hL ?_;clear hL;intro w1 hL))|(go_at_call 106;refine(yL _ _ _).mono ?_;rintro e w1 ⟨rfl,hb⟩;replace hL:=hL.grow hb;clear hb;dsimp only)|(go_at_call 226;refine(Gb _ _).mono ?_;rintro e w' ⟨rfl,rfl⟩;dsimp only))
 all_goals
  refine rt1 ?_
  exact⟨by simp_all [QK,jM],hL.below⟩
theorem zdb (k:Int) (s t:zq) (h:(s.none || t.none)=true) (w:World):
  Calls Tryz.prog 234 #[.int .i64 k,s.v,t.v] w fun e w'=>e=.returned (QK k s t).v∧Below w.heap.size w w':=by
 have hL:=Loc.start w
 cases hs:s.none
 ·have ht:t.none=true:=by simpa [hs] using h
  clear h
  go_enter Tryz.func234,Tryz.ntmps234
  go_wp2_with (first|(with_reducible first|refine lld hL ?_|((first|refine lbx hL ?_|refine lal hL ?_);clear hL;intro bl w1 hL)|(refine zd hL ?_;clear hL;intro w1 hL))|(go_at_call 106;refine(yL _ _ _).mono ?_;rintro e w1 ⟨rfl,hb⟩;replace hL:=hL.grow hb;clear hb;dsimp only)|(go_at_call 181;refine(Zc _).mono ?_;rintro e w1 ⟨rfl,hb⟩;replace hL:=hL.grow hb;clear hb;dsimp only)|(go_at_call 226;refine(Gb _ _).mono ?_;rintro e w' ⟨rfl,rfl⟩;dsimp only))
  refine rt1 ?_
  exact⟨by simp[QK,hs,ht],hL.below⟩
 ·clear h
  go_enter Tryz.func234,Tryz.ntmps234
  go_wp2_with (first|(with_reducible first|refine lld hL ?_|((first|refine lbx hL ?_|refine lal hL ?_);clear hL;intro bl w1 hL)|(refine zd hL ?_;clear hL;intro w1 hL))|(go_at_call 106;refine(yL _ _ _).mono ?_;rintro e w1 ⟨rfl,hb⟩;replace hL:=hL.grow hb;clear hb;dsimp only)|(go_at_call 181;refine(Zc _).mono ?_;rintro e w1 ⟨rfl,hb⟩;replace hL:=hL.grow hb;clear hb;dsimp only)|(go_at_call 226;refine(Gb _ _).mono ?_;rintro e w' ⟨rfl,rfl⟩;dsimp only))
  refine rt1 ?_
  exact⟨by simp[QK,hs],hL.below⟩
theorem zac (k:Int) (hk:k=5∨k=6) (s t:zq) (h1:YA s) (h2:YA t) (hs:s.none=false) (ht:t.none=false) (w:World):
  Calls Tryz.prog 234 #[.int .i64 k,s.v,t.v] w fun e w'=>e=.returned (QK k s t).v∧Below w.heap.size w w':=by
 obtain⟨b1,b2,b3,b4⟩:=h1
 obtain⟨c1,c2,c3,c4⟩:=h2
 have hL:=Loc.start w
 rcases hk with rfl|rfl
 all_goals
  go_enter Tryz.func234,Tryz.ntmps234
  go_wp2_with (first|(with_reducible first|refine lld hL ?_|((first|refine lbx hL ?_|refine lal hL ?_);clear hL;intro bl w1 hL)|(refine zd hL ?_;clear hL;intro w1 hL))|(go_at_call 106;refine(yL _ _ _).mono ?_;rintro e w1 ⟨rfl,hb⟩;replace hL:=hL.grow hb;clear hb;dsimp only)|(go_at_call 181;refine(Zc _).mono ?_;rintro e w1 ⟨rfl,hb⟩;replace hL:=hL.grow hb;clear hb;dsimp only)|(go_at_call 226;refine(Gb _ _).mono ?_;rintro e w' ⟨rfl,rfl⟩;dsimp only))
  all_goals
   refine rt1 ?_
   exact⟨by simp_all [QK,jM],hL.below⟩
theorem zen (k:Int) (hk:k=5∨k=6∨k=7) (s t:zq) (h1:YA s) (h2:YA t) (w:World):
  Calls Tryz.prog 234 #[.int .i64 k,s.v,t.v] w fun e w'=>e=.returned (QK k s t).v∧Below w.heap.size w w':=by
 by_cases h:(s.none || t.none)=true
 ·exact zdb k s t h w
 ·simp only[Bool.or_eq_true,not_or,Bool.not_eq_true]at h
  rcases hk with hk|hk|hk
  ·exact zac k (.inl hk) s t h1 h2 h.1 h.2 w
  ·exact zac k (.inr hk) s t h1 h2 h.1 h.2 w
  ·subst hk;exact zem s t h1 h2 h.1 h.2 w
theorem Gc {s:zq}(h:zm s=0):YA s:=by
 unfold zm at h
 by_cases hr:(!jm s.lo || !jm s.hi)=true
 ·rw[if_pos hr]at h;cases h
 ·simp only[Bool.or_eq_true,Bool.not_eq_true',not_or,Bool.not_eq_false]at hr
  have h1:=yt.1 hr.1
  have h2:=yt.1 hr.2
  exact⟨h1.1,h1.2,h2.1,h2.2⟩
theorem zbp (n:Int):z6 n (-2147483648) 2147483647=jm n:=rfl
theorem QE (s:zq) (w:World):
  Calls Tryz.prog 177 #[s.v] w fun e w'=>e=.returned (.int .i64 (zm s))∧Below w.heap.size w w':=by
 have hL:=Loc.start w
 go_enter Tryz.func177,Tryz.ntmps177
 go_wp2_with (first|(with_reducible first|refine lld hL ?_|(refine lbx hL ?_;clear hL;intro bl w1 hL))|(go_at_call 54;refine(qp _ _ _ _).mono ?_;rintro e w' ⟨rfl,rfl⟩;dsimp only;try simp only[zbp]))
 all_goals
  refine rt1 ?_
  exact⟨by simp_all [zm],hL.below⟩
theorem zcg (s:zq) (n:Int) (w:World):
  Calls Tryz.prog 80 #[s.v,.int .i64 n] w fun e w'=>e=.returned (.bool (jT s n))∧Below w.heap.size w w':=by
 have hL:=Loc.start w
 go_enter Tryz.func80,Tryz.ntmps80
 go_wp2_with (first|(with_reducible first|refine lld hL ?_|(refine lbx hL ?_;clear hL;intro bl w1 hL))|(go_at_call 54;refine(qp _ _ _ _).mono ?_;rintro e w' ⟨rfl,rfl⟩;dsimp only))
 all_goals
  refine rt1 ?_
  exact⟨by simp_all [jT,z6],hL.below⟩
theorem zbq (b o cap:Nat) (x0 x1:Int) (w:World) (c0:w.cell? ⟨b,o,none⟩=some (.int .i64 x0)) (c1:w.cell? ⟨b,o+1,none⟩=some (.int .i64 x1)):
  Calls Tryz.prog 175 #[.slice (some ⟨b,o,none⟩) 2 cap] w fun e w'=>e=.returned (.int .i64 (min2 x0 x1))∧w=w':=by
 go_enter Tryz.func175,Tryz.ntmps175
 go_wp2_with (first|((with_reducible refine wp_loop_rounds 5 ?_))|(with_reducible refine qr ?_))
 all_goals
  go_ret
  exact⟨by simp_all [min2];try omega,rfl⟩
theorem zbr (b o cap:Nat) (x0 x1 x2 x3:Int) (w:World) (c0:w.cell? ⟨b,o,none⟩=some (.int .i64 x0)) (c1:w.cell? ⟨b,o+1,none⟩=some (.int .i64 x1))
  (c2:w.cell? ⟨b,o+2,none⟩=some (.int .i64 x2)) (c3:w.cell? ⟨b,o+3,none⟩=some (.int .i64 x3)):
  Calls Tryz.prog 175 #[.slice (some ⟨b,o,none⟩) 4 cap] w fun e w'=>e=.returned (.int .i64 (KO x0 x1 x2 x3))∧w=w':=by
 go_enter Tryz.func175,Tryz.ntmps175
 go_wp2_with (first|((with_reducible refine wp_loop_rounds 5 ?_))|(with_reducible refine qr ?_))
 all_goals
  go_ret
  exact⟨by simp_all [KO,min2];try omega,rfl⟩
theorem zeo (b o cap:Nat) (x0 x1:Int) (w:World) (c0:w.cell? ⟨b,o,none⟩=some (.int .i64 x0)) (c1:w.cell? ⟨b,o+1,none⟩=some (.int .i64 x1)):
  Calls Tryz.prog 176 #[.slice (some ⟨b,o,none⟩) 2 cap] w fun e w'=>e=.returned (.int .i64 (max2 x0 x1))∧w=w':=by
 go_enter Tryz.func176,Tryz.ntmps176
 go_wp2_with (first|((with_reducible refine wp_loop_rounds 5 ?_))|(with_reducible refine qr ?_))
 all_goals
  go_ret
  exact⟨by simp_all [max2];try omega,rfl⟩
theorem zep (b o cap:Nat) (x0 x1 x2 x3:Int) (w:World) (c0:w.cell? ⟨b,o,none⟩=some (.int .i64 x0)) (c1:w.cell? ⟨b,o+1,none⟩=some (.int .i64 x1))
  (c2:w.cell? ⟨b,o+2,none⟩=some (.int .i64 x2)) (c3:w.cell? ⟨b,o+3,none⟩=some (.int .i64 x3)):
  Calls Tryz.prog 176 #[.slice (some ⟨b,o,none⟩) 4 cap] w fun e w'=>e=.returned (.int .i64 (KP x0 x1 x2 x3))∧w=w':=by
 go_enter Tryz.func176,Tryz.ntmps176
 go_wp2_with (first|((with_reducible refine wp_loop_rounds 5 ?_))|(with_reducible refine qr ?_))
 all_goals
  go_ret
  exact⟨by simp_all [KP,max2];try omega,rfl⟩
theorem KY (s t:zq) (w:World):
  Calls Tryz.prog 119 #[s.v,t.v,.bool false] w fun e w'=>e=.returned ((both s t).v)∧Below w.heap.size w w':=by
 have hL:=Loc.start w
 go_enter Tryz.func119,Tryz.ntmps119
 go_wp2_with (first|(with_reducible first|refine lld hL ?_|((first|refine lbx hL ?_|refine lal hL ?_);clear hL;intro bl w1 hL)|(refine zd hL ?_;clear hL;intro w1 hL)))
 ·refine rt1 ?_
  exact⟨by simp_all [both],hL.below⟩
 ·refine rt1 ?_
  exact⟨by simp_all [both],hL.below⟩
 have h1:s.none=false:=by assumption
 have h2:t.none=false:=by assumption
 simp only[h1,h2]
 refine zf [14,15,16,17,18,19,20,21,22,23,24,25,26,7] ?_
 iterate 4 (refine' zb ?_ ?_;rotate_left;(focus(intro g w hb q;replace hL:=hL.grow hb;(try simp[zi,List.filter_cons,Region.binds,z7,RAt]at q);simp only[za,List.foldl_cons,List.foldl_nil,List.set_cons_succ,List.set_cons_zero];(try simp only[q]);go_wp2_with (first|(with_reducible refine lld hL ?_)|(with_reducible refine ldD hL ?_));exact⟨rfl,_,rfl,Below.refl _ _,rfl⟩));simp only[List.nil_append,List.cons_append])
 refine zh (Kh 3 2 [.int .i64 s.lo,.int .i64 t.lo]) Kh.stable ?_ ?_
 ·intro g w hb q;replace hL:=hL.grow hb;(try simp[zi,List.filter_cons,Region.binds,z7,RAt]at q);simp only[za,List.foldl_cons,List.foldl_nil,List.set_cons_succ,List.set_cons_zero]
  (try simp only[q])
  go_wp2
  exact⟨rfl,_,rfl,(Below.refl _ _).alloc (Nat.le_refl _) _,_,rfl,zI _ _⟩
 simp only[apN,apC]
 refine' zb ?_ ?_
 rotate_left
 focus
  intro g w hb q;replace hL:=hL.grow hb;(try simp[zi,List.filter_cons,Region.binds,z7,RAt]at q);simp only[za,List.foldl_cons,List.foldl_nil,List.set_cons_succ,List.set_cons_zero]
  obtain⟨b,e1,e2⟩:=q;simp only[e1]
  go_wp2_with (go_at_call 175;refine(zbq _ _ _ _ _ _ (zF e2 0 rfl) (zF e2 1 rfl)).mono ?_;rintro e w' ⟨rfl,rfl⟩;dsimp only)
  exact⟨rfl,_,rfl,Below.refl _ _,rfl⟩
 simp only[apN,apC]
 iterate 4 (refine' zb ?_ ?_;rotate_left;(focus(intro g w hb q;replace hL:=hL.grow hb;(try simp[zi,List.filter_cons,Region.binds,z7,RAt]at q);simp only[za,List.foldl_cons,List.foldl_nil,List.set_cons_succ,List.set_cons_zero];(try simp only[q]);go_wp2_with (first|(with_reducible refine lld hL ?_)|(with_reducible refine ldD hL ?_));exact⟨rfl,_,rfl,Below.refl _ _,rfl⟩));simp only[List.nil_append,List.cons_append])
 refine zh (Kh 3 2 [.int .i64 s.hi,.int .i64 t.hi]) Kh.stable ?_ ?_
 ·intro g w hb q;replace hL:=hL.grow hb;(try simp[zi,List.filter_cons,Region.binds,z7,RAt]at q);simp only[za,List.foldl_cons,List.foldl_nil,List.set_cons_succ,List.set_cons_zero]
  (try simp only[q])
  go_wp2
  exact⟨rfl,_,rfl,(Below.refl _ _).alloc (Nat.le_refl _) _,_,rfl,zI _ _⟩
 simp only[apN,apC]
 refine' zb ?_ ?_
 rotate_left
 focus
  intro g w hb q;replace hL:=hL.grow hb;(try simp[zi,List.filter_cons,Region.binds,z7,RAt]at q);simp only[za,List.foldl_cons,List.foldl_nil,List.set_cons_succ,List.set_cons_zero]
  obtain⟨⟨b,e1,e2⟩,e3⟩:=q;simp only[e1]
  go_wp2_with (go_at_call 176;refine(zeo _ _ _ _ _ _ (zF e2 0 rfl) (zF e2 1 rfl)).mono ?_;rintro e w' ⟨rfl,rfl⟩;dsimp only)
  exact⟨rfl,_,rfl,Below.refl _ _,rfl⟩
 simp only[apN,apC]
 (refine' zb ?_ ?_;rotate_left;(focus(intro g w hb q;replace hL:=hL.grow hb;(try simp[zi,List.filter_cons,Region.binds,z7,RAt]at q);simp only[za,List.foldl_cons,List.foldl_nil,List.set_cons_succ,List.set_cons_zero];(try simp only[q]);go_wp2_with (first|(with_reducible refine lld hL ?_)|(with_reducible refine ldD hL ?_));exact⟨rfl,_,rfl,Below.refl _ _,rfl⟩));simp only[List.nil_append,List.cons_append])
 refine zh (YX w1.heap.size 106 [.bool false,.int .i64 0,.int .i64 0]) YX.stable ?_ ?_
 ·intro g w hb q;replace hL:=hL.grow hb;(try simp[zi,List.filter_cons,Region.binds,z7,RAt]at q);simp only[za,List.foldl_cons,List.foldl_nil,List.set_cons_succ,List.set_cons_zero]
  go_wp2
  exact⟨rfl,_,rfl,(Below.refl _ _).alloc (Nat.le_refl _) _,_,hb.size,rfl,zI _ _⟩
 simp only[apN,apC]
 refine zO hL (by kernel_rfl) (by kernel_rfl) ?_;intro g w2 hb hR;simp[z7,RAt,List.range,List.range.loop]at hR;simp only[za,List.foldl_cons,List.foldl_nil,List.set_cons_succ,List.set_cons_zero,hR]
 obtain⟨b7,k1,k2,k3⟩:YX w1.heap.size 106 [.bool false,.int .i64 0,.int .i64 0] (g 7) w2:=by simp only[hR]
 replace hL:=hL.gain hb k1 k3
 simp only[k2]
 clear k1 k2 k3
 clear hR hb h1 h2
 go_wp2_with (first|(with_reducible first|refine lld hL ?_|(refine zd hL ?_;clear hL;intro w1 hL)))
 all_goals
  refine rt1 ?_
  exact⟨by simp_all [both,min2,max2]<;>(first|omega|(split<;>omega)|(split<;>split<;>omega)),hL.below⟩
theorem zbs (s t:zq) (w:World):
  Calls Tryz.prog 119 #[s.v,t.v,.bool true] w fun e w'=>e=.returned ((jA s t).v)∧Below w.heap.size w w':=by
 have hL:=Loc.start w
 go_enter Tryz.func119,Tryz.ntmps119
 go_wp2_with (first|(with_reducible first|refine lld hL ?_|((first|refine lbx hL ?_|refine lal hL ?_);clear hL;intro bl w1 hL)|(refine zd hL ?_;clear hL;intro w1 hL)))
 ·refine rt1 ?_
  exact⟨by simp_all [jA,both],hL.below⟩
 ·refine rt1 ?_
  exact⟨by simp_all [jA,both],hL.below⟩
 have h1:s.none=false:=by assumption
 have h2:t.none=false:=by assumption
 simp only[h1,h2]
 refine zf [14,15,16,17,18,19,20,21,22,23,24,25,26,7] ?_
 iterate 4 (refine' zb ?_ ?_;rotate_left;(focus(intro g w hb q;replace hL:=hL.grow hb;(try simp[zi,List.filter_cons,Region.binds,z7,RAt]at q);simp only[za,List.foldl_cons,List.foldl_nil,List.set_cons_succ,List.set_cons_zero];(try simp only[q]);go_wp2_with (first|(with_reducible refine lld hL ?_)|(with_reducible refine ldD hL ?_));exact⟨rfl,_,rfl,Below.refl _ _,rfl⟩));simp only[List.nil_append,List.cons_append])
 refine zh (Kh 3 2 [.int .i64 s.lo,.int .i64 t.lo]) Kh.stable ?_ ?_
 ·intro g w hb q;replace hL:=hL.grow hb;(try simp[zi,List.filter_cons,Region.binds,z7,RAt]at q);simp only[za,List.foldl_cons,List.foldl_nil,List.set_cons_succ,List.set_cons_zero]
  (try simp only[q])
  go_wp2
  exact⟨rfl,_,rfl,(Below.refl _ _).alloc (Nat.le_refl _) _,_,rfl,zI _ _⟩
 simp only[apN,apC]
 refine' zb ?_ ?_
 rotate_left
 focus
  intro g w hb q;replace hL:=hL.grow hb;(try simp[zi,List.filter_cons,Region.binds,z7,RAt]at q);simp only[za,List.foldl_cons,List.foldl_nil,List.set_cons_succ,List.set_cons_zero]
  obtain⟨b,e1,e2⟩:=q;simp only[e1]
  go_wp2_with (go_at_call 175;refine(zbq _ _ _ _ _ _ (zF e2 0 rfl) (zF e2 1 rfl)).mono ?_;rintro e w' ⟨rfl,rfl⟩;dsimp only)
  exact⟨rfl,_,rfl,Below.refl _ _,rfl⟩
 simp only[apN,apC]
 iterate 4 (refine' zb ?_ ?_;rotate_left;(focus(intro g w hb q;replace hL:=hL.grow hb;(try simp[zi,List.filter_cons,Region.binds,z7,RAt]at q);simp only[za,List.foldl_cons,List.foldl_nil,List.set_cons_succ,List.set_cons_zero];(try simp only[q]);go_wp2_with (first|(with_reducible refine lld hL ?_)|(with_reducible refine ldD hL ?_));exact⟨rfl,_,rfl,Below.refl _ _,rfl⟩));simp only[List.nil_append,List.cons_append])
 refine zh (Kh 3 2 [.int .i64 s.hi,.int .i64 t.hi]) Kh.stable ?_ ?_
 ·intro g w hb q;replace hL:=hL.grow hb;(try simp[zi,List.filter_cons,Region.binds,z7,RAt]at q);simp only[za,List.foldl_cons,List.foldl_nil,List.set_cons_succ,List.set_cons_zero]
  (try simp only[q])
  go_wp2
  exact⟨rfl,_,rfl,(Below.refl _ _).alloc (Nat.le_refl _) _,_,rfl,zI _ _⟩
 simp only[apN,apC]
 refine' zb ?_ ?_
 rotate_left
 focus
  intro g w hb q;replace hL:=hL.grow hb;(try simp[zi,List.filter_cons,Region.binds,z7,RAt]at q);simp only[za,List.foldl_cons,List.foldl_nil,List.set_cons_succ,List.set_cons_zero]
  obtain⟨⟨b,e1,e2⟩,e3⟩:=q;simp only[e1]
  go_wp2_with (go_at_call 176;refine(zeo _ _ _ _ _ _ (zF e2 0 rfl) (zF e2 1 rfl)).mono ?_;rintro e w' ⟨rfl,rfl⟩;dsimp only)
  exact⟨rfl,_,rfl,Below.refl _ _,rfl⟩
 simp only[apN,apC]
 (refine' zb ?_ ?_;rotate_left;(focus(intro g w hb q;replace hL:=hL.grow hb;(try simp[zi,List.filter_cons,Region.binds,z7,RAt]at q);simp only[za,List.foldl_cons,List.foldl_nil,List.set_cons_succ,List.set_cons_zero];(try simp only[q]);go_wp2_with (first|(with_reducible refine lld hL ?_)|(with_reducible refine ldD hL ?_));exact⟨rfl,_,rfl,Below.refl _ _,rfl⟩));simp only[List.nil_append,List.cons_append])
 refine zh (YX w1.heap.size 106 [.bool false,.int .i64 0,.int .i64 0]) YX.stable ?_ ?_
 ·intro g w hb q;replace hL:=hL.grow hb;(try simp[zi,List.filter_cons,Region.binds,z7,RAt]at q);simp only[za,List.foldl_cons,List.foldl_nil,List.set_cons_succ,List.set_cons_zero]
  go_wp2
  exact⟨rfl,_,rfl,(Below.refl _ _).alloc (Nat.le_refl _) _,_,hb.size,rfl,zI _ _⟩
 simp only[apN,apC]
 refine zO hL (by kernel_rfl) (by kernel_rfl) ?_;intro g w2 hb hR;simp[z7,RAt,List.range,List.range.loop]at hR;simp only[za,List.foldl_cons,List.foldl_nil,List.set_cons_succ,List.set_cons_zero,hR]
 obtain⟨b7,k1,k2,k3⟩:YX w1.heap.size 106 [.bool false,.int .i64 0,.int .i64 0] (g 7) w2:=by simp only[hR]
 replace hL:=hL.gain hb k1 k3
 simp only[k2]
 clear k1 k2 k3
 clear hR hb h1 h2
 go_wp2_with (first|(with_reducible first|refine lld hL ?_|(refine zd hL ?_;clear hL;intro w1 hL)))
 all_goals
  refine rt1 ?_
  exact⟨by simp_all [jA,both,min2,max2]<;>(first|omega|(split<;>omega)|(split<;>split<;>omega)),hL.below⟩
def Yq (n:Int):Int:=if n % 4294967296 > 2147483647 then n % 4294967296 - 4294967296 else n % 4294967296
theorem zbt {n:Int}(h1:-2147483648≤n) (h2:n≤2147483647):Yq n=n:=by
 unfold Yq;split<;>omega
theorem zu {s:zq}(h:zm s=0):YA s∧s.lo≤s.hi∧(s.none=true→s.lo=0∧s.hi=0):=by
 refine⟨Gc h,?_⟩
 have he:=Gc h
 unfold zm at h
 by_cases h1:(!jm s.lo || !jm s.hi)=true
 ·rw[if_pos h1]at h;cases h
 ·rw[if_neg h1]at h
  by_cases h2:(s.none&&(s.lo != 0 || s.hi != 0))=true
  ·rw[if_pos h2]at h;cases h
  ·rw[if_neg h2]at h
   by_cases h3:s.hi<s.lo
   ·rw[if_pos h3]at h;cases h
   ·refine⟨by omega,fun hn=>?_⟩
    simp[hn]at h2
    exact h2
theorem Q3 {s:zq}(he:YA s) (hl:s.lo≤s.hi) (hn:s.none=true→s.lo=0∧s.hi=0):zm s=0:=by
 obtain⟨h1,h2,h3,h4⟩:=he
 unfold zm
 have e1:jm s.lo=true:=yt.2 ⟨h1,h2⟩
 have e2:jm s.hi=true:=yt.2 ⟨h3,h4⟩
 simp only[e1,e2,Bool.not_true,Bool.or_self,Bool.false_eq_true,if_false]
 cases hs:s.none with
 | false=>simp;omega
 | true=>obtain⟨a,b⟩:=hn hs;simp[a,b]
theorem ZZ {a b l h:Int}(h1:l≤a) (h2:a≤h):min (l*b) (h*b)≤a*b∧a*b≤max (l*b) (h*b):=by
 rcases Int.le_total 0 b with hb|hb
 ·have e1:=Int.mul_le_mul_of_nonneg_right h1 hb
  have e2:=Int.mul_le_mul_of_nonneg_right h2 hb
  omega
 ·have e1:=Int.mul_le_mul_of_nonpos_right h1 hb
  have e2:=Int.mul_le_mul_of_nonpos_right h2 hb
  omega
theorem zgi {a b l h m k:Int}(h1:l≤a) (h2:a≤h) (h3:m≤b) (h4:b≤k):
  KO (l*m) (l*k) (h*m) (h*k)≤a*b∧a*b≤KP (l*m) (l*k) (h*m) (h*k):=by
 have e1:=ZZ (b:=b) h1 h2
 have e2:=ZZ (b:=l) h3 h4
 have e3:=ZZ (b:=h) h3 h4
 simp only[Int.mul_comm _ l,Int.mul_comm _ h]at e2 e3
 unfold KO KP min2 max2
 constructor
 ·split<;>split<;>split<;>omega
 ·split<;>split<;>split<;>omega
def Zv (k a b:Int):Int:=if k=6 then a - b else if k=7 then a*b else a+b
theorem zeq {k:Int}{s t:zq}{a b:Int}(h1:s.lo≤a) (h2:a≤s.hi) (h3:t.lo≤b) (h4:b≤t.hi):(jM k s t).1≤Zv k a b∧Zv k a b≤(jM k s t).2:=by
 unfold jM Zv
 by_cases h6:k=6
 ·simp only[h6,if_true];omega
 ·by_cases h7:k=7
  ·simp only[h7,if_true,if_neg (show ¬ (7:Int)=6 by decide)]
   exact zgi h1 h2 h3 h4
  ·simp only[if_neg h6,if_neg h7];omega
theorem V0 (n:Int):-2147483648≤Yq n∧Yq n≤2147483647:=by
 unfold Yq;split<;>omega
theorem zbu {k:Int}{s t:zq}{a b:Int}(hs:s.none=false) (ht:t.none=false) (h1:s.lo≤a) (h2:a≤s.hi) (h3:t.lo≤b) (h4:b≤t.hi):
  zm (QK k s t)=0∧jT (QK k s t) (Yq (Zv k a b))=true:=by
 have hr:=zeq (k:=k) h1 h2 h3 h4
 unfold QK
 simp only[hs,ht,Bool.or_self,Bool.false_eq_true,if_false]
 by_cases h:(jm (jM k s t).1&&jm (jM k s t).2)=true
 ·rw[if_pos h]
  simp only[Bool.and_eq_true,yt]at h
  obtain⟨⟨a1,a2⟩,b1,b2⟩:=h
  refine⟨Q3 ⟨a1,a2,b1,b2⟩ (by show (jM k s t).1≤(jM k s t).2;omega) (by simp),?_⟩
  rw[zbt (by omega) (by omega)]
  simp[jT,hr.1,hr.2]
 ·rw[if_neg h]
  have hw:=V0 (Zv k a b)
  refine⟨rfl,?_⟩
  simp[jT,hw.1,hw.2]
theorem Gd {s t:zq}(hs:zm s=0) (ht:zm t=0):zm (both s t)=0:=by
 unfold both
 cases h1:s.none with
 | true=>simpa using ht
 | false=>
  cases h2:t.none with
  | true=>simpa using hs
  | false=>
   obtain⟨⟨a1,a2,a3,a4⟩,a5,_⟩:=zu hs
   obtain⟨⟨b1,b2,b3,b4⟩,b5,_⟩:=zu ht
   exact Q3 (by simp[YA];omega) (by simp;omega) (by simp)
theorem zer {s t:zq}(hs:zm s=0) (ht:zm t=0):zm (jA s t)=0∧yJ s (jA s t)=true:=by
 unfold jA
 cases h1:s.none with
 | true=>exact⟨by simpa using Gd hs ht,by simp[yJ,h1]⟩
 | false=>
  obtain⟨⟨a1,a2,a3,a4⟩,a5,_⟩:=zu hs
  cases h2:t.none with
  | true=>exact⟨by simpa using Gd hs ht,by simp[both,h1,h2,yJ]⟩
  | false=>
   obtain⟨⟨b1,b2,b3,b4⟩,b5,_⟩:=zu ht
   refine⟨?_,?_⟩
   ·simp only[Bool.or_self,Bool.false_eq_true,if_false]
    refine Q3 ?_ ?_ (by simp)
    ·refine⟨?_,?_,?_,?_⟩<;>dsimp only<;>split<;>omega
    ·dsimp only;split<;>split<;>omega
   ·simp only[Bool.or_self,Bool.false_eq_true,if_false,yJ,h1,Bool.not_false,Bool.true_and,Bool.false_or,Bool.and_eq_true,decide_eq_true_eq]
    constructor<;>split<;>omega
def pot (s:zq):Nat:=(if s.lo=-2147483648 then 1 else 0)+(if s.hi=2147483647 then 1 else 0)
theorem zgj (s:zq):pot s≤2:=by unfold pot;split<;>split<;>omega
def zgK (s:zq) (ch:Nat):Prop:=ch=0∨(s.none=false∧ch≤pot s)
theorem zgK.le {s:zq}{ch:Nat}(h:zgK s ch):ch≤2:=by
 rcases h with h|h
 ·omega
 ·exact Nat.le_trans h.2 (zgj s)
theorem zdc {s t:zq}(h1:s.none=false) (h2:t.none=false):ji s t=if min2 s.hi t.hi<max2 s.lo t.lo then zC else ⟨false,max2 s.lo t.lo,min2 s.hi t.hi⟩:=by
 have e1:min s.hi t.hi=min2 s.hi t.hi:=by unfold min2;split<;>omega
 have e2:max s.lo t.lo=max2 s.lo t.lo:=by unfold max2;split<;>omega
 simp[ji,h1,h2,e1,e2]
theorem zdd (s t:zq) (w:World):
  Calls Tryz.prog 121 #[s.v,t.v] w fun e w'=>e=.returned ((ji s t).v)∧Below w.heap.size w w':=by
 have hL:=Loc.start w
 go_enter Tryz.func121,Tryz.ntmps121
 go_wp2_with (first|(with_reducible first|refine lld hL ?_|((first|refine lbx hL ?_|refine lal hL ?_);clear hL;intro bl w1 hL)|(refine zd hL ?_;clear hL;intro w1 hL)))
 ·refine rt1 ?_
  exact⟨by simp_all [ji],hL.below⟩
 ·refine rt1 ?_
  exact⟨by simp_all [ji],hL.below⟩
 have h1:s.none=false:=by first|assumption|exact Bool.eq_false_iff.2 (by assumption)
 have h2:t.none=false:=by first|assumption|exact Bool.eq_false_iff.2 (by assumption)
 simp only[h1,h2]
 refine zf [13,14,15,16,17,18,19,20,21,22,23,24,25,5] ?_
 iterate 4 (refine' zb ?_ ?_;rotate_left;(focus(intro g w hb q;replace hL:=hL.grow hb;(try simp[zi,List.filter_cons,Region.binds,z7,RAt]at q);simp only[za,List.foldl_cons,List.foldl_nil,List.set_cons_succ,List.set_cons_zero];(try simp only[q]);go_wp2_with (first|(with_reducible refine lld hL ?_)|(with_reducible refine ldD hL ?_));exact⟨rfl,_,rfl,Below.refl _ _,rfl⟩));simp only[List.nil_append,List.cons_append])
 refine zh (Kh 3 2 [.int .i64 s.lo,.int .i64 t.lo]) Kh.stable ?_ ?_
 ·intro g w hb q;replace hL:=hL.grow hb;(try simp[zi,List.filter_cons,Region.binds,z7,RAt]at q);simp only[za,List.foldl_cons,List.foldl_nil,List.set_cons_succ,List.set_cons_zero]
  (try simp only[q])
  go_wp2
  exact⟨rfl,_,rfl,(Below.refl _ _).alloc (Nat.le_refl _) _,_,rfl,zI _ _⟩
 simp only[apN,apC]
 refine' zb ?_ ?_
 rotate_left
 focus
  intro g w hb q;replace hL:=hL.grow hb;(try simp[zi,List.filter_cons,Region.binds,z7,RAt]at q);simp only[za,List.foldl_cons,List.foldl_nil,List.set_cons_succ,List.set_cons_zero]
  obtain⟨b,e1,e2⟩:=q;simp only[e1]
  go_wp2_with (go_at_call 176;refine(zeo _ _ _ _ _ _ (zF e2 0 rfl) (zF e2 1 rfl)).mono ?_;rintro e w' ⟨rfl,rfl⟩;dsimp only)
  exact⟨rfl,_,rfl,Below.refl _ _,rfl⟩
 simp only[apN,apC]
 iterate 4 (refine' zb ?_ ?_;rotate_left;(focus(intro g w hb q;replace hL:=hL.grow hb;(try simp[zi,List.filter_cons,Region.binds,z7,RAt]at q);simp only[za,List.foldl_cons,List.foldl_nil,List.set_cons_succ,List.set_cons_zero];(try simp only[q]);go_wp2_with (first|(with_reducible refine lld hL ?_)|(with_reducible refine ldD hL ?_));exact⟨rfl,_,rfl,Below.refl _ _,rfl⟩));simp only[List.nil_append,List.cons_append])
 refine zh (Kh 3 2 [.int .i64 s.hi,.int .i64 t.hi]) Kh.stable ?_ ?_
 ·intro g w hb q;replace hL:=hL.grow hb;(try simp[zi,List.filter_cons,Region.binds,z7,RAt]at q);simp only[za,List.foldl_cons,List.foldl_nil,List.set_cons_succ,List.set_cons_zero]
  (try simp only[q])
  go_wp2
  exact⟨rfl,_,rfl,(Below.refl _ _).alloc (Nat.le_refl _) _,_,rfl,zI _ _⟩
 simp only[apN,apC]
 refine' zb ?_ ?_
 rotate_left
 focus
  intro g w hb q;replace hL:=hL.grow hb;(try simp[zi,List.filter_cons,Region.binds,z7,RAt]at q);simp only[za,List.foldl_cons,List.foldl_nil,List.set_cons_succ,List.set_cons_zero]
  obtain⟨⟨b,e1,e2⟩,e3⟩:=q;simp only[e1]
  go_wp2_with (go_at_call 175;refine(zbq _ _ _ _ _ _ (zF e2 0 rfl) (zF e2 1 rfl)).mono ?_;rintro e w' ⟨rfl,rfl⟩;dsimp only)
  exact⟨rfl,_,rfl,Below.refl _ _,rfl⟩
 simp only[apN,apC]
 (refine' zb ?_ ?_;rotate_left;(focus(intro g w hb q;replace hL:=hL.grow hb;(try simp[zi,List.filter_cons,Region.binds,z7,RAt]at q);simp only[za,List.foldl_cons,List.foldl_nil,List.set_cons_succ,List.set_cons_zero];(try simp only[q]);go_wp2_with (first|(with_reducible refine lld hL ?_)|(with_reducible refine ldD hL ?_));exact⟨rfl,_,rfl,Below.refl _ _,rfl⟩));simp only[List.nil_append,List.cons_append])
 refine zh (YX w1.heap.size 106 [.bool false,.int .i64 0,.int .i64 0]) YX.stable ?_ ?_
 ·intro g w hb q;replace hL:=hL.grow hb;(try simp[zi,List.filter_cons,Region.binds,z7,RAt]at q);simp only[za,List.foldl_cons,List.foldl_nil,List.set_cons_succ,List.set_cons_zero]
  go_wp2
  exact⟨rfl,_,rfl,(Below.refl _ _).alloc (Nat.le_refl _) _,_,hb.size,rfl,zI _ _⟩
 simp only[apN,apC]
 refine zO hL (by kernel_rfl) (by kernel_rfl) ?_;intro g w2 hb hR;simp[z7,RAt,List.range,List.range.loop]at hR;simp only[za,List.foldl_cons,List.foldl_nil,List.set_cons_succ,List.set_cons_zero,hR]
 obtain⟨b7,k1,k2,k3⟩:YX w1.heap.size 106 [.bool false,.int .i64 0,.int .i64 0] (g 5) w2:=by simp only[hR]
 replace hL:=hL.gain hb k1 k3
 simp only[k2]
 clear k1 k2 k3
 have HF:=Lib.hid (zdc h1 h2)
 clear hR hb h1 h2
 go_wp2_with (first|(with_reducible first|refine lld hL ?_|(refine zd hL ?_;clear hL;intro w1 hL)))
 all_goals
  refine rt1 ?_
  refine⟨?_,hL.below⟩
  rw[HF.out]
  by_cases hcc:min2 s.hi t.hi<max2 s.lo t.lo
  ·first|(rw[if_pos hcc];done)|(rw[if_pos hcc];rfl)|(exfalso;omega)
  ·first|(rw[if_neg hcc];done)|(rw[if_neg hcc];rfl)|(exfalso;omega)
theorem Split.mk {R L:List zj}(n:Nat) (h:L.take n++R=L):Split R L (L.take n):=by
 have:∀ K:List zj,Split R (K++R) K:=fun K=>by
  induction K with
  | nil=>exact .nil
  | cons x K ih=>exact .cons x ih
 have h2:=this (L.take n)
 rw[h]at h2;exact h2
theorem yX {w0 w:World}{L:List zj}{D:List zw}(hL:Loc w0 w L D) {b:Nat}{T:TypeId}{cs:List Value}{f:List Value→List zj}(hm:InL b T cs L f):∀ (j:Nat) (u:Value),cs[j]? = some u→w.cell? ((⟨b,0,none⟩:Addr).add j)=some u:=by
 intro j u hj
 rw[zH,hL.cell hm,Nat.zero_add];exact hj
theorem zgk {w0 w:World}{L:List zj}{D:List zw}{E:TypeId}{v:Value}{a b c d:Value}{R K:List zj}(h:ZJ E 1 v 4 [a,b,c,d] R) (hL:Loc w0 w L D) (hK:Split R L K):
  ∃ g cap,v=.slice (some ⟨g,0,none⟩) 4 cap∧w.cell? ⟨g,0,none⟩=some a∧w.cell? ⟨g,0+1,none⟩=some b∧w.cell? ⟨g,0+2,none⟩=some c∧w.cell? ⟨g,0+3,none⟩=some d:=by
 rcases h.2 with⟨_,h0,_⟩|⟨g,cap,cs,hv,hR,_,_,_,ht⟩
 ·cases h0
 ·have hc:∀ j,w.cell? ⟨g,j,none⟩=cs[j]? :=hL.all (g,E,cs) (by rw[hK.eq,hR];simp)
  have hj:∀ j,j<4→cs[j]? = [a,b,c,d][j]? :=fun j hj=>by rw[← ht,List.getElem?_take];simp[hj]
  exact⟨g,cap,hv,by rw[hc,hj _ (by omega)];rfl,by rw[hc,hj _ (by omega)];rfl,by rw[hc,hj _ (by omega)];rfl,by rw[hc,hj _ (by omega)];rfl⟩
theorem zes {k:Int}{s t:zq}(hk:k=5∨k=6∨k=7) (hs:s.lo≤s.hi) (ht:t.lo≤t.hi) (h1:s.none=false) (h2:t.none=false) {mn mx:Int}
  (e1:mn=KO (Zv k s.lo t.lo) (Zv k s.lo t.hi) (Zv k s.hi t.lo) (Zv k s.hi t.hi)) (e2:mx=KP (Zv k s.lo t.lo) (Zv k s.lo t.hi) (Zv k s.hi t.lo) (Zv k s.hi t.hi)):
  QK k s t=if zm ⟨false,mn,mx⟩=0 then ⟨false,mn,mx⟩ else ⟨false,-2147483648,2147483647⟩:=by
 have hr:jM k s t=(mn,mx):=by
  subst e1;subst e2
  rcases hk with rfl|rfl|rfl
  ·simp only[jM,Zv,KO,KP,min2,max2]
   simp
   constructor<;>(repeat' split)<;>omega
  ·simp only[jM,Zv,KO,KP,min2,max2]
   simp
   constructor<;>(repeat' split)<;>omega
  ·simp[jM,Zv]
 have hm:=(zeq (k:=k) (Int.le_refl s.lo) hs (Int.le_refl t.lo) ht)
 rw[hr]at hm
 have hle:mn≤mx:=by have:=hm.1;have:=hm.2;simp at *;omega
 unfold QK
 simp only[h1,h2,Bool.or_self,Bool.false_eq_true,if_false,hr]
 by_cases hi:(jm mn&&jm mx)=true
 ·rw[if_pos hi,if_pos]
  simp only[Bool.and_eq_true,yt]at hi
  obtain⟨⟨a1,a2⟩,a3,a4⟩:=hi
  exact Q3 ⟨a1,a2,a3,a4⟩ hle (by simp)
 ·rw[if_neg hi,if_neg]
  intro hc
  apply hi
  obtain⟨a1,a2,a3,a4⟩:=Gc hc
  simp only[Bool.and_eq_true,yt]
  exact⟨⟨a1,a2⟩,a3,a4⟩
theorem zgL (s t:zq) (hs:zm s=0) (ht:zm t=0) (h1:s.none=false) (h2:t.none=false) (w:World):
  Calls Tryz.prog 124 #[.int .i64 5,s.v,t.v] w fun e w'=>e=.returned ((QK 5 s t).v)∧Below w.heap.size w w':=by
 have hL:=Loc.start w
 obtain⟨⟨s1,s2,s3,s4⟩,hls,_⟩:=zu hs
 obtain⟨⟨t1,t2,t3,t4⟩,hlt,_⟩:=zu ht
 have hF:=zes (k:=5) (by omega) hls hlt h1 h2 rfl rfl
 simp only[Zv,if_neg (show ¬ (5:Int)=6 by decide),if_neg (show ¬ (5:Int)=7 by decide)]at hF
 obtain⟨mn,hmn⟩:∃ mn,KO (s.lo+t.lo) (s.lo+t.hi) (s.hi+t.lo) (s.hi+t.hi)=mn:=⟨_,rfl⟩
 obtain⟨mx,hmx⟩:∃ mx,KP (s.lo+t.lo) (s.lo+t.hi) (s.hi+t.lo) (s.hi+t.hi)=mx:=⟨_,rfl⟩
 rw[hmn,hmx]at hF
 clear hs ht
 have Hmm:=Lib.hid (And.intro hmn (And.intro hmx hF))
 clear hmn hmx hF
 have hL:=Loc.start w
 go_enter Tryz.func124,Tryz.ntmps124
 go_wp2_with (first|(with_reducible first|refine lld hL ?_|((first|refine lbx hL ?_|refine lal hL ?_);clear hL;intro bl w1 hL)))
 refine zf [20,21,22,23,24,25,26,27,28,29,8,9] ?_
 iterate 4 (refine' zb ?_ ?_;rotate_left;(focus(intro g w hb q;replace hL:=hL.grow hb;(try simp[zi,List.filter_cons,Region.binds,z7,RAt]at q);simp only[za,List.foldl_cons,List.foldl_nil,List.set_cons_succ,List.set_cons_zero];(try simp only[q]);go_wp2_with (first|(with_reducible refine lld hL ?_)|(with_reducible refine ldD hL ?_));exact⟨rfl,_,rfl,Below.refl _ _,rfl⟩));simp only[List.nil_append,List.cons_append])
 refine zh (qx w1.heap.size 3 2 [.int .i64 s.lo,.int .i64 s.hi]) qx.stable ?_ ?_
 ·intro g w hb q;replace hL:=hL.grow hb;(try simp[zi,List.filter_cons,Region.binds,z7,RAt]at q);simp only[za,List.foldl_cons,List.foldl_nil,List.set_cons_succ,List.set_cons_zero]
  (try simp only[q])
  go_wp2
  exact⟨rfl,_,rfl,(Below.refl _ _).alloc (Nat.le_refl _) _,_,hb.size,rfl,zI _ _⟩
 simp only[apN,apC]
 iterate 4 (refine' zb ?_ ?_;rotate_left;(focus(intro g w hb q;replace hL:=hL.grow hb;(try simp[zi,List.filter_cons,Region.binds,z7,RAt]at q);simp only[za,List.foldl_cons,List.foldl_nil,List.set_cons_succ,List.set_cons_zero];(try simp only[q]);go_wp2_with (first|(with_reducible refine lld hL ?_)|(with_reducible refine ldD hL ?_));exact⟨rfl,_,rfl,Below.refl _ _,rfl⟩));simp only[List.nil_append,List.cons_append])
 refine zh (qx w1.heap.size 3 2 [.int .i64 t.lo,.int .i64 t.hi]) qx.stable ?_ ?_
 ·intro g w hb q;replace hL:=hL.grow hb;(try simp[zi,List.filter_cons,Region.binds,z7,RAt]at q);simp only[za,List.foldl_cons,List.foldl_nil,List.set_cons_succ,List.set_cons_zero]
  (try simp only[q])
  go_wp2
  exact⟨rfl,_,rfl,(Below.refl _ _).alloc (Nat.le_refl _) _,_,hb.size,rfl,zI _ _⟩
 simp only[apN,apC]
 refine zh (qx w1.heap.size 3 2 [.int .i64 s.lo,.int .i64 s.hi]) qx.stable ?_ ?_
 ·intro g w hb q
  have hd:qx w1.heap.size 3 2 [.int .i64 s.lo,.int .i64 s.hi] (g 24) w:=zA (j:=4) q (by simp[zi,List.filter_cons,Region.binds])
  obtain⟨b,e0,e1,e2⟩:=hd
  simp only[za,List.foldl_cons,List.foldl_nil,List.set_cons_succ,List.set_cons_zero]
  simp only[e1]
  go_wp2
  exact⟨rfl,_,rfl,Below.refl _ _,b,e0,rfl,e2⟩
 simp only[apN,apC]
 refine zh (qx w1.heap.size 3 2 [.int .i64 t.lo,.int .i64 t.hi]) qx.stable ?_ ?_
 ·intro g w hb q
  have hd:qx w1.heap.size 3 2 [.int .i64 t.lo,.int .i64 t.hi] (g 29) w:=zA (j:=9) q (by simp[zi,List.filter_cons,Region.binds])
  obtain⟨b,e0,e1,e2⟩:=hd
  simp only[za,List.foldl_cons,List.foldl_nil,List.set_cons_succ,List.set_cons_zero]
  simp only[e1]
  go_wp2
  exact⟨rfl,_,rfl,Below.refl _ _,b,e0,rfl,e2⟩
 simp only[apN,apC]
 refine zO hL (by kernel_rfl) (by kernel_rfl) ?_;intro g wA hb hR;simp[z7,RAt,List.range,List.range.loop]at hR;simp only[za,List.foldl_cons,List.foldl_nil,List.set_cons_succ,List.set_cons_zero,hR]
 obtain⟨ba,k10,k20,k30⟩:qx w1.heap.size 3 2 [.int .i64 s.lo,.int .i64 s.hi] (g 8) wA:=by simp only[hR]
 obtain⟨bb,k11,k21,k31⟩:qx w1.heap.size 3 2 [.int .i64 t.lo,.int .i64 t.hi] (g 9) wA:=by simp only[hR]
 replace hL:=hL.moreAll hb (Ds:=[ja ba 3 [.int .i64 s.lo,.int .i64 s.hi],ja bb 3 [.int .i64 t.lo,.int .i64 t.hi]]) (by
  intro S hS
  simp only[List.mem_cons,List.not_mem_nil,or_false]at hS
  rcases hS with rfl|rfl
  ·exact ja.fresh k10 k30
  ·exact ja.fresh k11 k31)
 simp only[List.cons_append,List.nil_append]at hL
 simp only[k20,k21]
 clear k10 k20 k30 k11 k21 k31
 clear hR hb
 have hA:ZJ 3 1 (.slice none 0 0) 0 [] []:=ZJ.nil
 go_wp2_with (first|fail|((with_reducible refine wp_loop_rounds 5 ?_))|(with_reducible refine qr ?_))
 refine zf [41,42,43,44,45,46,47,48,49,50,51] ?_
 iterate 10 (refine' zb ?_ ?_;rotate_left;(focus(intro g w hb q;replace hL:=hL.grow hb;(try simp[zi,List.filter_cons,Region.binds,z7,RAt]at q);simp only[za,List.foldl_cons,List.foldl_nil,List.set_cons_succ,List.set_cons_zero];(try simp only[q]);go_wp2_with (first|(with_reducible refine lld hL ?_)|(with_reducible refine ldD hL ?_));exact⟨rfl,_,rfl,Below.refl _ _,rfl⟩));simp only[List.nil_append,List.cons_append])
 refine zh (qx wA.heap.size 3 1 [.int .i64 (s.lo+t.lo)]) qx.stable ?_ ?_
 ·intro g w hb q;replace hL:=hL.grow hb;(try simp[zi,List.filter_cons,Region.binds,z7,RAt]at q);simp only[za,List.foldl_cons,List.foldl_nil,List.set_cons_succ,List.set_cons_zero]
  (try simp only[q])
  go_wp2
  exact⟨rfl,_,rfl,(Below.refl _ _).alloc (Nat.le_refl _) _,_,hb.size,rfl,zI _ _⟩
 simp only[apN,apC]
 refine zO hL (by kernel_rfl) (by kernel_rfl) ?_;intro g wB0 hb hR;simp[z7,RAt,List.range,List.range.loop]at hR;simp only[za,List.foldl_cons,List.foldl_nil,List.set_cons_succ,List.set_cons_zero,hR]
 obtain⟨bx0,k1,k2,k3⟩:qx wA.heap.size 3 1 [.int .i64 (s.lo+t.lo)] (g 51) wB0:=by simp only[hR]
 replace hL:=hL.gain hb k1 k3
 simp only[k2]
 clear k1 k2 k3
 clear hR hb
 (with_reducible refine' jn (news:=[.int .i64 (s.lo+t.lo)]) (ad:=⟨bx0,0,none⟩) (m:=1) (c:=1) hA hL ?aw0 ?as0 (Split.mk 4 rfl) Qr Z8 ?az0 ?ax0 ?an0 ?al0 ?a10 ?am0 ?ab0 ?ah0)
 case aw0=>exact jB
 case as0=>rfl
 case az0=>simp
 case ax0=>rfl
 case an0=>exact yX hL (b:=bx0) cIn
 case al0=>rfl
 case a10=>simp[Value.oneCell']
 case am0=>unfold maxLen;omega
 case ab0=>omega
 clear hL hA
 intro vA RA wC0 hA hL
 simp only[Nat.zero_add,List.nil_append,List.cons_append,Nat.reduceAdd,List.take_succ_cons,List.take_zero]at hA hL
 go_wp2_with (first|fail|((with_reducible refine wp_loop_rounds 5 ?_))|(with_reducible refine qr ?_))
 refine zf [41,42,43,44,45,46,47,48,49,50,51] ?_
 iterate 10 (refine' zb ?_ ?_;rotate_left;(focus(intro g w hb q;replace hL:=hL.grow hb;(try simp[zi,List.filter_cons,Region.binds,z7,RAt]at q);simp only[za,List.foldl_cons,List.foldl_nil,List.set_cons_succ,List.set_cons_zero];(try simp only[q]);go_wp2_with (first|(with_reducible refine lld hL ?_)|(with_reducible refine ldD hL ?_));exact⟨rfl,_,rfl,Below.refl _ _,rfl⟩));simp only[List.nil_append,List.cons_append])
 refine zh (qx wC0.heap.size 3 1 [.int .i64 (s.lo+t.hi)]) qx.stable ?_ ?_
 ·intro g w hb q;replace hL:=hL.grow hb;(try simp[zi,List.filter_cons,Region.binds,z7,RAt]at q);simp only[za,List.foldl_cons,List.foldl_nil,List.set_cons_succ,List.set_cons_zero]
  (try simp only[q])
  go_wp2
  exact⟨rfl,_,rfl,(Below.refl _ _).alloc (Nat.le_refl _) _,_,hb.size,rfl,zI _ _⟩
 simp only[apN,apC]
 refine zO hL (by kernel_rfl) (by kernel_rfl) ?_;intro g wB1 hb hR;simp[z7,RAt,List.range,List.range.loop]at hR;simp only[za,List.foldl_cons,List.foldl_nil,List.set_cons_succ,List.set_cons_zero,hR]
 obtain⟨bx1,k1,k2,k3⟩:qx wC0.heap.size 3 1 [.int .i64 (s.lo+t.hi)] (g 51) wB1:=by simp only[hR]
 replace hL:=hL.gain hb k1 k3
 simp only[k2]
 clear k1 k2 k3
 clear hR hb
 (with_reducible refine' jn (news:=[.int .i64 (s.lo+t.hi)]) (ad:=⟨bx1,0,none⟩) (m:=1) (c:=1) hA hL ?aw1 ?as1 (Split.mk 5 rfl) Qr Z8 ?az1 ?ax1 ?an1 ?al1 ?a11 ?am1 ?ab1 ?ah1)
 case aw1=>exact jB
 case as1=>rfl
 case az1=>simp
 case ax1=>rfl
 case an1=>exact yX hL (b:=bx1) cIn
 case al1=>rfl
 case a11=>simp[Value.oneCell']
 case am1=>unfold maxLen;omega
 case ab1=>omega
 clear hL hA
 intro vA RA wC1 hA hL
 simp only[Nat.zero_add,List.nil_append,List.cons_append,Nat.reduceAdd,List.take_succ_cons,List.take_zero]at hA hL
 go_wp2_with (first|fail|((with_reducible refine wp_loop_rounds 5 ?_))|(with_reducible refine qr ?_))
 refine zf [41,42,43,44,45,46,47,48,49,50,51] ?_
 iterate 10 (refine' zb ?_ ?_;rotate_left;(focus(intro g w hb q;replace hL:=hL.grow hb;(try simp[zi,List.filter_cons,Region.binds,z7,RAt]at q);simp only[za,List.foldl_cons,List.foldl_nil,List.set_cons_succ,List.set_cons_zero];(try simp only[q]);go_wp2_with (first|(with_reducible refine lld hL ?_)|(with_reducible refine ldD hL ?_));exact⟨rfl,_,rfl,Below.refl _ _,rfl⟩));simp only[List.nil_append,List.cons_append])
 refine zh (qx wC1.heap.size 3 1 [.int .i64 (s.hi+t.lo)]) qx.stable ?_ ?_
 ·intro g w hb q;replace hL:=hL.grow hb;(try simp[zi,List.filter_cons,Region.binds,z7,RAt]at q);simp only[za,List.foldl_cons,List.foldl_nil,List.set_cons_succ,List.set_cons_zero]
  (try simp only[q])
  go_wp2
  exact⟨rfl,_,rfl,(Below.refl _ _).alloc (Nat.le_refl _) _,_,hb.size,rfl,zI _ _⟩
 simp only[apN,apC]
 refine zO hL (by kernel_rfl) (by kernel_rfl) ?_;intro g wB2 hb hR;simp[z7,RAt,List.range,List.range.loop]at hR;simp only[za,List.foldl_cons,List.foldl_nil,List.set_cons_succ,List.set_cons_zero,hR]
 obtain⟨bx2,k1,k2,k3⟩:qx wC1.heap.size 3 1 [.int .i64 (s.hi+t.lo)] (g 51) wB2:=by simp only[hR]
 replace hL:=hL.gain hb k1 k3
 simp only[k2]
 clear k1 k2 k3
 clear hR hb
 (with_reducible refine' jn (news:=[.int .i64 (s.hi+t.lo)]) (ad:=⟨bx2,0,none⟩) (m:=1) (c:=1) hA hL ?aw2 ?as2 (Split.mk 6 rfl) Qr Z8 ?az2 ?ax2 ?an2 ?al2 ?a12 ?am2 ?ab2 ?ah2)
 case aw2=>exact jB
 case as2=>rfl
 case az2=>simp
 case ax2=>rfl
 case an2=>exact yX hL (b:=bx2) cIn
 case al2=>rfl
 case a12=>simp[Value.oneCell']
 case am2=>unfold maxLen;omega
 case ab2=>omega
 clear hL hA
 intro vA RA wC2 hA hL
 simp only[Nat.zero_add,List.nil_append,List.cons_append,Nat.reduceAdd,List.take_succ_cons,List.take_zero]at hA hL
 go_wp2_with (first|fail|((with_reducible refine wp_loop_rounds 5 ?_))|(with_reducible refine qr ?_))
 refine zf [41,42,43,44,45,46,47,48,49,50,51] ?_
 iterate 10 (refine' zb ?_ ?_;rotate_left;(focus(intro g w hb q;replace hL:=hL.grow hb;(try simp[zi,List.filter_cons,Region.binds,z7,RAt]at q);simp only[za,List.foldl_cons,List.foldl_nil,List.set_cons_succ,List.set_cons_zero];(try simp only[q]);go_wp2_with (first|(with_reducible refine lld hL ?_)|(with_reducible refine ldD hL ?_));exact⟨rfl,_,rfl,Below.refl _ _,rfl⟩));simp only[List.nil_append,List.cons_append])
 refine zh (qx wC2.heap.size 3 1 [.int .i64 (s.hi+t.hi)]) qx.stable ?_ ?_
 ·intro g w hb q;replace hL:=hL.grow hb;(try simp[zi,List.filter_cons,Region.binds,z7,RAt]at q);simp only[za,List.foldl_cons,List.foldl_nil,List.set_cons_succ,List.set_cons_zero]
  (try simp only[q])
  go_wp2
  exact⟨rfl,_,rfl,(Below.refl _ _).alloc (Nat.le_refl _) _,_,hb.size,rfl,zI _ _⟩
 simp only[apN,apC]
 refine zO hL (by kernel_rfl) (by kernel_rfl) ?_;intro g wB3 hb hR;simp[z7,RAt,List.range,List.range.loop]at hR;simp only[za,List.foldl_cons,List.foldl_nil,List.set_cons_succ,List.set_cons_zero,hR]
 obtain⟨bx3,k1,k2,k3⟩:qx wC2.heap.size 3 1 [.int .i64 (s.hi+t.hi)] (g 51) wB3:=by simp only[hR]
 replace hL:=hL.gain hb k1 k3
 simp only[k2]
 clear k1 k2 k3
 clear hR hb
 (with_reducible refine' jn (news:=[.int .i64 (s.hi+t.hi)]) (ad:=⟨bx3,0,none⟩) (m:=1) (c:=1) hA hL ?aw3 ?as3 (Split.mk 7 rfl) Qr Z8 ?az3 ?ax3 ?an3 ?al3 ?a13 ?am3 ?ab3 ?ah3)
 case aw3=>exact jB
 case as3=>rfl
 case az3=>simp
 case ax3=>rfl
 case an3=>exact yX hL (b:=bx3) cIn
 case al3=>rfl
 case a13=>simp[Value.oneCell']
 case am3=>unfold maxLen;omega
 case ab3=>omega
 clear hL hA
 intro vA RA wC3 hA hL
 simp only[Nat.zero_add,List.nil_append,List.cons_append,Nat.reduceAdd,List.take_succ_cons,List.take_zero]at hA hL
 go_wp2_with (first|fail|((with_reducible refine wp_loop_rounds 5 ?_))|(with_reducible refine qr ?_))
 obtain⟨gA,capA,rfl,y0,y1,y2,y3⟩:=zgk hA hL (Split.mk 7 rfl)
 obtain⟨hmn,hmx,hF⟩:=Hmm.out
 have hle:=zbr gA 0 capA _ _ _ _ wC3 y0 y1 y2 y3
 have hmo:=zep gA 0 capA _ _ _ _ wC3 y0 y1 y2 y3
 rw[hmn]at hle
 rw[hmx]at hmo
 have HLE:=Lib.hid hle
 have HMO:=Lib.hid hmo
 clear hle hmo y0 y1 y2 y3 hmn hmx
 refine HLE.out.mono ?_
 rintro e w' ⟨rfl,rfl⟩;dsimp only
 have HF:=Lib.hid hF
 by_cases hck:zm ⟨false,mn,mx⟩=0
 ·have HC:=Lib.hid (fun w=>(by have h:=QE ⟨false,mn,mx⟩ w;rw[hck]at h;exact h:Calls Tryz.prog 177 #[zq.v ⟨false,mn,mx⟩] w fun e w'=>e=.returned (.int .i64 0)∧Below w.heap.size w w'))
  have HK:=Lib.hid hck
  clear hck hF
  go_wp2_with (first|(with_reducible first|refine lld hL ?_|(refine lal hL ?_;clear hL;intro bl w1 hL)|(refine zd hL ?_;clear hL;intro w1 hL))|(go_at_call 176;refine HMO.out.mono ?_;rintro e w' ⟨rfl,rfl⟩;dsimp only)|(go_at_call 177;refine(HC.out _).mono ?_;rintro e w1 ⟨rfl,hb⟩;replace hL:=hL.grow hb;clear hb;dsimp only))
  refine rt1 ?_
  exact⟨by rw[HF.out,if_pos HK.out],hL.below⟩
 ·have hne:(zm ⟨false,mn,mx⟩ != 0)=true:=by simp[hck]
  have hc:=QE ⟨false,mn,mx⟩
  have HK:=Lib.hid hck
  generalize zm ⟨false,mn,mx⟩=ck at hne hc
  have HC:=Lib.hid hc
  clear hck hF hc
  go_wp2_with (first|(with_reducible first|refine lld hL ?_|(refine lal hL ?_;clear hL;intro bl w1 hL)|(refine zd hL ?_;clear hL;intro w1 hL))|(go_at_call 176;refine HMO.out.mono ?_;rintro e w' ⟨rfl,rfl⟩;dsimp only)|(go_at_call 177;refine(HC.out _).mono ?_;rintro e w1 ⟨rfl,hb⟩;replace hL:=hL.grow hb;clear hb;dsimp only))
  refine rt1 ?_
  exact⟨by rw[HF.out,if_neg HK.out],hL.below⟩
theorem zgM (s t:zq) (hs:zm s=0) (ht:zm t=0) (h1:s.none=false) (h2:t.none=false) (w:World):
  Calls Tryz.prog 124 #[.int .i64 6,s.v,t.v] w fun e w'=>e=.returned ((QK 6 s t).v)∧Below w.heap.size w w':=by
 have hL:=Loc.start w
 obtain⟨⟨s1,s2,s3,s4⟩,hls,_⟩:=zu hs
 obtain⟨⟨t1,t2,t3,t4⟩,hlt,_⟩:=zu ht
 have hF:=zes (k:=6) (by omega) hls hlt h1 h2 rfl rfl
 simp only[Zv,if_true]at hF
 obtain⟨mn,hmn⟩:∃ mn,KO (s.lo - t.lo) (s.lo - t.hi) (s.hi - t.lo) (s.hi - t.hi)=mn:=⟨_,rfl⟩
 obtain⟨mx,hmx⟩:∃ mx,KP (s.lo - t.lo) (s.lo - t.hi) (s.hi - t.lo) (s.hi - t.hi)=mx:=⟨_,rfl⟩
 rw[hmn,hmx]at hF
 clear hs ht
 have Hmm:=Lib.hid (And.intro hmn (And.intro hmx hF))
 clear hmn hmx hF
 have hL:=Loc.start w
 go_enter Tryz.func124,Tryz.ntmps124
 go_wp2_with (first|(with_reducible first|refine lld hL ?_|((first|refine lbx hL ?_|refine lal hL ?_);clear hL;intro bl w1 hL)))
 refine zf [20,21,22,23,24,25,26,27,28,29,8,9] ?_
 iterate 4 (refine' zb ?_ ?_;rotate_left;(focus(intro g w hb q;replace hL:=hL.grow hb;(try simp[zi,List.filter_cons,Region.binds,z7,RAt]at q);simp only[za,List.foldl_cons,List.foldl_nil,List.set_cons_succ,List.set_cons_zero];(try simp only[q]);go_wp2_with (first|(with_reducible refine lld hL ?_)|(with_reducible refine ldD hL ?_));exact⟨rfl,_,rfl,Below.refl _ _,rfl⟩));simp only[List.nil_append,List.cons_append])
 refine zh (qx w1.heap.size 3 2 [.int .i64 s.lo,.int .i64 s.hi]) qx.stable ?_ ?_
 ·intro g w hb q;replace hL:=hL.grow hb;(try simp[zi,List.filter_cons,Region.binds,z7,RAt]at q);simp only[za,List.foldl_cons,List.foldl_nil,List.set_cons_succ,List.set_cons_zero]
  (try simp only[q])
  go_wp2
  exact⟨rfl,_,rfl,(Below.refl _ _).alloc (Nat.le_refl _) _,_,hb.size,rfl,zI _ _⟩
 simp only[apN,apC]
 iterate 4 (refine' zb ?_ ?_;rotate_left;(focus(intro g w hb q;replace hL:=hL.grow hb;(try simp[zi,List.filter_cons,Region.binds,z7,RAt]at q);simp only[za,List.foldl_cons,List.foldl_nil,List.set_cons_succ,List.set_cons_zero];(try simp only[q]);go_wp2_with (first|(with_reducible refine lld hL ?_)|(with_reducible refine ldD hL ?_));exact⟨rfl,_,rfl,Below.refl _ _,rfl⟩));simp only[List.nil_append,List.cons_append])
 refine zh (qx w1.heap.size 3 2 [.int .i64 t.lo,.int .i64 t.hi]) qx.stable ?_ ?_
 ·intro g w hb q;replace hL:=hL.grow hb;(try simp[zi,List.filter_cons,Region.binds,z7,RAt]at q);simp only[za,List.foldl_cons,List.foldl_nil,List.set_cons_succ,List.set_cons_zero]
  (try simp only[q])
  go_wp2
  exact⟨rfl,_,rfl,(Below.refl _ _).alloc (Nat.le_refl _) _,_,hb.size,rfl,zI _ _⟩
 simp only[apN,apC]
 refine zh (qx w1.heap.size 3 2 [.int .i64 s.lo,.int .i64 s.hi]) qx.stable ?_ ?_
 ·intro g w hb q
  have hd:qx w1.heap.size 3 2 [.int .i64 s.lo,.int .i64 s.hi] (g 24) w:=zA (j:=4) q (by simp[zi,List.filter_cons,Region.binds])
  obtain⟨b,e0,e1,e2⟩:=hd
  simp only[za,List.foldl_cons,List.foldl_nil,List.set_cons_succ,List.set_cons_zero]
  simp only[e1]
  go_wp2
  exact⟨rfl,_,rfl,Below.refl _ _,b,e0,rfl,e2⟩
 simp only[apN,apC]
 refine zh (qx w1.heap.size 3 2 [.int .i64 t.lo,.int .i64 t.hi]) qx.stable ?_ ?_
 ·intro g w hb q
  have hd:qx w1.heap.size 3 2 [.int .i64 t.lo,.int .i64 t.hi] (g 29) w:=zA (j:=9) q (by simp[zi,List.filter_cons,Region.binds])
  obtain⟨b,e0,e1,e2⟩:=hd
  simp only[za,List.foldl_cons,List.foldl_nil,List.set_cons_succ,List.set_cons_zero]
  simp only[e1]
  go_wp2
  exact⟨rfl,_,rfl,Below.refl _ _,b,e0,rfl,e2⟩
 simp only[apN,apC]
 refine zO hL (by kernel_rfl) (by kernel_rfl) ?_;intro g wA hb hR;simp[z7,RAt,List.range,List.range.loop]at hR;simp only[za,List.foldl_cons,List.foldl_nil,List.set_cons_succ,List.set_cons_zero,hR]
 obtain⟨ba,k10,k20,k30⟩:qx w1.heap.size 3 2 [.int .i64 s.lo,.int .i64 s.hi] (g 8) wA:=by simp only[hR]
 obtain⟨bb,k11,k21,k31⟩:qx w1.heap.size 3 2 [.int .i64 t.lo,.int .i64 t.hi] (g 9) wA:=by simp only[hR]
 replace hL:=hL.moreAll hb (Ds:=[ja ba 3 [.int .i64 s.lo,.int .i64 s.hi],ja bb 3 [.int .i64 t.lo,.int .i64 t.hi]]) (by
  intro S hS
  simp only[List.mem_cons,List.not_mem_nil,or_false]at hS
  rcases hS with rfl|rfl
  ·exact ja.fresh k10 k30
  ·exact ja.fresh k11 k31)
 simp only[List.cons_append,List.nil_append]at hL
 simp only[k20,k21]
 clear k10 k20 k30 k11 k21 k31
 clear hR hb
 have hA:ZJ 3 1 (.slice none 0 0) 0 [] []:=ZJ.nil
 go_wp2_with (first|fail|((with_reducible refine wp_loop_rounds 5 ?_))|(with_reducible refine qr ?_))
 refine zf [55,56,57,58,59,60,61,62,63,64,65] ?_
 iterate 10 (refine' zb ?_ ?_;rotate_left;(focus(intro g w hb q;replace hL:=hL.grow hb;(try simp[zi,List.filter_cons,Region.binds,z7,RAt]at q);simp only[za,List.foldl_cons,List.foldl_nil,List.set_cons_succ,List.set_cons_zero];(try simp only[q]);go_wp2_with (first|(with_reducible refine lld hL ?_)|(with_reducible refine ldD hL ?_));exact⟨rfl,_,rfl,Below.refl _ _,rfl⟩));simp only[List.nil_append,List.cons_append])
 refine zh (qx wA.heap.size 3 1 [.int .i64 (s.lo - t.lo)]) qx.stable ?_ ?_
 ·intro g w hb q;replace hL:=hL.grow hb;(try simp[zi,List.filter_cons,Region.binds,z7,RAt]at q);simp only[za,List.foldl_cons,List.foldl_nil,List.set_cons_succ,List.set_cons_zero]
  (try simp only[q])
  go_wp2
  exact⟨rfl,_,rfl,(Below.refl _ _).alloc (Nat.le_refl _) _,_,hb.size,rfl,zI _ _⟩
 simp only[apN,apC]
 refine zO hL (by kernel_rfl) (by kernel_rfl) ?_;intro g wB0 hb hR;simp[z7,RAt,List.range,List.range.loop]at hR;simp only[za,List.foldl_cons,List.foldl_nil,List.set_cons_succ,List.set_cons_zero,hR]
 obtain⟨bx0,k1,k2,k3⟩:qx wA.heap.size 3 1 [.int .i64 (s.lo - t.lo)] (g 65) wB0:=by simp only[hR]
 replace hL:=hL.gain hb k1 k3
 simp only[k2]
 clear k1 k2 k3
 clear hR hb
 (with_reducible refine' jn (news:=[.int .i64 (s.lo - t.lo)]) (ad:=⟨bx0,0,none⟩) (m:=1) (c:=1) hA hL ?aw0 ?as0 (Split.mk 4 rfl) Qr Z8 ?az0 ?ax0 ?an0 ?al0 ?a10 ?am0 ?ab0 ?ah0)
 case aw0=>exact jB
 case as0=>rfl
 case az0=>simp
 case ax0=>rfl
 case an0=>exact yX hL (b:=bx0) cIn
 case al0=>rfl
 case a10=>simp[Value.oneCell']
 case am0=>unfold maxLen;omega
 case ab0=>omega
 clear hL hA
 intro vA RA wC0 hA hL
 simp only[Nat.zero_add,List.nil_append,List.cons_append,Nat.reduceAdd,List.take_succ_cons,List.take_zero]at hA hL
 go_wp2_with (first|fail|((with_reducible refine wp_loop_rounds 5 ?_))|(with_reducible refine qr ?_))
 refine zf [55,56,57,58,59,60,61,62,63,64,65] ?_
 iterate 10 (refine' zb ?_ ?_;rotate_left;(focus(intro g w hb q;replace hL:=hL.grow hb;(try simp[zi,List.filter_cons,Region.binds,z7,RAt]at q);simp only[za,List.foldl_cons,List.foldl_nil,List.set_cons_succ,List.set_cons_zero];(try simp only[q]);go_wp2_with (first|(with_reducible refine lld hL ?_)|(with_reducible refine ldD hL ?_));exact⟨rfl,_,rfl,Below.refl _ _,rfl⟩));simp only[List.nil_append,List.cons_append])
 refine zh (qx wC0.heap.size 3 1 [.int .i64 (s.lo - t.hi)]) qx.stable ?_ ?_
 ·intro g w hb q;replace hL:=hL.grow hb;(try simp[zi,List.filter_cons,Region.binds,z7,RAt]at q);simp only[za,List.foldl_cons,List.foldl_nil,List.set_cons_succ,List.set_cons_zero]
  (try simp only[q])
  go_wp2
  exact⟨rfl,_,rfl,(Below.refl _ _).alloc (Nat.le_refl _) _,_,hb.size,rfl,zI _ _⟩
 simp only[apN,apC]
 refine zO hL (by kernel_rfl) (by kernel_rfl) ?_;intro g wB1 hb hR;simp[z7,RAt,List.range,List.range.loop]at hR;simp only[za,List.foldl_cons,List.foldl_nil,List.set_cons_succ,List.set_cons_zero,hR]
 obtain⟨bx1,k1,k2,k3⟩:qx wC0.heap.size 3 1 [.int .i64 (s.lo - t.hi)] (g 65) wB1:=by simp only[hR]
 replace hL:=hL.gain hb k1 k3
 simp only[k2]
 clear k1 k2 k3
 clear hR hb
 (with_reducible refine' jn (news:=[.int .i64 (s.lo - t.hi)]) (ad:=⟨bx1,0,none⟩) (m:=1) (c:=1) hA hL ?aw1 ?as1 (Split.mk 5 rfl) Qr Z8 ?az1 ?ax1 ?an1 ?al1 ?a11 ?am1 ?ab1 ?ah1)
 case aw1=>exact jB
 case as1=>rfl
 case az1=>simp
 case ax1=>rfl
 case an1=>exact yX hL (b:=bx1) cIn
 case al1=>rfl
 case a11=>simp[Value.oneCell']
 case am1=>unfold maxLen;omega
 case ab1=>omega
 clear hL hA
 intro vA RA wC1 hA hL
 simp only[Nat.zero_add,List.nil_append,List.cons_append,Nat.reduceAdd,List.take_succ_cons,List.take_zero]at hA hL
 go_wp2_with (first|fail|((with_reducible refine wp_loop_rounds 5 ?_))|(with_reducible refine qr ?_))
 refine zf [55,56,57,58,59,60,61,62,63,64,65] ?_
 iterate 10 (refine' zb ?_ ?_;rotate_left;(focus(intro g w hb q;replace hL:=hL.grow hb;(try simp[zi,List.filter_cons,Region.binds,z7,RAt]at q);simp only[za,List.foldl_cons,List.foldl_nil,List.set_cons_succ,List.set_cons_zero];(try simp only[q]);go_wp2_with (first|(with_reducible refine lld hL ?_)|(with_reducible refine ldD hL ?_));exact⟨rfl,_,rfl,Below.refl _ _,rfl⟩));simp only[List.nil_append,List.cons_append])
 refine zh (qx wC1.heap.size 3 1 [.int .i64 (s.hi - t.lo)]) qx.stable ?_ ?_
 ·intro g w hb q;replace hL:=hL.grow hb;(try simp[zi,List.filter_cons,Region.binds,z7,RAt]at q);simp only[za,List.foldl_cons,List.foldl_nil,List.set_cons_succ,List.set_cons_zero]
  (try simp only[q])
  go_wp2
  exact⟨rfl,_,rfl,(Below.refl _ _).alloc (Nat.le_refl _) _,_,hb.size,rfl,zI _ _⟩
 simp only[apN,apC]
 refine zO hL (by kernel_rfl) (by kernel_rfl) ?_;intro g wB2 hb hR;simp[z7,RAt,List.range,List.range.loop]at hR;simp only[za,List.foldl_cons,List.foldl_nil,List.set_cons_succ,List.set_cons_zero,hR]
 obtain⟨bx2,k1,k2,k3⟩:qx wC1.heap.size 3 1 [.int .i64 (s.hi - t.lo)] (g 65) wB2:=by simp only[hR]
 replace hL:=hL.gain hb k1 k3
 simp only[k2]
 clear k1 k2 k3
 clear hR hb
 (with_reducible refine' jn (news:=[.int .i64 (s.hi - t.lo)]) (ad:=⟨bx2,0,none⟩) (m:=1) (c:=1) hA hL ?aw2 ?as2 (Split.mk 6 rfl) Qr Z8 ?az2 ?ax2 ?an2 ?al2 ?a12 ?am2 ?ab2 ?ah2)
 case aw2=>exact jB
 case as2=>rfl
 case az2=>simp
 case ax2=>rfl
 case an2=>exact yX hL (b:=bx2) cIn
 case al2=>rfl
 case a12=>simp[Value.oneCell']
 case am2=>unfold maxLen;omega
 case ab2=>omega
 clear hL hA
 intro vA RA wC2 hA hL
 simp only[Nat.zero_add,List.nil_append,List.cons_append,Nat.reduceAdd,List.take_succ_cons,List.take_zero]at hA hL
 go_wp2_with (first|fail|((with_reducible refine wp_loop_rounds 5 ?_))|(with_reducible refine qr ?_))
 refine zf [55,56,57,58,59,60,61,62,63,64,65] ?_
 iterate 10 (refine' zb ?_ ?_;rotate_left;(focus(intro g w hb q;replace hL:=hL.grow hb;(try simp[zi,List.filter_cons,Region.binds,z7,RAt]at q);simp only[za,List.foldl_cons,List.foldl_nil,List.set_cons_succ,List.set_cons_zero];(try simp only[q]);go_wp2_with (first|(with_reducible refine lld hL ?_)|(with_reducible refine ldD hL ?_));exact⟨rfl,_,rfl,Below.refl _ _,rfl⟩));simp only[List.nil_append,List.cons_append])
 refine zh (qx wC2.heap.size 3 1 [.int .i64 (s.hi - t.hi)]) qx.stable ?_ ?_
 ·intro g w hb q;replace hL:=hL.grow hb;(try simp[zi,List.filter_cons,Region.binds,z7,RAt]at q);simp only[za,List.foldl_cons,List.foldl_nil,List.set_cons_succ,List.set_cons_zero]
  (try simp only[q])
  go_wp2
  exact⟨rfl,_,rfl,(Below.refl _ _).alloc (Nat.le_refl _) _,_,hb.size,rfl,zI _ _⟩
 simp only[apN,apC]
 refine zO hL (by kernel_rfl) (by kernel_rfl) ?_;intro g wB3 hb hR;simp[z7,RAt,List.range,List.range.loop]at hR;simp only[za,List.foldl_cons,List.foldl_nil,List.set_cons_succ,List.set_cons_zero,hR]
 obtain⟨bx3,k1,k2,k3⟩:qx wC2.heap.size 3 1 [.int .i64 (s.hi - t.hi)] (g 65) wB3:=by simp only[hR]
 replace hL:=hL.gain hb k1 k3
 simp only[k2]
 clear k1 k2 k3
 clear hR hb
 (with_reducible refine' jn (news:=[.int .i64 (s.hi - t.hi)]) (ad:=⟨bx3,0,none⟩) (m:=1) (c:=1) hA hL ?aw3 ?as3 (Split.mk 7 rfl) Qr Z8 ?az3 ?ax3 ?an3 ?al3 ?a13 ?am3 ?ab3 ?ah3)
 case aw3=>exact jB
 case as3=>rfl
 case az3=>simp
 case ax3=>rfl
 case an3=>exact yX hL (b:=bx3) cIn
 case al3=>rfl
 case a13=>simp[Value.oneCell']
 case am3=>unfold maxLen;omega
 case ab3=>omega
 clear hL hA
 intro vA RA wC3 hA hL
 simp only[Nat.zero_add,List.nil_append,List.cons_append,Nat.reduceAdd,List.take_succ_cons,List.take_zero]at hA hL
 go_wp2_with (first|fail|((with_reducible refine wp_loop_rounds 5 ?_))|(with_reducible refine qr ?_))
 obtain⟨gA,capA,rfl,y0,y1,y2,y3⟩:=zgk hA hL (Split.mk 7 rfl)
 obtain⟨hmn,hmx,hF⟩:=Hmm.out
 have hle:=zbr gA 0 capA _ _ _ _ wC3 y0 y1 y2 y3
 have hmo:=zep gA 0 capA _ _ _ _ wC3 y0 y1 y2 y3
 rw[hmn]at hle
 rw[hmx]at hmo
 have HLE:=Lib.hid hle
 have HMO:=Lib.hid hmo
 clear hle hmo y0 y1 y2 y3 hmn hmx
 refine HLE.out.mono ?_
 rintro e w' ⟨rfl,rfl⟩;dsimp only
 have HF:=Lib.hid hF
 by_cases hck:zm ⟨false,mn,mx⟩=0
 ·have HC:=Lib.hid (fun w=>(by have h:=QE ⟨false,mn,mx⟩ w;rw[hck]at h;exact h:Calls Tryz.prog 177 #[zq.v ⟨false,mn,mx⟩] w fun e w'=>e=.returned (.int .i64 0)∧Below w.heap.size w w'))
  have HK:=Lib.hid hck
  clear hck hF
  go_wp2_with (first|(with_reducible first|refine lld hL ?_|(refine lal hL ?_;clear hL;intro bl w1 hL)|(refine zd hL ?_;clear hL;intro w1 hL))|(go_at_call 176;refine HMO.out.mono ?_;rintro e w' ⟨rfl,rfl⟩;dsimp only)|(go_at_call 177;refine(HC.out _).mono ?_;rintro e w1 ⟨rfl,hb⟩;replace hL:=hL.grow hb;clear hb;dsimp only))
  refine rt1 ?_
  exact⟨by rw[HF.out,if_pos HK.out],hL.below⟩
 ·have hne:(zm ⟨false,mn,mx⟩ != 0)=true:=by simp[hck]
  have hc:=QE ⟨false,mn,mx⟩
  have HK:=Lib.hid hck
  generalize zm ⟨false,mn,mx⟩=ck at hne hc
  have HC:=Lib.hid hc
  clear hck hF hc
  go_wp2_with (first|(with_reducible first|refine lld hL ?_|(refine lal hL ?_;clear hL;intro bl w1 hL)|(refine zd hL ?_;clear hL;intro w1 hL))|(go_at_call 176;refine HMO.out.mono ?_;rintro e w' ⟨rfl,rfl⟩;dsimp only)|(go_at_call 177;refine(HC.out _).mono ?_;rintro e w1 ⟨rfl,hb⟩;replace hL:=hL.grow hb;clear hb;dsimp only))
  refine rt1 ?_
  exact⟨by rw[HF.out,if_neg HK.out],hL.below⟩
theorem zgN (s t:zq) (hs:zm s=0) (ht:zm t=0) (h1:s.none=false) (h2:t.none=false) (w:World):
  Calls Tryz.prog 124 #[.int .i64 7,s.v,t.v] w fun e w'=>e=.returned ((QK 7 s t).v)∧Below w.heap.size w w':=by
 have hL:=Loc.start w
 obtain⟨⟨s1,s2,s3,s4⟩,hls,_⟩:=zu hs
 obtain⟨⟨t1,t2,t3,t4⟩,hlt,_⟩:=zu ht
 have hF:=zes (k:=7) (by omega) hls hlt h1 h2 rfl rfl
 simp only[Zv,if_neg (show ¬ (7:Int)=6 by decide),if_true]at hF
 obtain⟨mn,hmn⟩:∃ mn,KO (s.lo*t.lo) (s.lo*t.hi) (s.hi*t.lo) (s.hi*t.hi)=mn:=⟨_,rfl⟩
 obtain⟨mx,hmx⟩:∃ mx,KP (s.lo*t.lo) (s.lo*t.hi) (s.hi*t.lo) (s.hi*t.hi)=mx:=⟨_,rfl⟩
 rw[hmn,hmx]at hF
 obtain⟨m1,m2⟩:=Qd s1 s2 t1 t2
 obtain⟨m3,m4⟩:=Qd s1 s2 t3 t4
 obtain⟨m5,m6⟩:=Qd s3 s4 t1 t2
 obtain⟨m7,m8⟩:=Qd s3 s4 t3 t4
 clear hs ht
 have Hmm:=Lib.hid (And.intro hmn (And.intro hmx hF))
 clear hmn hmx hF
 have hL:=Loc.start w
 go_enter Tryz.func124,Tryz.ntmps124
 go_wp2_with (first|(with_reducible first|refine lld hL ?_|((first|refine lbx hL ?_|refine lal hL ?_);clear hL;intro bl w1 hL)))
 refine zf [20,21,22,23,24,25,26,27,28,29,8,9] ?_
 iterate 4 (refine' zb ?_ ?_;rotate_left;(focus(intro g w hb q;replace hL:=hL.grow hb;(try simp[zi,List.filter_cons,Region.binds,z7,RAt]at q);simp only[za,List.foldl_cons,List.foldl_nil,List.set_cons_succ,List.set_cons_zero];(try simp only[q]);go_wp2_with (first|(with_reducible refine lld hL ?_)|(with_reducible refine ldD hL ?_));exact⟨rfl,_,rfl,Below.refl _ _,rfl⟩));simp only[List.nil_append,List.cons_append])
 refine zh (qx w1.heap.size 3 2 [.int .i64 s.lo,.int .i64 s.hi]) qx.stable ?_ ?_
 ·intro g w hb q;replace hL:=hL.grow hb;(try simp[zi,List.filter_cons,Region.binds,z7,RAt]at q);simp only[za,List.foldl_cons,List.foldl_nil,List.set_cons_succ,List.set_cons_zero]
  (try simp only[q])
  go_wp2
  exact⟨rfl,_,rfl,(Below.refl _ _).alloc (Nat.le_refl _) _,_,hb.size,rfl,zI _ _⟩
 simp only[apN,apC]
 iterate 4 (refine' zb ?_ ?_;rotate_left;(focus(intro g w hb q;replace hL:=hL.grow hb;(try simp[zi,List.filter_cons,Region.binds,z7,RAt]at q);simp only[za,List.foldl_cons,List.foldl_nil,List.set_cons_succ,List.set_cons_zero];(try simp only[q]);go_wp2_with (first|(with_reducible refine lld hL ?_)|(with_reducible refine ldD hL ?_));exact⟨rfl,_,rfl,Below.refl _ _,rfl⟩));simp only[List.nil_append,List.cons_append])
 refine zh (qx w1.heap.size 3 2 [.int .i64 t.lo,.int .i64 t.hi]) qx.stable ?_ ?_
 ·intro g w hb q;replace hL:=hL.grow hb;(try simp[zi,List.filter_cons,Region.binds,z7,RAt]at q);simp only[za,List.foldl_cons,List.foldl_nil,List.set_cons_succ,List.set_cons_zero]
  (try simp only[q])
  go_wp2
  exact⟨rfl,_,rfl,(Below.refl _ _).alloc (Nat.le_refl _) _,_,hb.size,rfl,zI _ _⟩
 simp only[apN,apC]
 refine zh (qx w1.heap.size 3 2 [.int .i64 s.lo,.int .i64 s.hi]) qx.stable ?_ ?_
 ·intro g w hb q
  have hd:qx w1.heap.size 3 2 [.int .i64 s.lo,.int .i64 s.hi] (g 24) w:=zA (j:=4) q (by simp[zi,List.filter_cons,Region.binds])
  obtain⟨b,e0,e1,e2⟩:=hd
  simp only[za,List.foldl_cons,List.foldl_nil,List.set_cons_succ,List.set_cons_zero]
  simp only[e1]
  go_wp2
  exact⟨rfl,_,rfl,Below.refl _ _,b,e0,rfl,e2⟩
 simp only[apN,apC]
 refine zh (qx w1.heap.size 3 2 [.int .i64 t.lo,.int .i64 t.hi]) qx.stable ?_ ?_
 ·intro g w hb q
  have hd:qx w1.heap.size 3 2 [.int .i64 t.lo,.int .i64 t.hi] (g 29) w:=zA (j:=9) q (by simp[zi,List.filter_cons,Region.binds])
  obtain⟨b,e0,e1,e2⟩:=hd
  simp only[za,List.foldl_cons,List.foldl_nil,List.set_cons_succ,List.set_cons_zero]
  simp only[e1]
  go_wp2
  exact⟨rfl,_,rfl,Below.refl _ _,b,e0,rfl,e2⟩
 simp only[apN,apC]
 refine zO hL (by kernel_rfl) (by kernel_rfl) ?_;intro g wA hb hR;simp[z7,RAt,List.range,List.range.loop]at hR;simp only[za,List.foldl_cons,List.foldl_nil,List.set_cons_succ,List.set_cons_zero,hR]
 obtain⟨ba,k10,k20,k30⟩:qx w1.heap.size 3 2 [.int .i64 s.lo,.int .i64 s.hi] (g 8) wA:=by simp only[hR]
 obtain⟨bb,k11,k21,k31⟩:qx w1.heap.size 3 2 [.int .i64 t.lo,.int .i64 t.hi] (g 9) wA:=by simp only[hR]
 replace hL:=hL.moreAll hb (Ds:=[ja ba 3 [.int .i64 s.lo,.int .i64 s.hi],ja bb 3 [.int .i64 t.lo,.int .i64 t.hi]]) (by
  intro S hS
  simp only[List.mem_cons,List.not_mem_nil,or_false]at hS
  rcases hS with rfl|rfl
  ·exact ja.fresh k10 k30
  ·exact ja.fresh k11 k31)
 simp only[List.cons_append,List.nil_append]at hL
 simp only[k20,k21]
 clear k10 k20 k30 k11 k21 k31
 clear hR hb
 have hA:ZJ 3 1 (.slice none 0 0) 0 [] []:=ZJ.nil
 go_wp2_with (first|fail|((with_reducible refine wp_loop_rounds 5 ?_))|(with_reducible refine qr ?_))
 refine zf [69,70,71,72,73,74,75,76,77,78,79] ?_
 iterate 10 (refine' zb ?_ ?_;rotate_left;(focus(intro g w hb q;replace hL:=hL.grow hb;(try simp[zi,List.filter_cons,Region.binds,z7,RAt]at q);simp only[za,List.foldl_cons,List.foldl_nil,List.set_cons_succ,List.set_cons_zero];(try simp only[q]);go_wp2_with (first|(with_reducible refine lld hL ?_)|(with_reducible refine ldD hL ?_));exact⟨rfl,_,rfl,Below.refl _ _,rfl⟩));simp only[List.nil_append,List.cons_append])
 refine zh (qx wA.heap.size 3 1 [.int .i64 (s.lo*t.lo)]) qx.stable ?_ ?_
 ·intro g w hb q;replace hL:=hL.grow hb;(try simp[zi,List.filter_cons,Region.binds,z7,RAt]at q);simp only[za,List.foldl_cons,List.foldl_nil,List.set_cons_succ,List.set_cons_zero]
  (try simp only[q])
  go_wp2
  exact⟨rfl,_,rfl,(Below.refl _ _).alloc (Nat.le_refl _) _,_,hb.size,rfl,zI _ _⟩
 simp only[apN,apC]
 refine zO hL (by kernel_rfl) (by kernel_rfl) ?_;intro g wB0 hb hR;simp[z7,RAt,List.range,List.range.loop]at hR;simp only[za,List.foldl_cons,List.foldl_nil,List.set_cons_succ,List.set_cons_zero,hR]
 obtain⟨bx0,k1,k2,k3⟩:qx wA.heap.size 3 1 [.int .i64 (s.lo*t.lo)] (g 79) wB0:=by simp only[hR]
 replace hL:=hL.gain hb k1 k3
 simp only[k2]
 clear k1 k2 k3
 clear hR hb
 (with_reducible refine' jn (news:=[.int .i64 (s.lo*t.lo)]) (ad:=⟨bx0,0,none⟩) (m:=1) (c:=1) hA hL ?aw0 ?as0 (Split.mk 4 rfl) Qr Z8 ?az0 ?ax0 ?an0 ?al0 ?a10 ?am0 ?ab0 ?ah0)
 case aw0=>exact jB
 case as0=>rfl
 case az0=>simp
 case ax0=>rfl
 case an0=>exact yX hL (b:=bx0) cIn
 case al0=>rfl
 case a10=>simp[Value.oneCell']
 case am0=>unfold maxLen;omega
 case ab0=>omega
 clear hL hA
 intro vA RA wC0 hA hL
 simp only[Nat.zero_add,List.nil_append,List.cons_append,Nat.reduceAdd,List.take_succ_cons,List.take_zero]at hA hL
 go_wp2_with (first|fail|((with_reducible refine wp_loop_rounds 5 ?_))|(with_reducible refine qr ?_))
 refine zf [69,70,71,72,73,74,75,76,77,78,79] ?_
 iterate 10 (refine' zb ?_ ?_;rotate_left;(focus(intro g w hb q;replace hL:=hL.grow hb;(try simp[zi,List.filter_cons,Region.binds,z7,RAt]at q);simp only[za,List.foldl_cons,List.foldl_nil,List.set_cons_succ,List.set_cons_zero];(try simp only[q]);go_wp2_with (first|(with_reducible refine lld hL ?_)|(with_reducible refine ldD hL ?_));exact⟨rfl,_,rfl,Below.refl _ _,rfl⟩));simp only[List.nil_append,List.cons_append])
 refine zh (qx wC0.heap.size 3 1 [.int .i64 (s.lo*t.hi)]) qx.stable ?_ ?_
 ·intro g w hb q;replace hL:=hL.grow hb;(try simp[zi,List.filter_cons,Region.binds,z7,RAt]at q);simp only[za,List.foldl_cons,List.foldl_nil,List.set_cons_succ,List.set_cons_zero]
  (try simp only[q])
  go_wp2
  exact⟨rfl,_,rfl,(Below.refl _ _).alloc (Nat.le_refl _) _,_,hb.size,rfl,zI _ _⟩
 simp only[apN,apC]
 refine zO hL (by kernel_rfl) (by kernel_rfl) ?_;intro g wB1 hb hR;simp[z7,RAt,List.range,List.range.loop]at hR;simp only[za,List.foldl_cons,List.foldl_nil,List.set_cons_succ,List.set_cons_zero,hR]
 obtain⟨bx1,k1,k2,k3⟩:qx wC0.heap.size 3 1 [.int .i64 (s.lo*t.hi)] (g 79) wB1:=by simp only[hR]
 replace hL:=hL.gain hb k1 k3
 simp only[k2]
 clear k1 k2 k3
 clear hR hb
 (with_reducible refine' jn (news:=[.int .i64 (s.lo*t.hi)]) (ad:=⟨bx1,0,none⟩) (m:=1) (c:=1) hA hL ?aw1 ?as1 (Split.mk 5 rfl) Qr Z8 ?az1 ?ax1 ?an1 ?al1 ?a11 ?am1 ?ab1 ?ah1)
 case aw1=>exact jB
 case as1=>rfl
 case az1=>simp
 case ax1=>rfl
 case an1=>exact yX hL (b:=bx1) cIn
 case al1=>rfl
 case a11=>simp[Value.oneCell']
 case am1=>unfold maxLen;omega
 case ab1=>omega
 clear hL hA
 intro vA RA wC1 hA hL
 simp only[Nat.zero_add,List.nil_append,List.cons_append,Nat.reduceAdd,List.take_succ_cons,List.take_zero]at hA hL
 go_wp2_with (first|fail|((with_reducible refine wp_loop_rounds 5 ?_))|(with_reducible refine qr ?_))
 refine zf [69,70,71,72,73,74,75,76,77,78,79] ?_
 iterate 10 (refine' zb ?_ ?_;rotate_left;(focus(intro g w hb q;replace hL:=hL.grow hb;(try simp[zi,List.filter_cons,Region.binds,z7,RAt]at q);simp only[za,List.foldl_cons,List.foldl_nil,List.set_cons_succ,List.set_cons_zero];(try simp only[q]);go_wp2_with (first|(with_reducible refine lld hL ?_)|(with_reducible refine ldD hL ?_));exact⟨rfl,_,rfl,Below.refl _ _,rfl⟩));simp only[List.nil_append,List.cons_append])
 refine zh (qx wC1.heap.size 3 1 [.int .i64 (s.hi*t.lo)]) qx.stable ?_ ?_
 ·intro g w hb q;replace hL:=hL.grow hb;(try simp[zi,List.filter_cons,Region.binds,z7,RAt]at q);simp only[za,List.foldl_cons,List.foldl_nil,List.set_cons_succ,List.set_cons_zero]
  (try simp only[q])
  go_wp2
  exact⟨rfl,_,rfl,(Below.refl _ _).alloc (Nat.le_refl _) _,_,hb.size,rfl,zI _ _⟩
 simp only[apN,apC]
 refine zO hL (by kernel_rfl) (by kernel_rfl) ?_;intro g wB2 hb hR;simp[z7,RAt,List.range,List.range.loop]at hR;simp only[za,List.foldl_cons,List.foldl_nil,List.set_cons_succ,List.set_cons_zero,hR]
 obtain⟨bx2,k1,k2,k3⟩:qx wC1.heap.size 3 1 [.int .i64 (s.hi*t.lo)] (g 79) wB2:=by simp only[hR]
 replace hL:=hL.gain hb k1 k3
 simp only[k2]
 clear k1 k2 k3
 clear hR hb
 (with_reducible refine' jn (news:=[.int .i64 (s.hi*t.lo)]) (ad:=⟨bx2,0,none⟩) (m:=1) (c:=1) hA hL ?aw2 ?as2 (Split.mk 6 rfl) Qr Z8 ?az2 ?ax2 ?an2 ?al2 ?a12 ?am2 ?ab2 ?ah2)
 case aw2=>exact jB
 case as2=>rfl
 case az2=>simp
 case ax2=>rfl
 case an2=>exact yX hL (b:=bx2) cIn
 case al2=>rfl
 case a12=>simp[Value.oneCell']
 case am2=>unfold maxLen;omega
 case ab2=>omega
 clear hL hA
 intro vA RA wC2 hA hL
 simp only[Nat.zero_add,List.nil_append,List.cons_append,Nat.reduceAdd,List.take_succ_cons,List.take_zero]at hA hL
 go_wp2_with (first|fail|((with_reducible refine wp_loop_rounds 5 ?_))|(with_reducible refine qr ?_))
 refine zf [69,70,71,72,73,74,75,76,77,78,79] ?_
 iterate 10 (refine' zb ?_ ?_;rotate_left;(focus(intro g w hb q;replace hL:=hL.grow hb;(try simp[zi,List.filter_cons,Region.binds,z7,RAt]at q);simp only[za,List.foldl_cons,List.foldl_nil,List.set_cons_succ,List.set_cons_zero];(try simp only[q]);go_wp2_with (first|(with_reducible refine lld hL ?_)|(with_reducible refine ldD hL ?_));exact⟨rfl,_,rfl,Below.refl _ _,rfl⟩));simp only[List.nil_append,List.cons_append])
 refine zh (qx wC2.heap.size 3 1 [.int .i64 (s.hi*t.hi)]) qx.stable ?_ ?_
 ·intro g w hb q;replace hL:=hL.grow hb;(try simp[zi,List.filter_cons,Region.binds,z7,RAt]at q);simp only[za,List.foldl_cons,List.foldl_nil,List.set_cons_succ,List.set_cons_zero]
  (try simp only[q])
  go_wp2
  exact⟨rfl,_,rfl,(Below.refl _ _).alloc (Nat.le_refl _) _,_,hb.size,rfl,zI _ _⟩
 simp only[apN,apC]
 refine zO hL (by kernel_rfl) (by kernel_rfl) ?_;intro g wB3 hb hR;simp[z7,RAt,List.range,List.range.loop]at hR;simp only[za,List.foldl_cons,List.foldl_nil,List.set_cons_succ,List.set_cons_zero,hR]
 obtain⟨bx3,k1,k2,k3⟩:qx wC2.heap.size 3 1 [.int .i64 (s.hi*t.hi)] (g 79) wB3:=by simp only[hR]
 replace hL:=hL.gain hb k1 k3
 simp only[k2]
 clear k1 k2 k3
 clear hR hb
 (with_reducible refine' jn (news:=[.int .i64 (s.hi*t.hi)]) (ad:=⟨bx3,0,none⟩) (m:=1) (c:=1) hA hL ?aw3 ?as3 (Split.mk 7 rfl) Qr Z8 ?az3 ?ax3 ?an3 ?al3 ?a13 ?am3 ?ab3 ?ah3)
 case aw3=>exact jB
 case as3=>rfl
 case az3=>simp
 case ax3=>rfl
 case an3=>exact yX hL (b:=bx3) cIn
 case al3=>rfl
 case a13=>simp[Value.oneCell']
 case am3=>unfold maxLen;omega
 case ab3=>omega
 clear hL hA
 intro vA RA wC3 hA hL
 simp only[Nat.zero_add,List.nil_append,List.cons_append,Nat.reduceAdd,List.take_succ_cons,List.take_zero]at hA hL
 go_wp2_with (first|fail|((with_reducible refine wp_loop_rounds 5 ?_))|(with_reducible refine qr ?_))
 obtain⟨gA,capA,rfl,y0,y1,y2,y3⟩:=zgk hA hL (Split.mk 7 rfl)
 obtain⟨hmn,hmx,hF⟩:=Hmm.out
 have hle:=zbr gA 0 capA _ _ _ _ wC3 y0 y1 y2 y3
 have hmo:=zep gA 0 capA _ _ _ _ wC3 y0 y1 y2 y3
 rw[hmn]at hle
 rw[hmx]at hmo
 have HLE:=Lib.hid hle
 have HMO:=Lib.hid hmo
 clear hle hmo y0 y1 y2 y3 hmn hmx
 refine HLE.out.mono ?_
 rintro e w' ⟨rfl,rfl⟩;dsimp only
 have HF:=Lib.hid hF
 by_cases hck:zm ⟨false,mn,mx⟩=0
 ·have HC:=Lib.hid (fun w=>(by have h:=QE ⟨false,mn,mx⟩ w;rw[hck]at h;exact h:Calls Tryz.prog 177 #[zq.v ⟨false,mn,mx⟩] w fun e w'=>e=.returned (.int .i64 0)∧Below w.heap.size w w'))
  have HK:=Lib.hid hck
  clear hck hF
  go_wp2_with (first|(with_reducible first|refine lld hL ?_|(refine lal hL ?_;clear hL;intro bl w1 hL)|(refine zd hL ?_;clear hL;intro w1 hL))|(go_at_call 176;refine HMO.out.mono ?_;rintro e w' ⟨rfl,rfl⟩;dsimp only)|(go_at_call 177;refine(HC.out _).mono ?_;rintro e w1 ⟨rfl,hb⟩;replace hL:=hL.grow hb;clear hb;dsimp only))
  refine rt1 ?_
  exact⟨by rw[HF.out,if_pos HK.out],hL.below⟩
 ·have hne:(zm ⟨false,mn,mx⟩ != 0)=true:=by simp[hck]
  have hc:=QE ⟨false,mn,mx⟩
  have HK:=Lib.hid hck
  generalize zm ⟨false,mn,mx⟩=ck at hne hc
  have HC:=Lib.hid hc
  clear hck hF hc
  go_wp2_with (first|(with_reducible first|refine lld hL ?_|(refine lal hL ?_;clear hL;intro bl w1 hL)|(refine zd hL ?_;clear hL;intro w1 hL))|(go_at_call 176;refine HMO.out.mono ?_;rintro e w' ⟨rfl,rfl⟩;dsimp only)|(go_at_call 177;refine(HC.out _).mono ?_;rintro e w1 ⟨rfl,hb⟩;replace hL:=hL.grow hb;clear hb;dsimp only))
  refine rt1 ?_
  exact⟨by rw[HF.out,if_neg HK.out],hL.below⟩
end Go.Proofs.YtplcndmdkabmeaaGreatDoor
