import Derived.Test.YtplcndmdkabmeaaGreatDoorCod
import Derived.Deep.QuietTactic
import Derived.BigQuiet
import Derived.Test.YtplcndmdkabmeaaGreatDoorLib
set_option linter.unusedSimpArgs false
set_option linter.unusedVariables false
set_option maxRecDepth 100000
set_option maxHeartbeats 4000000
namespace Go.Proofs.YtplcndmdkabmeaaGreatDoor
open Go.RowKit
theorem is_any (n:Int) (w:World):
  Calls Tryz.prog 226 #[.int .i64 n] w fun e w'=>e=.returned (.bool (inRange n))∧w=w':=by
 by_cases h1:-2147483648≤n
 all_goals
  go_enter Tryz.func226,Tryz.ntmps226
  go_wp2
  go_ret
  exact⟨by simp[inRange];omega,rfl⟩
theorem of_any (a b:Int) (w:World):
  Calls Tryz.prog 106 #[.int .i64 a,.int .i64 b] w fun e w'=>e=.returned (Span.v ⟨false,a,b⟩)∧Below w.heap.size w w':=by
 have hL:=Loc.start w
 go_enter Tryz.func106,Tryz.ntmps106
 go_wp2_with (first|(with_reducible first|refine lld hL ?_|((first|refine lbx hL ?_|refine lal hL ?_|refine lbs hL ?_);clear hL;intro bl w1 hL)|(refine lst' hL ?_;clear hL;intro w1 hL)))
 all_goals
  (try simp only[Exit.inBlock,Exit.then]);refine rt1 ?_
  exact⟨by rfl,hL.below⟩
theorem none_any  (w:World):
  Calls Tryz.prog 181 #[] w fun e w'=>e=.returned (noSpan.v)∧Below w.heap.size w w':=by
 have hL:=Loc.start w
 go_enter Tryz.func181,Tryz.ntmps181
 go_wp2_with (first|(with_reducible first|refine lld hL ?_|((first|refine lbx hL ?_|refine lal hL ?_|refine lbs hL ?_);clear hL;intro bl w1 hL)|(refine lst' hL ?_;clear hL;intro w1 hL)))
 all_goals
  (try simp only[Exit.inBlock,Exit.then]);refine rt1 ?_
  exact⟨by rfl,hL.below⟩
theorem both_any (s t:Span) (w:World):
  Calls Tryz.prog 60 #[s.v,t.v] w fun e w'=>e=.returned ((both s t).v)∧Below w.heap.size w w':=by
 have hL:=Loc.start w
 go_enter Tryz.func60,Tryz.ntmps60
 go_wp2_with (first|(with_reducible first|refine lld hL ?_|((first|refine lbx hL ?_|refine lal hL ?_|refine lbs hL ?_);clear hL;intro bl w1 hL)|(refine lst' hL ?_;clear hL;intro w1 hL))|(go_at_call 106;refine(of_any _ _ _).mono ?_;rintro e w1 ⟨rfl,hb⟩;replace hL:=hL.grow hb;clear hb;dsimp only))
 all_goals
  (try simp only[Exit.inBlock,Exit.then]);refine rt1 ?_
  exact⟨by simp[both, *]<;>omega,hL.below⟩
theorem in_any (s:Span) (n:Int) (w:World):
  Calls Tryz.prog 182 #[s.v,.int .i64 n] w fun e w'=>e=.returned (.bool (inSpan s n))∧Below w.heap.size w w':=by
 have hL:=Loc.start w
 go_enter Tryz.func182,Tryz.ntmps182
 go_wp2_with (first|(with_reducible first|refine lld hL ?_|((first|refine lbx hL ?_|refine lal hL ?_|refine lbs hL ?_);clear hL;intro bl w1 hL)|(refine lst' hL ?_;clear hL;intro w1 hL)))
 all_goals
  (try simp only[Exit.inBlock,Exit.then]);refine rt1 ?_
  exact⟨by simp_all [inSpan]<;>omega,hL.below⟩
theorem inside_any (s t:Span) (w:World):
  Calls Tryz.prog 190 #[s.v,t.v] w fun e w'=>e=.returned (.bool (inside s t))∧Below w.heap.size w w':=by
 have hL:=Loc.start w
 go_enter Tryz.func190,Tryz.ntmps190
 go_wp2_with (first|(with_reducible first|refine lld hL ?_|((first|refine lbx hL ?_|refine lal hL ?_|refine lbs hL ?_);clear hL;intro bl w1 hL)|(refine lst' hL ?_;clear hL;intro w1 hL)))
 all_goals
  (try simp only[Exit.inBlock,Exit.then]);refine rt1 ?_
  exact⟨by simp_all [inside]<;>omega,hL.below⟩
theorem common_any (s t:Span) (w:World):
  Calls Tryz.prog 203 #[s.v,t.v] w fun e w'=>e=.returned ((common s t).v)∧Below w.heap.size w w':=by
 have hL:=Loc.start w
 go_enter Tryz.func203,Tryz.ntmps203
 go_wp2_with (first|(with_reducible first|refine lld hL ?_|((first|refine lbx hL ?_|refine lal hL ?_|refine lbs hL ?_);clear hL;intro bl w1 hL)|(refine lst' hL ?_;clear hL;intro w1 hL))|(go_at_call 106;refine(of_any _ _ _).mono ?_;rintro e w1 ⟨rfl,hb⟩;replace hL:=hL.grow hb;clear hb;dsimp only)|(go_at_call 181;refine(none_any _).mono ?_;rintro e w1 ⟨rfl,hb⟩;replace hL:=hL.grow hb;clear hb;dsimp only))
 all_goals
  (try simp only[Exit.inBlock,Exit.then]);refine rt1 ?_
  exact⟨by simp[common, *]<;>(try (split<;>simp<;>omega)),hL.below⟩
theorem wider_any (s t:Span) (w:World):
  Calls Tryz.prog 61 #[s.v,t.v] w fun e w'=>e=.returned ((wider s t).v)∧Below w.heap.size w w':=by
 have hL:=Loc.start w
 go_enter Tryz.func61,Tryz.ntmps61
 go_wp2_with (first|(with_reducible first|refine lld hL ?_|((first|refine lbx hL ?_|refine lal hL ?_|refine lbs hL ?_);clear hL;intro bl w1 hL)|(refine lst' hL ?_;clear hL;intro w1 hL))|(go_at_call 60;refine(both_any _ _ _).mono ?_;rintro e w1 ⟨rfl,hb⟩;replace hL:=hL.grow hb;clear hb;dsimp only))
 all_goals
  (try simp only[Exit.inBlock,Exit.then]);refine rt1 ?_
  exact⟨by simp[wider,both, *]<;>omega,hL.below⟩
theorem run_min4 (ts:Array TypeId) (t:TypeId) (P:Program) (x y z u:Int) (w:World):(Builtin.min_ ts t #[.int .i64 x,.int .i64 y,.int .i64 z,.int .i64 u]).run P w=.ok (.int .i64 (min4 x y z u)) w:=by
 simp[Builtin.min_,Builtin.min2,min4,min2];rfl
theorem run_max4 (ts:Array TypeId) (t:TypeId) (P:Program) (x y z u:Int) (w:World):(Builtin.max_ ts t #[.int .i64 x,.int .i64 y,.int .i64 z,.int .i64 u]).run P w=.ok (.int .i64 (max4 x y z u)) w:=by
 simp[Builtin.max_,Builtin.max2,max4,max2]
def Ends (s:Span):Prop:=-2147483648≤s.lo∧s.lo≤2147483647∧-2147483648≤s.hi∧s.hi≤2147483647
theorem mul_small {a b:Int}(h1:-2147483648≤a) (h2:a≤2147483647) (h3:-2147483648≤b) (h4:b≤2147483647):-4611686018427387904≤a*b∧a*b≤4611686018427387904:=by
 have e1:(a+2147483648)*(b+2147483648) ≥ 0:=Int.mul_nonneg (by omega) (by omega)
 have e2:(2147483647 - a)*(2147483647 - b) ≥ 0:=Int.mul_nonneg (by omega) (by omega)
 have e3:(a+2147483648)*(2147483647 - b) ≥ 0:=Int.mul_nonneg (by omega) (by omega)
 have e4:(2147483647 - a)*(b+2147483648) ≥ 0:=Int.mul_nonneg (by omega) (by omega)
 simp only[Int.add_mul,Int.mul_add,Int.sub_mul,Int.mul_sub]at e1 e2 e3 e4
 omega
theorem made_mul (s t:Span) (h1:Ends s) (h2:Ends t) (hs:s.none=false) (ht:t.none=false) (w:World):
  Calls Tryz.prog 234 #[.int .i64 7,s.v,t.v] w fun e w'=>e=.returned (made 7 s t).v∧Below w.heap.size w w':=by
 have a1:=mul_small h1.1 h1.2.1 h2.1 h2.2.1
 have a2:=mul_small h1.1 h1.2.1 h2.2.2.1 h2.2.2.2
 have a3:=mul_small h1.2.2.1 h1.2.2.2 h2.1 h2.2.1
 have a4:=mul_small h1.2.2.1 h1.2.2.2 h2.2.2.1 h2.2.2.2
 have q1:=run_min4 #[3,3,3,3] 3 Tryz.prog
 have q2:=run_max4 #[3,3,3,3] 3 Tryz.prog
 obtain⟨b1,b2,b3,b4⟩:=h1
 obtain⟨c1,c2,c3,c4⟩:=h2
 have hL:=Loc.start w
 go_enter Tryz.func234,Tryz.ntmps234
 go_wp2_with (first|(with_reducible first|refine lld hL ?_|((first|refine lbx hL ?_|refine lal hL ?_|refine lbs hL ?_);clear hL;intro bl w1 hL)|(refine lst' hL ?_;clear hL;intro w1 hL))|(go_at_call 106;refine(of_any _ _ _).mono ?_;rintro e w1 ⟨rfl,hb⟩;replace hL:=hL.grow hb;clear hb;dsimp only))
 (have hq:=hL.all;simp only[List.forall_mem_cons,List.forall_mem_nil,and_true]at hq;go_quiet (fail);clear hq;rename_i nq;replace hL:=hL.grow (below_drewN (Below.refl _ _) nq);generalize World.drewN _ nq=w1 at hL ⊢;clear nq)
 go_wp2_with (first|(with_reducible first|refine lld hL ?_|((first|refine lbx hL ?_|refine lal hL ?_|refine lbs hL ?_);clear hL;intro bl w1 hL)|(refine lst' hL ?_;clear hL;intro w1 hL))|(go_at_call 106;refine(of_any _ _ _).mono ?_;rintro e w1 ⟨rfl,hb⟩;replace hL:=hL.grow hb;clear hb;dsimp only)|(go_at_call 226;refine(is_any _ _).mono ?_;rintro e w' ⟨rfl,rfl⟩;dsimp only))
 all_goals
  (try simp only[Exit.inBlock,Exit.then]);refine rt1 ?_
  exact⟨by simp_all [made,rawMade],hL.below⟩
theorem made_none (k:Int) (s t:Span) (h:(s.none || t.none)=true) (w:World):
  Calls Tryz.prog 234 #[.int .i64 k,s.v,t.v] w fun e w'=>e=.returned (made k s t).v∧Below w.heap.size w w':=by
 have hL:=Loc.start w
 cases hs:s.none
 ·have ht:t.none=true:=by simpa [hs] using h
  clear h
  go_enter Tryz.func234,Tryz.ntmps234
  go_wp2_with (first|(with_reducible first|refine lld hL ?_|((first|refine lbx hL ?_|refine lal hL ?_|refine lbs hL ?_);clear hL;intro bl w1 hL)|(refine lst' hL ?_;clear hL;intro w1 hL))|(go_at_call 106;refine(of_any _ _ _).mono ?_;rintro e w1 ⟨rfl,hb⟩;replace hL:=hL.grow hb;clear hb;dsimp only)|(go_at_call 181;refine(none_any _).mono ?_;rintro e w1 ⟨rfl,hb⟩;replace hL:=hL.grow hb;clear hb;dsimp only)|(go_at_call 226;refine(is_any _ _).mono ?_;rintro e w' ⟨rfl,rfl⟩;dsimp only))
  (try simp only[Exit.inBlock,Exit.then]);refine rt1 ?_
  exact⟨by simp[made,hs,ht],hL.below⟩
 ·clear h
  go_enter Tryz.func234,Tryz.ntmps234
  go_wp2_with (first|(with_reducible first|refine lld hL ?_|((first|refine lbx hL ?_|refine lal hL ?_|refine lbs hL ?_);clear hL;intro bl w1 hL)|(refine lst' hL ?_;clear hL;intro w1 hL))|(go_at_call 106;refine(of_any _ _ _).mono ?_;rintro e w1 ⟨rfl,hb⟩;replace hL:=hL.grow hb;clear hb;dsimp only)|(go_at_call 181;refine(none_any _).mono ?_;rintro e w1 ⟨rfl,hb⟩;replace hL:=hL.grow hb;clear hb;dsimp only)|(go_at_call 226;refine(is_any _ _).mono ?_;rintro e w' ⟨rfl,rfl⟩;dsimp only))
  (try simp only[Exit.inBlock,Exit.then]);refine rt1 ?_
  exact⟨by simp[made,hs],hL.below⟩
theorem made_sum (k:Int) (hk:k=5∨k=6) (s t:Span) (h1:Ends s) (h2:Ends t) (hs:s.none=false) (ht:t.none=false) (w:World):
  Calls Tryz.prog 234 #[.int .i64 k,s.v,t.v] w fun e w'=>e=.returned (made k s t).v∧Below w.heap.size w w':=by
 obtain⟨b1,b2,b3,b4⟩:=h1
 obtain⟨c1,c2,c3,c4⟩:=h2
 have hL:=Loc.start w
 rcases hk with rfl|rfl
 all_goals
  go_enter Tryz.func234,Tryz.ntmps234
  go_wp2_with (first|(with_reducible first|refine lld hL ?_|((first|refine lbx hL ?_|refine lal hL ?_|refine lbs hL ?_);clear hL;intro bl w1 hL)|(refine lst' hL ?_;clear hL;intro w1 hL))|(go_at_call 106;refine(of_any _ _ _).mono ?_;rintro e w1 ⟨rfl,hb⟩;replace hL:=hL.grow hb;clear hb;dsimp only)|(go_at_call 181;refine(none_any _).mono ?_;rintro e w1 ⟨rfl,hb⟩;replace hL:=hL.grow hb;clear hb;dsimp only)|(go_at_call 226;refine(is_any _ _).mono ?_;rintro e w' ⟨rfl,rfl⟩;dsimp only))
  all_goals
   (try simp only[Exit.inBlock,Exit.then]);refine rt1 ?_
   exact⟨by simp_all [made,rawMade],hL.below⟩
theorem made_any (k:Int) (hk:k=5∨k=6∨k=7) (s t:Span) (h1:Ends s) (h2:Ends t) (w:World):
  Calls Tryz.prog 234 #[.int .i64 k,s.v,t.v] w fun e w'=>e=.returned (made k s t).v∧Below w.heap.size w w':=by
 by_cases h:(s.none || t.none)=true
 ·exact made_none k s t h w
 ·simp only[Bool.or_eq_true,not_or,Bool.not_eq_true]at h
  rcases hk with hk|hk|hk
  ·exact made_sum k (.inl hk) s t h1 h2 h.1 h.2 w
  ·exact made_sum k (.inr hk) s t h1 h2 h.1 h.2 w
  ·subst hk;exact made_mul s t h1 h2 h.1 h.2 w
theorem ends_of {s:Span}(h:checkSpan s=0):Ends s:=by
 unfold checkSpan at h
 by_cases hr:(!inRange s.lo || !inRange s.hi)=true
 ·rw[if_pos hr]at h;cases h
 ·simp only[Bool.or_eq_true,Bool.not_eq_true',not_or,Bool.not_eq_false]at hr
  have h1:=inRange_iff.1 hr.1
  have h2:=inRange_iff.1 hr.2
  exact⟨h1.1,h1.2,h2.1,h2.2⟩
theorem betw_range (n:Int):betw n (-2147483648) 2147483647=inRange n:=rfl
theorem rCheck_any (s:Span) (w:World):
  Calls Tryz.prog 177 #[s.v] w fun e w'=>e=.returned (.int .i64 (checkSpan s))∧Below w.heap.size w w':=by
 have hL:=Loc.start w
 go_enter Tryz.func177,Tryz.ntmps177
 go_wp2_with (first|(with_reducible first|refine lld hL ?_|((first|refine lbx hL ?_|refine lal hL ?_|refine lbs hL ?_);clear hL;intro bl w1 hL)|(refine lst' hL ?_;clear hL;intro w1 hL))|(go_at_call 54;refine(between_any _ _ _ _).mono ?_;rintro e w' ⟨rfl,rfl⟩;dsimp only;try simp only[betw_range]))
 all_goals
  (try simp only[Exit.inBlock,Exit.then]);refine rt1 ?_
  exact⟨by simp_all [checkSpan],hL.below⟩
theorem rIn_any (s:Span) (n:Int) (w:World):
  Calls Tryz.prog 80 #[s.v,.int .i64 n] w fun e w'=>e=.returned (.bool (inSpan s n))∧Below w.heap.size w w':=by
 have hL:=Loc.start w
 go_enter Tryz.func80,Tryz.ntmps80
 go_wp2_with (first|(with_reducible first|refine lld hL ?_|((first|refine lbx hL ?_|refine lal hL ?_|refine lbs hL ?_);clear hL;intro bl w1 hL)|(refine lst' hL ?_;clear hL;intro w1 hL))|(go_at_call 54;refine(between_any _ _ _ _).mono ?_;rintro e w' ⟨rfl,rfl⟩;dsimp only))
 all_goals
  (try simp only[Exit.inBlock,Exit.then]);refine rt1 ?_
  exact⟨by simp_all [inSpan,betw],hL.below⟩
theorem least2 (b o cap:Nat) (x0 x1:Int) (w:World) (c0:w.cell? ⟨b,o,none⟩=some (.int .i64 x0)) (c1:w.cell? ⟨b,o+1,none⟩=some (.int .i64 x1)):
  Calls Tryz.prog 175 #[.slice (some ⟨b,o,none⟩) 2 cap] w fun e w'=>e=.returned (.int .i64 (min2 x0 x1))∧w=w':=by
 go_enter Tryz.func175,Tryz.ntmps175
 go_wp2_with (first|((with_reducible refine wp_loop_rounds 5 ?_))|(with_reducible refine rounds_go ?_))
 all_goals
  go_ret
  exact⟨by simp_all [min2];try omega,rfl⟩
theorem least4 (b o cap:Nat) (x0 x1 x2 x3:Int) (w:World) (c0:w.cell? ⟨b,o,none⟩=some (.int .i64 x0)) (c1:w.cell? ⟨b,o+1,none⟩=some (.int .i64 x1))
  (c2:w.cell? ⟨b,o+2,none⟩=some (.int .i64 x2)) (c3:w.cell? ⟨b,o+3,none⟩=some (.int .i64 x3)):
  Calls Tryz.prog 175 #[.slice (some ⟨b,o,none⟩) 4 cap] w fun e w'=>e=.returned (.int .i64 (min4 x0 x1 x2 x3))∧w=w':=by
 go_enter Tryz.func175,Tryz.ntmps175
 go_wp2_with (first|((with_reducible refine wp_loop_rounds 5 ?_))|(with_reducible refine rounds_go ?_))
 all_goals
  go_ret
  exact⟨by simp_all [min4,min2];try omega,rfl⟩
theorem most2 (b o cap:Nat) (x0 x1:Int) (w:World) (c0:w.cell? ⟨b,o,none⟩=some (.int .i64 x0)) (c1:w.cell? ⟨b,o+1,none⟩=some (.int .i64 x1)):
  Calls Tryz.prog 176 #[.slice (some ⟨b,o,none⟩) 2 cap] w fun e w'=>e=.returned (.int .i64 (max2 x0 x1))∧w=w':=by
 go_enter Tryz.func176,Tryz.ntmps176
 go_wp2_with (first|((with_reducible refine wp_loop_rounds 5 ?_))|(with_reducible refine rounds_go ?_))
 all_goals
  go_ret
  exact⟨by simp_all [max2];try omega,rfl⟩
theorem most4 (b o cap:Nat) (x0 x1 x2 x3:Int) (w:World) (c0:w.cell? ⟨b,o,none⟩=some (.int .i64 x0)) (c1:w.cell? ⟨b,o+1,none⟩=some (.int .i64 x1))
  (c2:w.cell? ⟨b,o+2,none⟩=some (.int .i64 x2)) (c3:w.cell? ⟨b,o+3,none⟩=some (.int .i64 x3)):
  Calls Tryz.prog 176 #[.slice (some ⟨b,o,none⟩) 4 cap] w fun e w'=>e=.returned (.int .i64 (max4 x0 x1 x2 x3))∧w=w':=by
 go_enter Tryz.func176,Tryz.ntmps176
 go_wp2_with (first|((with_reducible refine wp_loop_rounds 5 ?_))|(with_reducible refine rounds_go ?_))
 all_goals
  go_ret
  exact⟨by simp_all [max4,max2];try omega,rfl⟩
theorem rJoin_any (s t:Span) (w:World):
  Calls Tryz.prog 119 #[s.v,t.v,.bool false] w fun e w'=>e=.returned ((both s t).v)∧Below w.heap.size w w':=by
 have hL:=Loc.start w
 go_enter Tryz.func119,Tryz.ntmps119
 go_wp2_with (first|(with_reducible first|refine lld hL ?_|((first|refine lbx hL ?_|refine lal hL ?_|refine lbs hL ?_);clear hL;intro bl w1 hL)|(refine lst' hL ?_;clear hL;intro w1 hL)))
 ·(try simp only[Exit.inBlock,Exit.then]);refine rt1 ?_
  exact⟨by simp_all [both],hL.below⟩
 ·(try simp only[Exit.inBlock,Exit.then]);refine rt1 ?_
  exact⟨by simp_all [both],hL.below⟩
 have h1:s.none=false:=by assumption
 have h2:t.none=false:=by assumption
 simp only[h1,h2]
 refine draw_begin [14,15,16,17,18,19,20,21,22,23,24,25,26,7] ?_
 iterate 4 (refine' draw_val ?_ ?_;rotate_left;(focus(intro g w hb q;replace hL:=hL.grow hb;(try simp[depsOf,List.filter_cons,Region.binds,AllR,RAt]at q);simp only[fillD,List.foldl_cons,List.foldl_nil,List.set_cons_succ,List.set_cons_zero];(try simp only[q]);go_wp2_with (first|(with_reducible refine lld hL ?_)|(with_reducible refine ldD hL ?_));exact⟨rfl,_,rfl,Below.refl _ _,rfl⟩));simp only[List.nil_append,List.cons_append])
 refine draw_next (RowR 3 2 [.int .i64 s.lo,.int .i64 t.lo]) RowR.stable ?_ ?_
 ·intro g w hb q;replace hL:=hL.grow hb;(try simp[depsOf,List.filter_cons,Region.binds,AllR,RAt]at q);simp only[fillD,List.foldl_cons,List.foldl_nil,List.set_cons_succ,List.set_cons_zero]
  (try simp only[q])
  go_wp2
  exact⟨rfl,_,rfl,(Below.refl _ _).alloc (Nat.le_refl _) _,_,rfl,heap_new _ _⟩
 simp only[apN,apC]
 refine' draw_val ?_ ?_
 rotate_left
 focus
  intro g w hb q;replace hL:=hL.grow hb;(try simp[depsOf,List.filter_cons,Region.binds,AllR,RAt]at q);simp only[fillD,List.foldl_cons,List.foldl_nil,List.set_cons_succ,List.set_cons_zero]
  obtain⟨b,e1,e2⟩:=q;simp only[e1]
  go_wp2_with (go_at_call 175;refine(least2 _ _ _ _ _ _ (heap_cell e2 0 rfl) (heap_cell e2 1 rfl)).mono ?_;rintro e w' ⟨rfl,rfl⟩;dsimp only)
  exact⟨rfl,_,rfl,Below.refl _ _,rfl⟩
 simp only[apN,apC]
 iterate 4 (refine' draw_val ?_ ?_;rotate_left;(focus(intro g w hb q;replace hL:=hL.grow hb;(try simp[depsOf,List.filter_cons,Region.binds,AllR,RAt]at q);simp only[fillD,List.foldl_cons,List.foldl_nil,List.set_cons_succ,List.set_cons_zero];(try simp only[q]);go_wp2_with (first|(with_reducible refine lld hL ?_)|(with_reducible refine ldD hL ?_));exact⟨rfl,_,rfl,Below.refl _ _,rfl⟩));simp only[List.nil_append,List.cons_append])
 refine draw_next (RowR 3 2 [.int .i64 s.hi,.int .i64 t.hi]) RowR.stable ?_ ?_
 ·intro g w hb q;replace hL:=hL.grow hb;(try simp[depsOf,List.filter_cons,Region.binds,AllR,RAt]at q);simp only[fillD,List.foldl_cons,List.foldl_nil,List.set_cons_succ,List.set_cons_zero]
  (try simp only[q])
  go_wp2
  exact⟨rfl,_,rfl,(Below.refl _ _).alloc (Nat.le_refl _) _,_,rfl,heap_new _ _⟩
 simp only[apN,apC]
 refine' draw_val ?_ ?_
 rotate_left
 focus
  intro g w hb q;replace hL:=hL.grow hb;(try simp[depsOf,List.filter_cons,Region.binds,AllR,RAt]at q);simp only[fillD,List.foldl_cons,List.foldl_nil,List.set_cons_succ,List.set_cons_zero]
  obtain⟨⟨b,e1,e2⟩,e3⟩:=q;simp only[e1]
  go_wp2_with (go_at_call 176;refine(most2 _ _ _ _ _ _ (heap_cell e2 0 rfl) (heap_cell e2 1 rfl)).mono ?_;rintro e w' ⟨rfl,rfl⟩;dsimp only)
  exact⟨rfl,_,rfl,Below.refl _ _,rfl⟩
 simp only[apN,apC]
 (refine' draw_val ?_ ?_;rotate_left;(focus(intro g w hb q;replace hL:=hL.grow hb;(try simp[depsOf,List.filter_cons,Region.binds,AllR,RAt]at q);simp only[fillD,List.foldl_cons,List.foldl_nil,List.set_cons_succ,List.set_cons_zero];(try simp only[q]);go_wp2_with (first|(with_reducible refine lld hL ?_)|(with_reducible refine ldD hL ?_));exact⟨rfl,_,rfl,Below.refl _ _,rfl⟩));simp only[List.nil_append,List.cons_append])
 refine draw_next (PtrR w1.heap.size 106 [.bool false,.int .i64 0,.int .i64 0]) PtrR.stable ?_ ?_
 ·intro g w hb q;replace hL:=hL.grow hb;(try simp[depsOf,List.filter_cons,Region.binds,AllR,RAt]at q);simp only[fillD,List.foldl_cons,List.foldl_nil,List.set_cons_succ,List.set_cons_zero]
  go_wp2
  exact⟨rfl,_,rfl,(Below.refl _ _).alloc (Nat.le_refl _) _,_,hb.size,rfl,heap_new _ _⟩
 simp only[apN,apC]
 refine draw_end hL (by kernel_rfl) (by kernel_rfl) ?_;intro g w2 hb hR;simp[AllR,RAt,List.range,List.range.loop]at hR;simp only[fillD,List.foldl_cons,List.foldl_nil,List.set_cons_succ,List.set_cons_zero,hR]
 obtain⟨b7,k1,k2,k3⟩:PtrR w1.heap.size 106 [.bool false,.int .i64 0,.int .i64 0] (g 7) w2:=by simp only[hR]
 replace hL:=hL.gain hb k1 k3
 simp only[k2]
 clear k1 k2 k3
 clear hR hb h1 h2
 go_wp2_with (first|(with_reducible first|refine lld hL ?_|((first|refine lbx hL ?_|refine lal hL ?_|refine lbs hL ?_);clear hL;intro bl w1 hL)|(refine lst' hL ?_;clear hL;intro w1 hL)))
 all_goals
  (try simp only[Exit.inBlock,Exit.then]);refine rt1 ?_
  exact⟨by simp_all [both,min2,max2]<;>(first|omega|(split<;>omega)|(split<;>split<;>omega)),hL.below⟩
theorem rWiden_any (s t:Span) (w:World):
  Calls Tryz.prog 119 #[s.v,t.v,.bool true] w fun e w'=>e=.returned ((wider s t).v)∧Below w.heap.size w w':=by
 have hL:=Loc.start w
 go_enter Tryz.func119,Tryz.ntmps119
 go_wp2_with (first|(with_reducible first|refine lld hL ?_|((first|refine lbx hL ?_|refine lal hL ?_|refine lbs hL ?_);clear hL;intro bl w1 hL)|(refine lst' hL ?_;clear hL;intro w1 hL)))
 ·(try simp only[Exit.inBlock,Exit.then]);refine rt1 ?_
  exact⟨by simp_all [wider,both],hL.below⟩
 ·(try simp only[Exit.inBlock,Exit.then]);refine rt1 ?_
  exact⟨by simp_all [wider,both],hL.below⟩
 have h1:s.none=false:=by assumption
 have h2:t.none=false:=by assumption
 simp only[h1,h2]
 refine draw_begin [14,15,16,17,18,19,20,21,22,23,24,25,26,7] ?_
 iterate 4 (refine' draw_val ?_ ?_;rotate_left;(focus(intro g w hb q;replace hL:=hL.grow hb;(try simp[depsOf,List.filter_cons,Region.binds,AllR,RAt]at q);simp only[fillD,List.foldl_cons,List.foldl_nil,List.set_cons_succ,List.set_cons_zero];(try simp only[q]);go_wp2_with (first|(with_reducible refine lld hL ?_)|(with_reducible refine ldD hL ?_));exact⟨rfl,_,rfl,Below.refl _ _,rfl⟩));simp only[List.nil_append,List.cons_append])
 refine draw_next (RowR 3 2 [.int .i64 s.lo,.int .i64 t.lo]) RowR.stable ?_ ?_
 ·intro g w hb q;replace hL:=hL.grow hb;(try simp[depsOf,List.filter_cons,Region.binds,AllR,RAt]at q);simp only[fillD,List.foldl_cons,List.foldl_nil,List.set_cons_succ,List.set_cons_zero]
  (try simp only[q])
  go_wp2
  exact⟨rfl,_,rfl,(Below.refl _ _).alloc (Nat.le_refl _) _,_,rfl,heap_new _ _⟩
 simp only[apN,apC]
 refine' draw_val ?_ ?_
 rotate_left
 focus
  intro g w hb q;replace hL:=hL.grow hb;(try simp[depsOf,List.filter_cons,Region.binds,AllR,RAt]at q);simp only[fillD,List.foldl_cons,List.foldl_nil,List.set_cons_succ,List.set_cons_zero]
  obtain⟨b,e1,e2⟩:=q;simp only[e1]
  go_wp2_with (go_at_call 175;refine(least2 _ _ _ _ _ _ (heap_cell e2 0 rfl) (heap_cell e2 1 rfl)).mono ?_;rintro e w' ⟨rfl,rfl⟩;dsimp only)
  exact⟨rfl,_,rfl,Below.refl _ _,rfl⟩
 simp only[apN,apC]
 iterate 4 (refine' draw_val ?_ ?_;rotate_left;(focus(intro g w hb q;replace hL:=hL.grow hb;(try simp[depsOf,List.filter_cons,Region.binds,AllR,RAt]at q);simp only[fillD,List.foldl_cons,List.foldl_nil,List.set_cons_succ,List.set_cons_zero];(try simp only[q]);go_wp2_with (first|(with_reducible refine lld hL ?_)|(with_reducible refine ldD hL ?_));exact⟨rfl,_,rfl,Below.refl _ _,rfl⟩));simp only[List.nil_append,List.cons_append])
 refine draw_next (RowR 3 2 [.int .i64 s.hi,.int .i64 t.hi]) RowR.stable ?_ ?_
 ·intro g w hb q;replace hL:=hL.grow hb;(try simp[depsOf,List.filter_cons,Region.binds,AllR,RAt]at q);simp only[fillD,List.foldl_cons,List.foldl_nil,List.set_cons_succ,List.set_cons_zero]
  (try simp only[q])
  go_wp2
  exact⟨rfl,_,rfl,(Below.refl _ _).alloc (Nat.le_refl _) _,_,rfl,heap_new _ _⟩
 simp only[apN,apC]
 refine' draw_val ?_ ?_
 rotate_left
 focus
  intro g w hb q;replace hL:=hL.grow hb;(try simp[depsOf,List.filter_cons,Region.binds,AllR,RAt]at q);simp only[fillD,List.foldl_cons,List.foldl_nil,List.set_cons_succ,List.set_cons_zero]
  obtain⟨⟨b,e1,e2⟩,e3⟩:=q;simp only[e1]
  go_wp2_with (go_at_call 176;refine(most2 _ _ _ _ _ _ (heap_cell e2 0 rfl) (heap_cell e2 1 rfl)).mono ?_;rintro e w' ⟨rfl,rfl⟩;dsimp only)
  exact⟨rfl,_,rfl,Below.refl _ _,rfl⟩
 simp only[apN,apC]
 (refine' draw_val ?_ ?_;rotate_left;(focus(intro g w hb q;replace hL:=hL.grow hb;(try simp[depsOf,List.filter_cons,Region.binds,AllR,RAt]at q);simp only[fillD,List.foldl_cons,List.foldl_nil,List.set_cons_succ,List.set_cons_zero];(try simp only[q]);go_wp2_with (first|(with_reducible refine lld hL ?_)|(with_reducible refine ldD hL ?_));exact⟨rfl,_,rfl,Below.refl _ _,rfl⟩));simp only[List.nil_append,List.cons_append])
 refine draw_next (PtrR w1.heap.size 106 [.bool false,.int .i64 0,.int .i64 0]) PtrR.stable ?_ ?_
 ·intro g w hb q;replace hL:=hL.grow hb;(try simp[depsOf,List.filter_cons,Region.binds,AllR,RAt]at q);simp only[fillD,List.foldl_cons,List.foldl_nil,List.set_cons_succ,List.set_cons_zero]
  go_wp2
  exact⟨rfl,_,rfl,(Below.refl _ _).alloc (Nat.le_refl _) _,_,hb.size,rfl,heap_new _ _⟩
 simp only[apN,apC]
 refine draw_end hL (by kernel_rfl) (by kernel_rfl) ?_;intro g w2 hb hR;simp[AllR,RAt,List.range,List.range.loop]at hR;simp only[fillD,List.foldl_cons,List.foldl_nil,List.set_cons_succ,List.set_cons_zero,hR]
 obtain⟨b7,k1,k2,k3⟩:PtrR w1.heap.size 106 [.bool false,.int .i64 0,.int .i64 0] (g 7) w2:=by simp only[hR]
 replace hL:=hL.gain hb k1 k3
 simp only[k2]
 clear k1 k2 k3
 clear hR hb h1 h2
 go_wp2_with (first|(with_reducible first|refine lld hL ?_|((first|refine lbx hL ?_|refine lal hL ?_|refine lbs hL ?_);clear hL;intro bl w1 hL)|(refine lst' hL ?_;clear hL;intro w1 hL)))
 all_goals
  (try simp only[Exit.inBlock,Exit.then]);refine rt1 ?_
  exact⟨by simp_all [wider,both,min2,max2]<;>(first|omega|(split<;>omega)|(split<;>split<;>omega)),hL.below⟩
def wrapped (n:Int):Int:=if n % 4294967296 > 2147483647 then n % 4294967296 - 4294967296 else n % 4294967296
theorem wrapped_in {n:Int}(h1:-2147483648≤n) (h2:n≤2147483647):wrapped n=n:=by
 unfold wrapped;split<;>omega
end Go.Proofs.YtplcndmdkabmeaaGreatDoor
set_option linter.unusedSimpArgs false
set_option linter.unusedVariables false
namespace Go.Proofs.YtplcndmdkabmeaaGreatDoor
open Go.RowKit
theorem checkSpan_zero {s:Span}(h:checkSpan s=0):Ends s∧s.lo≤s.hi∧(s.none=true→s.lo=0∧s.hi=0):=by
 refine⟨ends_of h,?_⟩
 have he:=ends_of h
 unfold checkSpan at h
 by_cases h1:(!inRange s.lo || !inRange s.hi)=true
 ·rw[if_pos h1]at h;cases h
 ·rw[if_neg h1]at h
  by_cases h2:(s.none&&(s.lo != 0 || s.hi != 0))=true
  ·rw[if_pos h2]at h;cases h
  ·rw[if_neg h2]at h
   by_cases h3:s.hi<s.lo
   ·rw[if_pos h3]at h;cases h
   ·refine⟨by omega,fun hn=>?_⟩
    simp[hn]at h2
    exact h2
theorem checkSpan_ok {s:Span}(he:Ends s) (hl:s.lo≤s.hi) (hn:s.none=true→s.lo=0∧s.hi=0):checkSpan s=0:=by
 obtain⟨h1,h2,h3,h4⟩:=he
 unfold checkSpan
 have e1:inRange s.lo=true:=inRange_iff.2 ⟨h1,h2⟩
 have e2:inRange s.hi=true:=inRange_iff.2 ⟨h3,h4⟩
 simp only[e1,e2,Bool.not_true,Bool.or_self,Bool.false_eq_true,if_false]
 cases hs:s.none with
 | false=>simp;omega
 | true=>obtain⟨a,b⟩:=hn hs;simp[a,b]
theorem mul_between {a b l h:Int}(h1:l≤a) (h2:a≤h):min (l*b) (h*b)≤a*b∧a*b≤max (l*b) (h*b):=by
 rcases Int.le_total 0 b with hb|hb
 ·have e1:=Int.mul_le_mul_of_nonneg_right h1 hb
  have e2:=Int.mul_le_mul_of_nonneg_right h2 hb
  omega
 ·have e1:=Int.mul_le_mul_of_nonpos_right h1 hb
  have e2:=Int.mul_le_mul_of_nonpos_right h2 hb
  omega
theorem mul_in {a b l h m k:Int}(h1:l≤a) (h2:a≤h) (h3:m≤b) (h4:b≤k):
  min4 (l*m) (l*k) (h*m) (h*k)≤a*b∧a*b≤max4 (l*m) (l*k) (h*m) (h*k):=by
 have e1:=mul_between (b:=b) h1 h2
 have e2:=mul_between (b:=l) h3 h4
 have e3:=mul_between (b:=h) h3 h4
 simp only[Int.mul_comm _ l,Int.mul_comm _ h]at e2 e3
 unfold min4 max4 min2 max2
 constructor
 ·split<;>split<;>split<;>omega
 ·split<;>split<;>split<;>omega
def opOf (k a b:Int):Int:=if k=6 then a - b else if k=7 then a*b else a+b
theorem raw_in {k:Int}{s t:Span}{a b:Int}(h1:s.lo≤a) (h2:a≤s.hi) (h3:t.lo≤b) (h4:b≤t.hi):(rawMade k s t).1≤opOf k a b∧opOf k a b≤(rawMade k s t).2:=by
 unfold rawMade opOf
 by_cases h6:k=6
 ·simp only[h6,if_true];omega
 ·by_cases h7:k=7
  ·simp only[h7,if_true,if_neg (show ¬ (7:Int)=6 by decide)]
   exact mul_in h1 h2 h3 h4
  ·simp only[if_neg h6,if_neg h7];omega
theorem wrapped_range (n:Int):-2147483648≤wrapped n∧wrapped n≤2147483647:=by
 unfold wrapped;split<;>omega
theorem made_sound {k:Int}{s t:Span}{a b:Int}(hs:s.none=false) (ht:t.none=false) (h1:s.lo≤a) (h2:a≤s.hi) (h3:t.lo≤b) (h4:b≤t.hi):
  checkSpan (made k s t)=0∧inSpan (made k s t) (wrapped (opOf k a b))=true:=by
 have hr:=raw_in (k:=k) h1 h2 h3 h4
 unfold made
 simp only[hs,ht,Bool.or_self,Bool.false_eq_true,if_false]
 by_cases h:(inRange (rawMade k s t).1&&inRange (rawMade k s t).2)=true
 ·rw[if_pos h]
  simp only[Bool.and_eq_true,inRange_iff]at h
  obtain⟨⟨a1,a2⟩,b1,b2⟩:=h
  refine⟨checkSpan_ok ⟨a1,a2,b1,b2⟩ (by show (rawMade k s t).1≤(rawMade k s t).2;omega) (by simp),?_⟩
  rw[wrapped_in (by omega) (by omega)]
  simp[inSpan,hr.1,hr.2]
 ·rw[if_neg h]
  have hw:=wrapped_range (opOf k a b)
  refine⟨rfl,?_⟩
  simp[inSpan,hw.1,hw.2]
theorem both_ok {s t:Span}(hs:checkSpan s=0) (ht:checkSpan t=0):checkSpan (both s t)=0:=by
 unfold both
 cases h1:s.none with
 | true=>simpa using ht
 | false=>
  cases h2:t.none with
  | true=>simpa using hs
  | false=>
   obtain⟨⟨a1,a2,a3,a4⟩,a5,_⟩:=checkSpan_zero hs
   obtain⟨⟨b1,b2,b3,b4⟩,b5,_⟩:=checkSpan_zero ht
   exact checkSpan_ok (by simp[Ends];omega) (by simp;omega) (by simp)
theorem wider_ok {s t:Span}(hs:checkSpan s=0) (ht:checkSpan t=0):checkSpan (wider s t)=0∧inside s (wider s t)=true:=by
 unfold wider
 cases h1:s.none with
 | true=>exact⟨by simpa using both_ok hs ht,by simp[inside,h1]⟩
 | false=>
  obtain⟨⟨a1,a2,a3,a4⟩,a5,_⟩:=checkSpan_zero hs
  cases h2:t.none with
  | true=>exact⟨by simpa using both_ok hs ht,by simp[both,h1,h2,inside]⟩
  | false=>
   obtain⟨⟨b1,b2,b3,b4⟩,b5,_⟩:=checkSpan_zero ht
   refine⟨?_,?_⟩
   ·simp only[Bool.or_self,Bool.false_eq_true,if_false]
    refine checkSpan_ok ?_ ?_ (by simp)
    ·refine⟨?_,?_,?_,?_⟩<;>dsimp only<;>split<;>omega
    ·dsimp only;split<;>split<;>omega
   ·simp only[Bool.or_self,Bool.false_eq_true,if_false,inside,h1,Bool.not_false,Bool.true_and,Bool.false_or,Bool.and_eq_true,decide_eq_true_eq]
    constructor<;>split<;>omega
def pot (s:Span):Nat:=(if s.lo=-2147483648 then 1 else 0)+(if s.hi=2147483647 then 1 else 0)
theorem pot_le (s:Span):pot s≤2:=by unfold pot;split<;>split<;>omega
def Calm (s:Span) (ch:Nat):Prop:=ch=0∨(s.none=false∧ch≤pot s)
theorem Calm.le {s:Span}{ch:Nat}(h:Calm s ch):ch≤2:=by
 rcases h with h|h
 ·omega
 ·exact Nat.le_trans h.2 (pot_le s)
theorem common_eq {s t:Span}(h1:s.none=false) (h2:t.none=false):common s t=if min2 s.hi t.hi<max2 s.lo t.lo then noSpan else ⟨false,max2 s.lo t.lo,min2 s.hi t.hi⟩:=by
 have e1:min s.hi t.hi=min2 s.hi t.hi:=by unfold min2;split<;>omega
 have e2:max s.lo t.lo=max2 s.lo t.lo:=by unfold max2;split<;>omega
 simp[common,h1,h2,e1,e2]
theorem rMeet_any (s t:Span) (w:World):
  Calls Tryz.prog 121 #[s.v,t.v] w fun e w'=>e=.returned ((common s t).v)∧Below w.heap.size w w':=by
 have hL:=Loc.start w
 go_enter Tryz.func121,Tryz.ntmps121
 go_wp2_with (first|(with_reducible first|refine lld hL ?_|((first|refine lbx hL ?_|refine lal hL ?_|refine lbs hL ?_);clear hL;intro bl w1 hL)|(refine lst' hL ?_;clear hL;intro w1 hL)))
 ·(try simp only[Exit.inBlock,Exit.then]);refine rt1 ?_
  exact⟨by simp_all [common],hL.below⟩
 ·(try simp only[Exit.inBlock,Exit.then]);refine rt1 ?_
  exact⟨by simp_all [common],hL.below⟩
 have h1:s.none=false:=by first|assumption|exact Bool.eq_false_iff.2 (by assumption)
 have h2:t.none=false:=by first|assumption|exact Bool.eq_false_iff.2 (by assumption)
 simp only[h1,h2]
 refine draw_begin [13,14,15,16,17,18,19,20,21,22,23,24,25,5] ?_
 iterate 4 (refine' draw_val ?_ ?_;rotate_left;(focus(intro g w hb q;replace hL:=hL.grow hb;(try simp[depsOf,List.filter_cons,Region.binds,AllR,RAt]at q);simp only[fillD,List.foldl_cons,List.foldl_nil,List.set_cons_succ,List.set_cons_zero];(try simp only[q]);go_wp2_with (first|(with_reducible refine lld hL ?_)|(with_reducible refine ldD hL ?_));exact⟨rfl,_,rfl,Below.refl _ _,rfl⟩));simp only[List.nil_append,List.cons_append])
 refine draw_next (RowR 3 2 [.int .i64 s.lo,.int .i64 t.lo]) RowR.stable ?_ ?_
 ·intro g w hb q;replace hL:=hL.grow hb;(try simp[depsOf,List.filter_cons,Region.binds,AllR,RAt]at q);simp only[fillD,List.foldl_cons,List.foldl_nil,List.set_cons_succ,List.set_cons_zero]
  (try simp only[q])
  go_wp2
  exact⟨rfl,_,rfl,(Below.refl _ _).alloc (Nat.le_refl _) _,_,rfl,heap_new _ _⟩
 simp only[apN,apC]
 refine' draw_val ?_ ?_
 rotate_left
 focus
  intro g w hb q;replace hL:=hL.grow hb;(try simp[depsOf,List.filter_cons,Region.binds,AllR,RAt]at q);simp only[fillD,List.foldl_cons,List.foldl_nil,List.set_cons_succ,List.set_cons_zero]
  obtain⟨b,e1,e2⟩:=q;simp only[e1]
  go_wp2_with (go_at_call 176;refine(most2 _ _ _ _ _ _ (heap_cell e2 0 rfl) (heap_cell e2 1 rfl)).mono ?_;rintro e w' ⟨rfl,rfl⟩;dsimp only)
  exact⟨rfl,_,rfl,Below.refl _ _,rfl⟩
 simp only[apN,apC]
 iterate 4 (refine' draw_val ?_ ?_;rotate_left;(focus(intro g w hb q;replace hL:=hL.grow hb;(try simp[depsOf,List.filter_cons,Region.binds,AllR,RAt]at q);simp only[fillD,List.foldl_cons,List.foldl_nil,List.set_cons_succ,List.set_cons_zero];(try simp only[q]);go_wp2_with (first|(with_reducible refine lld hL ?_)|(with_reducible refine ldD hL ?_));exact⟨rfl,_,rfl,Below.refl _ _,rfl⟩));simp only[List.nil_append,List.cons_append])
 refine draw_next (RowR 3 2 [.int .i64 s.hi,.int .i64 t.hi]) RowR.stable ?_ ?_
 ·intro g w hb q;replace hL:=hL.grow hb;(try simp[depsOf,List.filter_cons,Region.binds,AllR,RAt]at q);simp only[fillD,List.foldl_cons,List.foldl_nil,List.set_cons_succ,List.set_cons_zero]
  (try simp only[q])
  go_wp2
  exact⟨rfl,_,rfl,(Below.refl _ _).alloc (Nat.le_refl _) _,_,rfl,heap_new _ _⟩
 simp only[apN,apC]
 refine' draw_val ?_ ?_
 rotate_left
 focus
  intro g w hb q;replace hL:=hL.grow hb;(try simp[depsOf,List.filter_cons,Region.binds,AllR,RAt]at q);simp only[fillD,List.foldl_cons,List.foldl_nil,List.set_cons_succ,List.set_cons_zero]
  obtain⟨⟨b,e1,e2⟩,e3⟩:=q;simp only[e1]
  go_wp2_with (go_at_call 175;refine(least2 _ _ _ _ _ _ (heap_cell e2 0 rfl) (heap_cell e2 1 rfl)).mono ?_;rintro e w' ⟨rfl,rfl⟩;dsimp only)
  exact⟨rfl,_,rfl,Below.refl _ _,rfl⟩
 simp only[apN,apC]
 (refine' draw_val ?_ ?_;rotate_left;(focus(intro g w hb q;replace hL:=hL.grow hb;(try simp[depsOf,List.filter_cons,Region.binds,AllR,RAt]at q);simp only[fillD,List.foldl_cons,List.foldl_nil,List.set_cons_succ,List.set_cons_zero];(try simp only[q]);go_wp2_with (first|(with_reducible refine lld hL ?_)|(with_reducible refine ldD hL ?_));exact⟨rfl,_,rfl,Below.refl _ _,rfl⟩));simp only[List.nil_append,List.cons_append])
 refine draw_next (PtrR w1.heap.size 106 [.bool false,.int .i64 0,.int .i64 0]) PtrR.stable ?_ ?_
 ·intro g w hb q;replace hL:=hL.grow hb;(try simp[depsOf,List.filter_cons,Region.binds,AllR,RAt]at q);simp only[fillD,List.foldl_cons,List.foldl_nil,List.set_cons_succ,List.set_cons_zero]
  go_wp2
  exact⟨rfl,_,rfl,(Below.refl _ _).alloc (Nat.le_refl _) _,_,hb.size,rfl,heap_new _ _⟩
 simp only[apN,apC]
 refine draw_end hL (by kernel_rfl) (by kernel_rfl) ?_;intro g w2 hb hR;simp[AllR,RAt,List.range,List.range.loop]at hR;simp only[fillD,List.foldl_cons,List.foldl_nil,List.set_cons_succ,List.set_cons_zero,hR]
 obtain⟨b7,k1,k2,k3⟩:PtrR w1.heap.size 106 [.bool false,.int .i64 0,.int .i64 0] (g 5) w2:=by simp only[hR]
 replace hL:=hL.gain hb k1 k3
 simp only[k2]
 clear k1 k2 k3
 have HF:=Lib.hid (common_eq h1 h2)
 clear hR hb h1 h2
 go_wp2_with (first|(with_reducible first|refine lld hL ?_|((first|refine lbx hL ?_|refine lal hL ?_|refine lbs hL ?_);clear hL;intro bl w1 hL)|(refine lst' hL ?_;clear hL;intro w1 hL)))
 all_goals
  (try simp only[Exit.inBlock,Exit.then]);refine rt1 ?_
  refine⟨?_,hL.below⟩
  rw[HF.out]
  by_cases hcc:min2 s.hi t.hi<max2 s.lo t.lo
  ·first|(rw[if_pos hcc];done)|(rw[if_pos hcc];rfl)|(exfalso;omega)
  ·first|(rw[if_neg hcc];done)|(rw[if_neg hcc];rfl)|(exfalso;omega)
theorem Split.mk {R L:List LBlk}(n:Nat) (h:L.take n++R=L):Split R L (L.take n):=by
 have:∀ K:List LBlk,Split R (K++R) K:=fun K=>by
  induction K with
  | nil=>exact .nil
  | cons x K ih=>exact .cons x ih
 have h2:=this (L.take n)
 rw[h]at h2;exact h2
theorem news_of {w0 w:World}{L:List LBlk}{D:List Datum}(hL:Loc w0 w L D) {b:Nat}{T:TypeId}{cs:List Value}{f:List Value→List LBlk}(hm:InL b T cs L f):∀ (j:Nat) (u:Value),cs[j]? = some u→w.cell? ((⟨b,0,none⟩:Addr).add j)=some u:=by
 intro j u hj
 rw[add_addr,hL.cell hm,Nat.zero_add];exact hj
theorem row4 {w0 w:World}{L:List LBlk}{D:List Datum}{E:TypeId}{v:Value}{a b c d:Value}{R K:List LBlk}(h:RowL E 1 v 4 [a,b,c,d] R) (hL:Loc w0 w L D) (hK:Split R L K):
  ∃ g cap,v=.slice (some ⟨g,0,none⟩) 4 cap∧w.cell? ⟨g,0,none⟩=some a∧w.cell? ⟨g,0+1,none⟩=some b∧w.cell? ⟨g,0+2,none⟩=some c∧w.cell? ⟨g,0+3,none⟩=some d:=by
 rcases h.2 with⟨_,h0,_⟩|⟨g,cap,cs,hv,hR,_,_,_,ht⟩
 ·cases h0
 ·have hc:∀ j,w.cell? ⟨g,j,none⟩=cs[j]? :=hL.all (g,E,cs) (by rw[hK.eq,hR];simp)
  have hj:∀ j,j<4→cs[j]? = [a,b,c,d][j]? :=fun j hj=>by rw[← ht,List.getElem?_take];simp[hj]
  exact⟨g,cap,hv,by rw[hc,hj _ (by omega)];rfl,by rw[hc,hj _ (by omega)];rfl,by rw[hc,hj _ (by omega)];rfl,by rw[hc,hj _ (by omega)];rfl⟩
theorem do_eq {k:Int}{s t:Span}(hk:k=5∨k=6∨k=7) (hs:s.lo≤s.hi) (ht:t.lo≤t.hi) (h1:s.none=false) (h2:t.none=false) {mn mx:Int}
  (e1:mn=min4 (opOf k s.lo t.lo) (opOf k s.lo t.hi) (opOf k s.hi t.lo) (opOf k s.hi t.hi)) (e2:mx=max4 (opOf k s.lo t.lo) (opOf k s.lo t.hi) (opOf k s.hi t.lo) (opOf k s.hi t.hi)):
  made k s t=if checkSpan ⟨false,mn,mx⟩=0 then ⟨false,mn,mx⟩ else ⟨false,-2147483648,2147483647⟩:=by
 have hr:rawMade k s t=(mn,mx):=by
  subst e1;subst e2
  rcases hk with rfl|rfl|rfl
  ·simp only[rawMade,opOf,min4,max4,min2,max2]
   simp
   constructor<;>(repeat' split)<;>omega
  ·simp only[rawMade,opOf,min4,max4,min2,max2]
   simp
   constructor<;>(repeat' split)<;>omega
  ·simp[rawMade,opOf]
 have hm:=(raw_in (k:=k) (Int.le_refl s.lo) hs (Int.le_refl t.lo) ht)
 rw[hr]at hm
 have hle:mn≤mx:=by have:=hm.1;have:=hm.2;simp at *;omega
 unfold made
 simp only[h1,h2,Bool.or_self,Bool.false_eq_true,if_false,hr]
 by_cases hi:(inRange mn&&inRange mx)=true
 ·rw[if_pos hi,if_pos]
  simp only[Bool.and_eq_true,inRange_iff]at hi
  obtain⟨⟨a1,a2⟩,a3,a4⟩:=hi
  exact checkSpan_ok ⟨a1,a2,a3,a4⟩ hle (by simp)
 ·rw[if_neg hi,if_neg]
  intro hc
  apply hi
  obtain⟨a1,a2,a3,a4⟩:=ends_of hc
  simp only[Bool.and_eq_true,inRange_iff]
  exact⟨⟨a1,a2⟩,a3,a4⟩
theorem rDo_5 (s t:Span) (hs:checkSpan s=0) (ht:checkSpan t=0) (h1:s.none=false) (h2:t.none=false) (w:World):
  Calls Tryz.prog 124 #[.int .i64 5,s.v,t.v] w fun e w'=>e=.returned ((made 5 s t).v)∧Below w.heap.size w w':=by
 have hL:=Loc.start w
 obtain⟨⟨s1,s2,s3,s4⟩,hls,_⟩:=checkSpan_zero hs
 obtain⟨⟨t1,t2,t3,t4⟩,hlt,_⟩:=checkSpan_zero ht
 have hF:=do_eq (k:=5) (by omega) hls hlt h1 h2 rfl rfl
 simp only[opOf,if_neg (show ¬ (5:Int)=6 by decide),if_neg (show ¬ (5:Int)=7 by decide)]at hF
 obtain⟨mn,hmn⟩:∃ mn,min4 (s.lo+t.lo) (s.lo+t.hi) (s.hi+t.lo) (s.hi+t.hi)=mn:=⟨_,rfl⟩
 obtain⟨mx,hmx⟩:∃ mx,max4 (s.lo+t.lo) (s.lo+t.hi) (s.hi+t.lo) (s.hi+t.hi)=mx:=⟨_,rfl⟩
 rw[hmn,hmx]at hF
 clear hs ht
 have Hmm:=Lib.hid (And.intro hmn (And.intro hmx hF))
 clear hmn hmx hF
 have hL:=Loc.start w
 go_enter Tryz.func124,Tryz.ntmps124
 go_wp2_with (first|(with_reducible first|refine lld hL ?_|((first|refine lbx hL ?_|refine lal hL ?_|refine lbs hL ?_);clear hL;intro bl w1 hL)|(refine lst' hL ?_;clear hL;intro w1 hL)))
 refine draw_begin [20,21,22,23,24,25,26,27,28,29,8,9] ?_
 iterate 4 (refine' draw_val ?_ ?_;rotate_left;(focus(intro g w hb q;replace hL:=hL.grow hb;(try simp[depsOf,List.filter_cons,Region.binds,AllR,RAt]at q);simp only[fillD,List.foldl_cons,List.foldl_nil,List.set_cons_succ,List.set_cons_zero];(try simp only[q]);go_wp2_with (first|(with_reducible refine lld hL ?_)|(with_reducible refine ldD hL ?_));exact⟨rfl,_,rfl,Below.refl _ _,rfl⟩));simp only[List.nil_append,List.cons_append])
 refine draw_next (RowP w1.heap.size 3 2 [.int .i64 s.lo,.int .i64 s.hi]) RowP.stable ?_ ?_
 ·intro g w hb q;replace hL:=hL.grow hb;(try simp[depsOf,List.filter_cons,Region.binds,AllR,RAt]at q);simp only[fillD,List.foldl_cons,List.foldl_nil,List.set_cons_succ,List.set_cons_zero]
  (try simp only[q])
  go_wp2
  exact⟨rfl,_,rfl,(Below.refl _ _).alloc (Nat.le_refl _) _,_,hb.size,rfl,heap_new _ _⟩
 simp only[apN,apC]
 iterate 4 (refine' draw_val ?_ ?_;rotate_left;(focus(intro g w hb q;replace hL:=hL.grow hb;(try simp[depsOf,List.filter_cons,Region.binds,AllR,RAt]at q);simp only[fillD,List.foldl_cons,List.foldl_nil,List.set_cons_succ,List.set_cons_zero];(try simp only[q]);go_wp2_with (first|(with_reducible refine lld hL ?_)|(with_reducible refine ldD hL ?_));exact⟨rfl,_,rfl,Below.refl _ _,rfl⟩));simp only[List.nil_append,List.cons_append])
 refine draw_next (RowP w1.heap.size 3 2 [.int .i64 t.lo,.int .i64 t.hi]) RowP.stable ?_ ?_
 ·intro g w hb q;replace hL:=hL.grow hb;(try simp[depsOf,List.filter_cons,Region.binds,AllR,RAt]at q);simp only[fillD,List.foldl_cons,List.foldl_nil,List.set_cons_succ,List.set_cons_zero]
  (try simp only[q])
  go_wp2
  exact⟨rfl,_,rfl,(Below.refl _ _).alloc (Nat.le_refl _) _,_,hb.size,rfl,heap_new _ _⟩
 simp only[apN,apC]
 refine draw_next (RowP w1.heap.size 3 2 [.int .i64 s.lo,.int .i64 s.hi]) RowP.stable ?_ ?_
 ·intro g w hb q
  have hd:RowP w1.heap.size 3 2 [.int .i64 s.lo,.int .i64 s.hi] (g 24) w:=allR_get (j:=4) q (by simp[depsOf,List.filter_cons,Region.binds])
  obtain⟨b,e0,e1,e2⟩:=hd
  simp only[fillD,List.foldl_cons,List.foldl_nil,List.set_cons_succ,List.set_cons_zero]
  simp only[e1]
  go_wp2
  exact⟨rfl,_,rfl,Below.refl _ _,b,e0,rfl,e2⟩
 simp only[apN,apC]
 refine draw_next (RowP w1.heap.size 3 2 [.int .i64 t.lo,.int .i64 t.hi]) RowP.stable ?_ ?_
 ·intro g w hb q
  have hd:RowP w1.heap.size 3 2 [.int .i64 t.lo,.int .i64 t.hi] (g 29) w:=allR_get (j:=9) q (by simp[depsOf,List.filter_cons,Region.binds])
  obtain⟨b,e0,e1,e2⟩:=hd
  simp only[fillD,List.foldl_cons,List.foldl_nil,List.set_cons_succ,List.set_cons_zero]
  simp only[e1]
  go_wp2
  exact⟨rfl,_,rfl,Below.refl _ _,b,e0,rfl,e2⟩
 simp only[apN,apC]
 refine draw_end hL (by kernel_rfl) (by kernel_rfl) ?_;intro g wA hb hR;simp[AllR,RAt,List.range,List.range.loop]at hR;simp only[fillD,List.foldl_cons,List.foldl_nil,List.set_cons_succ,List.set_cons_zero,hR]
 obtain⟨ba,k10,k20,k30⟩:RowP w1.heap.size 3 2 [.int .i64 s.lo,.int .i64 s.hi] (g 8) wA:=by simp only[hR]
 obtain⟨bb,k11,k21,k31⟩:RowP w1.heap.size 3 2 [.int .i64 t.lo,.int .i64 t.hi] (g 9) wA:=by simp only[hR]
 replace hL:=hL.moreAll hb (Ds:=[HeapAt ba 3 [.int .i64 s.lo,.int .i64 s.hi],HeapAt bb 3 [.int .i64 t.lo,.int .i64 t.hi]]) (by
  intro S hS
  simp only[List.mem_cons,List.not_mem_nil,or_false]at hS
  rcases hS with rfl|rfl
  ·exact HeapAt.fresh k10 k30
  ·exact HeapAt.fresh k11 k31)
 simp only[List.cons_append,List.nil_append]at hL
 simp only[k20,k21]
 clear k10 k20 k30 k11 k21 k31
 clear hR hb
 have hA:RowL 3 1 (.slice none 0 0) 0 [] []:=RowL.nil
 go_wp2_with (first|(with_reducible first|refine lld hL ?_|((first|refine lbx hL ?_|refine lal hL ?_|refine lbs hL ?_);clear hL;intro bl w1 hL)|(refine lst' hL ?_;clear hL;intro w1 hL))|((with_reducible refine wp_loop_rounds 5 ?_))|(with_reducible refine rounds_go ?_))
 refine draw_begin [41,42,43,44,45,46,47,48,49,50,51] ?_
 iterate 10 (refine' draw_val ?_ ?_;rotate_left;(focus(intro g w hb q;replace hL:=hL.grow hb;(try simp[depsOf,List.filter_cons,Region.binds,AllR,RAt]at q);simp only[fillD,List.foldl_cons,List.foldl_nil,List.set_cons_succ,List.set_cons_zero];(try simp only[q]);go_wp2_with (first|(with_reducible refine lld hL ?_)|(with_reducible refine ldD hL ?_));exact⟨rfl,_,rfl,Below.refl _ _,rfl⟩));simp only[List.nil_append,List.cons_append])
 refine draw_next (RowP wA.heap.size 3 1 [.int .i64 (s.lo+t.lo)]) RowP.stable ?_ ?_
 ·intro g w hb q;replace hL:=hL.grow hb;(try simp[depsOf,List.filter_cons,Region.binds,AllR,RAt]at q);simp only[fillD,List.foldl_cons,List.foldl_nil,List.set_cons_succ,List.set_cons_zero]
  (try simp only[q])
  go_wp2
  exact⟨rfl,_,rfl,(Below.refl _ _).alloc (Nat.le_refl _) _,_,hb.size,rfl,heap_new _ _⟩
 simp only[apN,apC]
 refine draw_end hL (by kernel_rfl) (by kernel_rfl) ?_;intro g wB0 hb hR;simp[AllR,RAt,List.range,List.range.loop]at hR;simp only[fillD,List.foldl_cons,List.foldl_nil,List.set_cons_succ,List.set_cons_zero,hR]
 obtain⟨bx0,k1,k2,k3⟩:RowP wA.heap.size 3 1 [.int .i64 (s.lo+t.lo)] (g 51) wB0:=by simp only[hR]
 replace hL:=hL.gain hb k1 k3
 simp only[k2]
 clear k1 k2 k3
 clear hR hb
 (with_reducible refine' loc_append (news:=[.int .i64 (s.lo+t.lo)]) (ad:=⟨bx0,0,none⟩) (m:=1) (c:=1) hA hL ?aw0 ?as0 (Split.mk 4 rfl) sInts bInt ?az0 ?ax0 ?an0 ?al0 ?a10 ?am0 ?ab0 ?ah0)
 case aw0=>exact want0
 case as0=>rfl
 case az0=>simp
 case ax0=>rfl
 case an0=>exact news_of hL (b:=bx0) cIn
 case al0=>rfl
 case a10=>simp[Value.oneCell']
 case am0=>unfold maxLen;omega
 case ab0=>omega
 clear hL hA
 intro vA RA wC0 hA hL
 simp only[Nat.zero_add,List.nil_append,List.cons_append,Nat.reduceAdd,List.take_succ_cons,List.take_zero]at hA hL
 go_wp2_with (first|(with_reducible first|refine lld hL ?_|((first|refine lbx hL ?_|refine lal hL ?_|refine lbs hL ?_);clear hL;intro bl w1 hL)|(refine lst' hL ?_;clear hL;intro w1 hL))|((with_reducible refine wp_loop_rounds 5 ?_))|(with_reducible refine rounds_go ?_))
 refine draw_begin [41,42,43,44,45,46,47,48,49,50,51] ?_
 iterate 10 (refine' draw_val ?_ ?_;rotate_left;(focus(intro g w hb q;replace hL:=hL.grow hb;(try simp[depsOf,List.filter_cons,Region.binds,AllR,RAt]at q);simp only[fillD,List.foldl_cons,List.foldl_nil,List.set_cons_succ,List.set_cons_zero];(try simp only[q]);go_wp2_with (first|(with_reducible refine lld hL ?_)|(with_reducible refine ldD hL ?_));exact⟨rfl,_,rfl,Below.refl _ _,rfl⟩));simp only[List.nil_append,List.cons_append])
 refine draw_next (RowP wC0.heap.size 3 1 [.int .i64 (s.lo+t.hi)]) RowP.stable ?_ ?_
 ·intro g w hb q;replace hL:=hL.grow hb;(try simp[depsOf,List.filter_cons,Region.binds,AllR,RAt]at q);simp only[fillD,List.foldl_cons,List.foldl_nil,List.set_cons_succ,List.set_cons_zero]
  (try simp only[q])
  go_wp2
  exact⟨rfl,_,rfl,(Below.refl _ _).alloc (Nat.le_refl _) _,_,hb.size,rfl,heap_new _ _⟩
 simp only[apN,apC]
 refine draw_end hL (by kernel_rfl) (by kernel_rfl) ?_;intro g wB1 hb hR;simp[AllR,RAt,List.range,List.range.loop]at hR;simp only[fillD,List.foldl_cons,List.foldl_nil,List.set_cons_succ,List.set_cons_zero,hR]
 obtain⟨bx1,k1,k2,k3⟩:RowP wC0.heap.size 3 1 [.int .i64 (s.lo+t.hi)] (g 51) wB1:=by simp only[hR]
 replace hL:=hL.gain hb k1 k3
 simp only[k2]
 clear k1 k2 k3
 clear hR hb
 (with_reducible refine' loc_append (news:=[.int .i64 (s.lo+t.hi)]) (ad:=⟨bx1,0,none⟩) (m:=1) (c:=1) hA hL ?aw1 ?as1 (Split.mk 5 rfl) sInts bInt ?az1 ?ax1 ?an1 ?al1 ?a11 ?am1 ?ab1 ?ah1)
 case aw1=>exact want0
 case as1=>rfl
 case az1=>simp
 case ax1=>rfl
 case an1=>exact news_of hL (b:=bx1) cIn
 case al1=>rfl
 case a11=>simp[Value.oneCell']
 case am1=>unfold maxLen;omega
 case ab1=>omega
 clear hL hA
 intro vA RA wC1 hA hL
 simp only[Nat.zero_add,List.nil_append,List.cons_append,Nat.reduceAdd,List.take_succ_cons,List.take_zero]at hA hL
 go_wp2_with (first|(with_reducible first|refine lld hL ?_|((first|refine lbx hL ?_|refine lal hL ?_|refine lbs hL ?_);clear hL;intro bl w1 hL)|(refine lst' hL ?_;clear hL;intro w1 hL))|((with_reducible refine wp_loop_rounds 5 ?_))|(with_reducible refine rounds_go ?_))
 refine draw_begin [41,42,43,44,45,46,47,48,49,50,51] ?_
 iterate 10 (refine' draw_val ?_ ?_;rotate_left;(focus(intro g w hb q;replace hL:=hL.grow hb;(try simp[depsOf,List.filter_cons,Region.binds,AllR,RAt]at q);simp only[fillD,List.foldl_cons,List.foldl_nil,List.set_cons_succ,List.set_cons_zero];(try simp only[q]);go_wp2_with (first|(with_reducible refine lld hL ?_)|(with_reducible refine ldD hL ?_));exact⟨rfl,_,rfl,Below.refl _ _,rfl⟩));simp only[List.nil_append,List.cons_append])
 refine draw_next (RowP wC1.heap.size 3 1 [.int .i64 (s.hi+t.lo)]) RowP.stable ?_ ?_
 ·intro g w hb q;replace hL:=hL.grow hb;(try simp[depsOf,List.filter_cons,Region.binds,AllR,RAt]at q);simp only[fillD,List.foldl_cons,List.foldl_nil,List.set_cons_succ,List.set_cons_zero]
  (try simp only[q])
  go_wp2
  exact⟨rfl,_,rfl,(Below.refl _ _).alloc (Nat.le_refl _) _,_,hb.size,rfl,heap_new _ _⟩
 simp only[apN,apC]
 refine draw_end hL (by kernel_rfl) (by kernel_rfl) ?_;intro g wB2 hb hR;simp[AllR,RAt,List.range,List.range.loop]at hR;simp only[fillD,List.foldl_cons,List.foldl_nil,List.set_cons_succ,List.set_cons_zero,hR]
 obtain⟨bx2,k1,k2,k3⟩:RowP wC1.heap.size 3 1 [.int .i64 (s.hi+t.lo)] (g 51) wB2:=by simp only[hR]
 replace hL:=hL.gain hb k1 k3
 simp only[k2]
 clear k1 k2 k3
 clear hR hb
 (with_reducible refine' loc_append (news:=[.int .i64 (s.hi+t.lo)]) (ad:=⟨bx2,0,none⟩) (m:=1) (c:=1) hA hL ?aw2 ?as2 (Split.mk 6 rfl) sInts bInt ?az2 ?ax2 ?an2 ?al2 ?a12 ?am2 ?ab2 ?ah2)
 case aw2=>exact want0
 case as2=>rfl
 case az2=>simp
 case ax2=>rfl
 case an2=>exact news_of hL (b:=bx2) cIn
 case al2=>rfl
 case a12=>simp[Value.oneCell']
 case am2=>unfold maxLen;omega
 case ab2=>omega
 clear hL hA
 intro vA RA wC2 hA hL
 simp only[Nat.zero_add,List.nil_append,List.cons_append,Nat.reduceAdd,List.take_succ_cons,List.take_zero]at hA hL
 go_wp2_with (first|(with_reducible first|refine lld hL ?_|((first|refine lbx hL ?_|refine lal hL ?_|refine lbs hL ?_);clear hL;intro bl w1 hL)|(refine lst' hL ?_;clear hL;intro w1 hL))|((with_reducible refine wp_loop_rounds 5 ?_))|(with_reducible refine rounds_go ?_))
 refine draw_begin [41,42,43,44,45,46,47,48,49,50,51] ?_
 iterate 10 (refine' draw_val ?_ ?_;rotate_left;(focus(intro g w hb q;replace hL:=hL.grow hb;(try simp[depsOf,List.filter_cons,Region.binds,AllR,RAt]at q);simp only[fillD,List.foldl_cons,List.foldl_nil,List.set_cons_succ,List.set_cons_zero];(try simp only[q]);go_wp2_with (first|(with_reducible refine lld hL ?_)|(with_reducible refine ldD hL ?_));exact⟨rfl,_,rfl,Below.refl _ _,rfl⟩));simp only[List.nil_append,List.cons_append])
 refine draw_next (RowP wC2.heap.size 3 1 [.int .i64 (s.hi+t.hi)]) RowP.stable ?_ ?_
 ·intro g w hb q;replace hL:=hL.grow hb;(try simp[depsOf,List.filter_cons,Region.binds,AllR,RAt]at q);simp only[fillD,List.foldl_cons,List.foldl_nil,List.set_cons_succ,List.set_cons_zero]
  (try simp only[q])
  go_wp2
  exact⟨rfl,_,rfl,(Below.refl _ _).alloc (Nat.le_refl _) _,_,hb.size,rfl,heap_new _ _⟩
 simp only[apN,apC]
 refine draw_end hL (by kernel_rfl) (by kernel_rfl) ?_;intro g wB3 hb hR;simp[AllR,RAt,List.range,List.range.loop]at hR;simp only[fillD,List.foldl_cons,List.foldl_nil,List.set_cons_succ,List.set_cons_zero,hR]
 obtain⟨bx3,k1,k2,k3⟩:RowP wC2.heap.size 3 1 [.int .i64 (s.hi+t.hi)] (g 51) wB3:=by simp only[hR]
 replace hL:=hL.gain hb k1 k3
 simp only[k2]
 clear k1 k2 k3
 clear hR hb
 (with_reducible refine' loc_append (news:=[.int .i64 (s.hi+t.hi)]) (ad:=⟨bx3,0,none⟩) (m:=1) (c:=1) hA hL ?aw3 ?as3 (Split.mk 7 rfl) sInts bInt ?az3 ?ax3 ?an3 ?al3 ?a13 ?am3 ?ab3 ?ah3)
 case aw3=>exact want0
 case as3=>rfl
 case az3=>simp
 case ax3=>rfl
 case an3=>exact news_of hL (b:=bx3) cIn
 case al3=>rfl
 case a13=>simp[Value.oneCell']
 case am3=>unfold maxLen;omega
 case ab3=>omega
 clear hL hA
 intro vA RA wC3 hA hL
 simp only[Nat.zero_add,List.nil_append,List.cons_append,Nat.reduceAdd,List.take_succ_cons,List.take_zero]at hA hL
 go_wp2_with (first|(with_reducible first|refine lld hL ?_|((first|refine lbx hL ?_|refine lal hL ?_|refine lbs hL ?_);clear hL;intro bl w1 hL)|(refine lst' hL ?_;clear hL;intro w1 hL))|((with_reducible refine wp_loop_rounds 5 ?_))|(with_reducible refine rounds_go ?_))
 obtain⟨gA,capA,rfl,y0,y1,y2,y3⟩:=row4 hA hL (Split.mk 7 rfl)
 obtain⟨hmn,hmx,hF⟩:=Hmm.out
 have hle:=least4 gA 0 capA _ _ _ _ wC3 y0 y1 y2 y3
 have hmo:=most4 gA 0 capA _ _ _ _ wC3 y0 y1 y2 y3
 rw[hmn]at hle
 rw[hmx]at hmo
 have HLE:=Lib.hid hle
 have HMO:=Lib.hid hmo
 clear hle hmo y0 y1 y2 y3 hmn hmx
 refine HLE.out.mono ?_
 rintro e w' ⟨rfl,rfl⟩;dsimp only
 have HF:=Lib.hid hF
 by_cases hck:checkSpan ⟨false,mn,mx⟩=0
 ·have HC:=Lib.hid (fun w=>(by have h:=rCheck_any ⟨false,mn,mx⟩ w;rw[hck]at h;exact h:Calls Tryz.prog 177 #[Span.v ⟨false,mn,mx⟩] w fun e w'=>e=.returned (.int .i64 0)∧Below w.heap.size w w'))
  have HK:=Lib.hid hck
  clear hck hF
  go_wp2_with (first|(with_reducible first|refine lld hL ?_|((first|refine lbx hL ?_|refine lal hL ?_|refine lbs hL ?_);clear hL;intro bl w1 hL)|(refine lst' hL ?_;clear hL;intro w1 hL))|(go_at_call 176;refine HMO.out.mono ?_;rintro e w' ⟨rfl,rfl⟩;dsimp only)|(go_at_call 177;refine(HC.out _).mono ?_;rintro e w1 ⟨rfl,hb⟩;replace hL:=hL.grow hb;clear hb;dsimp only))
  (try simp only[Exit.inBlock,Exit.then]);refine rt1 ?_
  exact⟨by rw[HF.out,if_pos HK.out],hL.below⟩
 ·have hne:(checkSpan ⟨false,mn,mx⟩ != 0)=true:=by simp[hck]
  have hc:=rCheck_any ⟨false,mn,mx⟩
  have HK:=Lib.hid hck
  generalize checkSpan ⟨false,mn,mx⟩=ck at hne hc
  have HC:=Lib.hid hc
  clear hck hF hc
  go_wp2_with (first|(with_reducible first|refine lld hL ?_|((first|refine lbx hL ?_|refine lal hL ?_|refine lbs hL ?_);clear hL;intro bl w1 hL)|(refine lst' hL ?_;clear hL;intro w1 hL))|(go_at_call 176;refine HMO.out.mono ?_;rintro e w' ⟨rfl,rfl⟩;dsimp only)|(go_at_call 177;refine(HC.out _).mono ?_;rintro e w1 ⟨rfl,hb⟩;replace hL:=hL.grow hb;clear hb;dsimp only))
  (try simp only[Exit.inBlock,Exit.then]);refine rt1 ?_
  exact⟨by rw[HF.out,if_neg HK.out],hL.below⟩
theorem rDo_6 (s t:Span) (hs:checkSpan s=0) (ht:checkSpan t=0) (h1:s.none=false) (h2:t.none=false) (w:World):
  Calls Tryz.prog 124 #[.int .i64 6,s.v,t.v] w fun e w'=>e=.returned ((made 6 s t).v)∧Below w.heap.size w w':=by
 have hL:=Loc.start w
 obtain⟨⟨s1,s2,s3,s4⟩,hls,_⟩:=checkSpan_zero hs
 obtain⟨⟨t1,t2,t3,t4⟩,hlt,_⟩:=checkSpan_zero ht
 have hF:=do_eq (k:=6) (by omega) hls hlt h1 h2 rfl rfl
 simp only[opOf,if_true]at hF
 obtain⟨mn,hmn⟩:∃ mn,min4 (s.lo - t.lo) (s.lo - t.hi) (s.hi - t.lo) (s.hi - t.hi)=mn:=⟨_,rfl⟩
 obtain⟨mx,hmx⟩:∃ mx,max4 (s.lo - t.lo) (s.lo - t.hi) (s.hi - t.lo) (s.hi - t.hi)=mx:=⟨_,rfl⟩
 rw[hmn,hmx]at hF
 clear hs ht
 have Hmm:=Lib.hid (And.intro hmn (And.intro hmx hF))
 clear hmn hmx hF
 have hL:=Loc.start w
 go_enter Tryz.func124,Tryz.ntmps124
 go_wp2_with (first|(with_reducible first|refine lld hL ?_|((first|refine lbx hL ?_|refine lal hL ?_|refine lbs hL ?_);clear hL;intro bl w1 hL)|(refine lst' hL ?_;clear hL;intro w1 hL)))
 refine draw_begin [20,21,22,23,24,25,26,27,28,29,8,9] ?_
 iterate 4 (refine' draw_val ?_ ?_;rotate_left;(focus(intro g w hb q;replace hL:=hL.grow hb;(try simp[depsOf,List.filter_cons,Region.binds,AllR,RAt]at q);simp only[fillD,List.foldl_cons,List.foldl_nil,List.set_cons_succ,List.set_cons_zero];(try simp only[q]);go_wp2_with (first|(with_reducible refine lld hL ?_)|(with_reducible refine ldD hL ?_));exact⟨rfl,_,rfl,Below.refl _ _,rfl⟩));simp only[List.nil_append,List.cons_append])
 refine draw_next (RowP w1.heap.size 3 2 [.int .i64 s.lo,.int .i64 s.hi]) RowP.stable ?_ ?_
 ·intro g w hb q;replace hL:=hL.grow hb;(try simp[depsOf,List.filter_cons,Region.binds,AllR,RAt]at q);simp only[fillD,List.foldl_cons,List.foldl_nil,List.set_cons_succ,List.set_cons_zero]
  (try simp only[q])
  go_wp2
  exact⟨rfl,_,rfl,(Below.refl _ _).alloc (Nat.le_refl _) _,_,hb.size,rfl,heap_new _ _⟩
 simp only[apN,apC]
 iterate 4 (refine' draw_val ?_ ?_;rotate_left;(focus(intro g w hb q;replace hL:=hL.grow hb;(try simp[depsOf,List.filter_cons,Region.binds,AllR,RAt]at q);simp only[fillD,List.foldl_cons,List.foldl_nil,List.set_cons_succ,List.set_cons_zero];(try simp only[q]);go_wp2_with (first|(with_reducible refine lld hL ?_)|(with_reducible refine ldD hL ?_));exact⟨rfl,_,rfl,Below.refl _ _,rfl⟩));simp only[List.nil_append,List.cons_append])
 refine draw_next (RowP w1.heap.size 3 2 [.int .i64 t.lo,.int .i64 t.hi]) RowP.stable ?_ ?_
 ·intro g w hb q;replace hL:=hL.grow hb;(try simp[depsOf,List.filter_cons,Region.binds,AllR,RAt]at q);simp only[fillD,List.foldl_cons,List.foldl_nil,List.set_cons_succ,List.set_cons_zero]
  (try simp only[q])
  go_wp2
  exact⟨rfl,_,rfl,(Below.refl _ _).alloc (Nat.le_refl _) _,_,hb.size,rfl,heap_new _ _⟩
 simp only[apN,apC]
 refine draw_next (RowP w1.heap.size 3 2 [.int .i64 s.lo,.int .i64 s.hi]) RowP.stable ?_ ?_
 ·intro g w hb q
  have hd:RowP w1.heap.size 3 2 [.int .i64 s.lo,.int .i64 s.hi] (g 24) w:=allR_get (j:=4) q (by simp[depsOf,List.filter_cons,Region.binds])
  obtain⟨b,e0,e1,e2⟩:=hd
  simp only[fillD,List.foldl_cons,List.foldl_nil,List.set_cons_succ,List.set_cons_zero]
  simp only[e1]
  go_wp2
  exact⟨rfl,_,rfl,Below.refl _ _,b,e0,rfl,e2⟩
 simp only[apN,apC]
 refine draw_next (RowP w1.heap.size 3 2 [.int .i64 t.lo,.int .i64 t.hi]) RowP.stable ?_ ?_
 ·intro g w hb q
  have hd:RowP w1.heap.size 3 2 [.int .i64 t.lo,.int .i64 t.hi] (g 29) w:=allR_get (j:=9) q (by simp[depsOf,List.filter_cons,Region.binds])
  obtain⟨b,e0,e1,e2⟩:=hd
  simp only[fillD,List.foldl_cons,List.foldl_nil,List.set_cons_succ,List.set_cons_zero]
  simp only[e1]
  go_wp2
  exact⟨rfl,_,rfl,Below.refl _ _,b,e0,rfl,e2⟩
 simp only[apN,apC]
 refine draw_end hL (by kernel_rfl) (by kernel_rfl) ?_;intro g wA hb hR;simp[AllR,RAt,List.range,List.range.loop]at hR;simp only[fillD,List.foldl_cons,List.foldl_nil,List.set_cons_succ,List.set_cons_zero,hR]
 obtain⟨ba,k10,k20,k30⟩:RowP w1.heap.size 3 2 [.int .i64 s.lo,.int .i64 s.hi] (g 8) wA:=by simp only[hR]
 obtain⟨bb,k11,k21,k31⟩:RowP w1.heap.size 3 2 [.int .i64 t.lo,.int .i64 t.hi] (g 9) wA:=by simp only[hR]
 replace hL:=hL.moreAll hb (Ds:=[HeapAt ba 3 [.int .i64 s.lo,.int .i64 s.hi],HeapAt bb 3 [.int .i64 t.lo,.int .i64 t.hi]]) (by
  intro S hS
  simp only[List.mem_cons,List.not_mem_nil,or_false]at hS
  rcases hS with rfl|rfl
  ·exact HeapAt.fresh k10 k30
  ·exact HeapAt.fresh k11 k31)
 simp only[List.cons_append,List.nil_append]at hL
 simp only[k20,k21]
 clear k10 k20 k30 k11 k21 k31
 clear hR hb
 have hA:RowL 3 1 (.slice none 0 0) 0 [] []:=RowL.nil
 go_wp2_with (first|(with_reducible first|refine lld hL ?_|((first|refine lbx hL ?_|refine lal hL ?_|refine lbs hL ?_);clear hL;intro bl w1 hL)|(refine lst' hL ?_;clear hL;intro w1 hL))|((with_reducible refine wp_loop_rounds 5 ?_))|(with_reducible refine rounds_go ?_))
 refine draw_begin [55,56,57,58,59,60,61,62,63,64,65] ?_
 iterate 10 (refine' draw_val ?_ ?_;rotate_left;(focus(intro g w hb q;replace hL:=hL.grow hb;(try simp[depsOf,List.filter_cons,Region.binds,AllR,RAt]at q);simp only[fillD,List.foldl_cons,List.foldl_nil,List.set_cons_succ,List.set_cons_zero];(try simp only[q]);go_wp2_with (first|(with_reducible refine lld hL ?_)|(with_reducible refine ldD hL ?_));exact⟨rfl,_,rfl,Below.refl _ _,rfl⟩));simp only[List.nil_append,List.cons_append])
 refine draw_next (RowP wA.heap.size 3 1 [.int .i64 (s.lo - t.lo)]) RowP.stable ?_ ?_
 ·intro g w hb q;replace hL:=hL.grow hb;(try simp[depsOf,List.filter_cons,Region.binds,AllR,RAt]at q);simp only[fillD,List.foldl_cons,List.foldl_nil,List.set_cons_succ,List.set_cons_zero]
  (try simp only[q])
  go_wp2
  exact⟨rfl,_,rfl,(Below.refl _ _).alloc (Nat.le_refl _) _,_,hb.size,rfl,heap_new _ _⟩
 simp only[apN,apC]
 refine draw_end hL (by kernel_rfl) (by kernel_rfl) ?_;intro g wB0 hb hR;simp[AllR,RAt,List.range,List.range.loop]at hR;simp only[fillD,List.foldl_cons,List.foldl_nil,List.set_cons_succ,List.set_cons_zero,hR]
 obtain⟨bx0,k1,k2,k3⟩:RowP wA.heap.size 3 1 [.int .i64 (s.lo - t.lo)] (g 65) wB0:=by simp only[hR]
 replace hL:=hL.gain hb k1 k3
 simp only[k2]
 clear k1 k2 k3
 clear hR hb
 (with_reducible refine' loc_append (news:=[.int .i64 (s.lo - t.lo)]) (ad:=⟨bx0,0,none⟩) (m:=1) (c:=1) hA hL ?aw0 ?as0 (Split.mk 4 rfl) sInts bInt ?az0 ?ax0 ?an0 ?al0 ?a10 ?am0 ?ab0 ?ah0)
 case aw0=>exact want0
 case as0=>rfl
 case az0=>simp
 case ax0=>rfl
 case an0=>exact news_of hL (b:=bx0) cIn
 case al0=>rfl
 case a10=>simp[Value.oneCell']
 case am0=>unfold maxLen;omega
 case ab0=>omega
 clear hL hA
 intro vA RA wC0 hA hL
 simp only[Nat.zero_add,List.nil_append,List.cons_append,Nat.reduceAdd,List.take_succ_cons,List.take_zero]at hA hL
 go_wp2_with (first|(with_reducible first|refine lld hL ?_|((first|refine lbx hL ?_|refine lal hL ?_|refine lbs hL ?_);clear hL;intro bl w1 hL)|(refine lst' hL ?_;clear hL;intro w1 hL))|((with_reducible refine wp_loop_rounds 5 ?_))|(with_reducible refine rounds_go ?_))
 refine draw_begin [55,56,57,58,59,60,61,62,63,64,65] ?_
 iterate 10 (refine' draw_val ?_ ?_;rotate_left;(focus(intro g w hb q;replace hL:=hL.grow hb;(try simp[depsOf,List.filter_cons,Region.binds,AllR,RAt]at q);simp only[fillD,List.foldl_cons,List.foldl_nil,List.set_cons_succ,List.set_cons_zero];(try simp only[q]);go_wp2_with (first|(with_reducible refine lld hL ?_)|(with_reducible refine ldD hL ?_));exact⟨rfl,_,rfl,Below.refl _ _,rfl⟩));simp only[List.nil_append,List.cons_append])
 refine draw_next (RowP wC0.heap.size 3 1 [.int .i64 (s.lo - t.hi)]) RowP.stable ?_ ?_
 ·intro g w hb q;replace hL:=hL.grow hb;(try simp[depsOf,List.filter_cons,Region.binds,AllR,RAt]at q);simp only[fillD,List.foldl_cons,List.foldl_nil,List.set_cons_succ,List.set_cons_zero]
  (try simp only[q])
  go_wp2
  exact⟨rfl,_,rfl,(Below.refl _ _).alloc (Nat.le_refl _) _,_,hb.size,rfl,heap_new _ _⟩
 simp only[apN,apC]
 refine draw_end hL (by kernel_rfl) (by kernel_rfl) ?_;intro g wB1 hb hR;simp[AllR,RAt,List.range,List.range.loop]at hR;simp only[fillD,List.foldl_cons,List.foldl_nil,List.set_cons_succ,List.set_cons_zero,hR]
 obtain⟨bx1,k1,k2,k3⟩:RowP wC0.heap.size 3 1 [.int .i64 (s.lo - t.hi)] (g 65) wB1:=by simp only[hR]
 replace hL:=hL.gain hb k1 k3
 simp only[k2]
 clear k1 k2 k3
 clear hR hb
 (with_reducible refine' loc_append (news:=[.int .i64 (s.lo - t.hi)]) (ad:=⟨bx1,0,none⟩) (m:=1) (c:=1) hA hL ?aw1 ?as1 (Split.mk 5 rfl) sInts bInt ?az1 ?ax1 ?an1 ?al1 ?a11 ?am1 ?ab1 ?ah1)
 case aw1=>exact want0
 case as1=>rfl
 case az1=>simp
 case ax1=>rfl
 case an1=>exact news_of hL (b:=bx1) cIn
 case al1=>rfl
 case a11=>simp[Value.oneCell']
 case am1=>unfold maxLen;omega
 case ab1=>omega
 clear hL hA
 intro vA RA wC1 hA hL
 simp only[Nat.zero_add,List.nil_append,List.cons_append,Nat.reduceAdd,List.take_succ_cons,List.take_zero]at hA hL
 go_wp2_with (first|(with_reducible first|refine lld hL ?_|((first|refine lbx hL ?_|refine lal hL ?_|refine lbs hL ?_);clear hL;intro bl w1 hL)|(refine lst' hL ?_;clear hL;intro w1 hL))|((with_reducible refine wp_loop_rounds 5 ?_))|(with_reducible refine rounds_go ?_))
 refine draw_begin [55,56,57,58,59,60,61,62,63,64,65] ?_
 iterate 10 (refine' draw_val ?_ ?_;rotate_left;(focus(intro g w hb q;replace hL:=hL.grow hb;(try simp[depsOf,List.filter_cons,Region.binds,AllR,RAt]at q);simp only[fillD,List.foldl_cons,List.foldl_nil,List.set_cons_succ,List.set_cons_zero];(try simp only[q]);go_wp2_with (first|(with_reducible refine lld hL ?_)|(with_reducible refine ldD hL ?_));exact⟨rfl,_,rfl,Below.refl _ _,rfl⟩));simp only[List.nil_append,List.cons_append])
 refine draw_next (RowP wC1.heap.size 3 1 [.int .i64 (s.hi - t.lo)]) RowP.stable ?_ ?_
 ·intro g w hb q;replace hL:=hL.grow hb;(try simp[depsOf,List.filter_cons,Region.binds,AllR,RAt]at q);simp only[fillD,List.foldl_cons,List.foldl_nil,List.set_cons_succ,List.set_cons_zero]
  (try simp only[q])
  go_wp2
  exact⟨rfl,_,rfl,(Below.refl _ _).alloc (Nat.le_refl _) _,_,hb.size,rfl,heap_new _ _⟩
 simp only[apN,apC]
 refine draw_end hL (by kernel_rfl) (by kernel_rfl) ?_;intro g wB2 hb hR;simp[AllR,RAt,List.range,List.range.loop]at hR;simp only[fillD,List.foldl_cons,List.foldl_nil,List.set_cons_succ,List.set_cons_zero,hR]
 obtain⟨bx2,k1,k2,k3⟩:RowP wC1.heap.size 3 1 [.int .i64 (s.hi - t.lo)] (g 65) wB2:=by simp only[hR]
 replace hL:=hL.gain hb k1 k3
 simp only[k2]
 clear k1 k2 k3
 clear hR hb
 (with_reducible refine' loc_append (news:=[.int .i64 (s.hi - t.lo)]) (ad:=⟨bx2,0,none⟩) (m:=1) (c:=1) hA hL ?aw2 ?as2 (Split.mk 6 rfl) sInts bInt ?az2 ?ax2 ?an2 ?al2 ?a12 ?am2 ?ab2 ?ah2)
 case aw2=>exact want0
 case as2=>rfl
 case az2=>simp
 case ax2=>rfl
 case an2=>exact news_of hL (b:=bx2) cIn
 case al2=>rfl
 case a12=>simp[Value.oneCell']
 case am2=>unfold maxLen;omega
 case ab2=>omega
 clear hL hA
 intro vA RA wC2 hA hL
 simp only[Nat.zero_add,List.nil_append,List.cons_append,Nat.reduceAdd,List.take_succ_cons,List.take_zero]at hA hL
 go_wp2_with (first|(with_reducible first|refine lld hL ?_|((first|refine lbx hL ?_|refine lal hL ?_|refine lbs hL ?_);clear hL;intro bl w1 hL)|(refine lst' hL ?_;clear hL;intro w1 hL))|((with_reducible refine wp_loop_rounds 5 ?_))|(with_reducible refine rounds_go ?_))
 refine draw_begin [55,56,57,58,59,60,61,62,63,64,65] ?_
 iterate 10 (refine' draw_val ?_ ?_;rotate_left;(focus(intro g w hb q;replace hL:=hL.grow hb;(try simp[depsOf,List.filter_cons,Region.binds,AllR,RAt]at q);simp only[fillD,List.foldl_cons,List.foldl_nil,List.set_cons_succ,List.set_cons_zero];(try simp only[q]);go_wp2_with (first|(with_reducible refine lld hL ?_)|(with_reducible refine ldD hL ?_));exact⟨rfl,_,rfl,Below.refl _ _,rfl⟩));simp only[List.nil_append,List.cons_append])
 refine draw_next (RowP wC2.heap.size 3 1 [.int .i64 (s.hi - t.hi)]) RowP.stable ?_ ?_
 ·intro g w hb q;replace hL:=hL.grow hb;(try simp[depsOf,List.filter_cons,Region.binds,AllR,RAt]at q);simp only[fillD,List.foldl_cons,List.foldl_nil,List.set_cons_succ,List.set_cons_zero]
  (try simp only[q])
  go_wp2
  exact⟨rfl,_,rfl,(Below.refl _ _).alloc (Nat.le_refl _) _,_,hb.size,rfl,heap_new _ _⟩
 simp only[apN,apC]
 refine draw_end hL (by kernel_rfl) (by kernel_rfl) ?_;intro g wB3 hb hR;simp[AllR,RAt,List.range,List.range.loop]at hR;simp only[fillD,List.foldl_cons,List.foldl_nil,List.set_cons_succ,List.set_cons_zero,hR]
 obtain⟨bx3,k1,k2,k3⟩:RowP wC2.heap.size 3 1 [.int .i64 (s.hi - t.hi)] (g 65) wB3:=by simp only[hR]
 replace hL:=hL.gain hb k1 k3
 simp only[k2]
 clear k1 k2 k3
 clear hR hb
 (with_reducible refine' loc_append (news:=[.int .i64 (s.hi - t.hi)]) (ad:=⟨bx3,0,none⟩) (m:=1) (c:=1) hA hL ?aw3 ?as3 (Split.mk 7 rfl) sInts bInt ?az3 ?ax3 ?an3 ?al3 ?a13 ?am3 ?ab3 ?ah3)
 case aw3=>exact want0
 case as3=>rfl
 case az3=>simp
 case ax3=>rfl
 case an3=>exact news_of hL (b:=bx3) cIn
 case al3=>rfl
 case a13=>simp[Value.oneCell']
 case am3=>unfold maxLen;omega
 case ab3=>omega
 clear hL hA
 intro vA RA wC3 hA hL
 simp only[Nat.zero_add,List.nil_append,List.cons_append,Nat.reduceAdd,List.take_succ_cons,List.take_zero]at hA hL
 go_wp2_with (first|(with_reducible first|refine lld hL ?_|((first|refine lbx hL ?_|refine lal hL ?_|refine lbs hL ?_);clear hL;intro bl w1 hL)|(refine lst' hL ?_;clear hL;intro w1 hL))|((with_reducible refine wp_loop_rounds 5 ?_))|(with_reducible refine rounds_go ?_))
 obtain⟨gA,capA,rfl,y0,y1,y2,y3⟩:=row4 hA hL (Split.mk 7 rfl)
 obtain⟨hmn,hmx,hF⟩:=Hmm.out
 have hle:=least4 gA 0 capA _ _ _ _ wC3 y0 y1 y2 y3
 have hmo:=most4 gA 0 capA _ _ _ _ wC3 y0 y1 y2 y3
 rw[hmn]at hle
 rw[hmx]at hmo
 have HLE:=Lib.hid hle
 have HMO:=Lib.hid hmo
 clear hle hmo y0 y1 y2 y3 hmn hmx
 refine HLE.out.mono ?_
 rintro e w' ⟨rfl,rfl⟩;dsimp only
 have HF:=Lib.hid hF
 by_cases hck:checkSpan ⟨false,mn,mx⟩=0
 ·have HC:=Lib.hid (fun w=>(by have h:=rCheck_any ⟨false,mn,mx⟩ w;rw[hck]at h;exact h:Calls Tryz.prog 177 #[Span.v ⟨false,mn,mx⟩] w fun e w'=>e=.returned (.int .i64 0)∧Below w.heap.size w w'))
  have HK:=Lib.hid hck
  clear hck hF
  go_wp2_with (first|(with_reducible first|refine lld hL ?_|((first|refine lbx hL ?_|refine lal hL ?_|refine lbs hL ?_);clear hL;intro bl w1 hL)|(refine lst' hL ?_;clear hL;intro w1 hL))|(go_at_call 176;refine HMO.out.mono ?_;rintro e w' ⟨rfl,rfl⟩;dsimp only)|(go_at_call 177;refine(HC.out _).mono ?_;rintro e w1 ⟨rfl,hb⟩;replace hL:=hL.grow hb;clear hb;dsimp only))
  (try simp only[Exit.inBlock,Exit.then]);refine rt1 ?_
  exact⟨by rw[HF.out,if_pos HK.out],hL.below⟩
 ·have hne:(checkSpan ⟨false,mn,mx⟩ != 0)=true:=by simp[hck]
  have hc:=rCheck_any ⟨false,mn,mx⟩
  have HK:=Lib.hid hck
  generalize checkSpan ⟨false,mn,mx⟩=ck at hne hc
  have HC:=Lib.hid hc
  clear hck hF hc
  go_wp2_with (first|(with_reducible first|refine lld hL ?_|((first|refine lbx hL ?_|refine lal hL ?_|refine lbs hL ?_);clear hL;intro bl w1 hL)|(refine lst' hL ?_;clear hL;intro w1 hL))|(go_at_call 176;refine HMO.out.mono ?_;rintro e w' ⟨rfl,rfl⟩;dsimp only)|(go_at_call 177;refine(HC.out _).mono ?_;rintro e w1 ⟨rfl,hb⟩;replace hL:=hL.grow hb;clear hb;dsimp only))
  (try simp only[Exit.inBlock,Exit.then]);refine rt1 ?_
  exact⟨by rw[HF.out,if_neg HK.out],hL.below⟩
theorem rDo_7 (s t:Span) (hs:checkSpan s=0) (ht:checkSpan t=0) (h1:s.none=false) (h2:t.none=false) (w:World):
  Calls Tryz.prog 124 #[.int .i64 7,s.v,t.v] w fun e w'=>e=.returned ((made 7 s t).v)∧Below w.heap.size w w':=by
 have hL:=Loc.start w
 obtain⟨⟨s1,s2,s3,s4⟩,hls,_⟩:=checkSpan_zero hs
 obtain⟨⟨t1,t2,t3,t4⟩,hlt,_⟩:=checkSpan_zero ht
 have hF:=do_eq (k:=7) (by omega) hls hlt h1 h2 rfl rfl
 simp only[opOf,if_neg (show ¬ (7:Int)=6 by decide),if_true]at hF
 obtain⟨mn,hmn⟩:∃ mn,min4 (s.lo*t.lo) (s.lo*t.hi) (s.hi*t.lo) (s.hi*t.hi)=mn:=⟨_,rfl⟩
 obtain⟨mx,hmx⟩:∃ mx,max4 (s.lo*t.lo) (s.lo*t.hi) (s.hi*t.lo) (s.hi*t.hi)=mx:=⟨_,rfl⟩
 rw[hmn,hmx]at hF
 obtain⟨m1,m2⟩:=mul_small s1 s2 t1 t2
 obtain⟨m3,m4⟩:=mul_small s1 s2 t3 t4
 obtain⟨m5,m6⟩:=mul_small s3 s4 t1 t2
 obtain⟨m7,m8⟩:=mul_small s3 s4 t3 t4
 clear hs ht
 have Hmm:=Lib.hid (And.intro hmn (And.intro hmx hF))
 clear hmn hmx hF
 have hL:=Loc.start w
 go_enter Tryz.func124,Tryz.ntmps124
 go_wp2_with (first|(with_reducible first|refine lld hL ?_|((first|refine lbx hL ?_|refine lal hL ?_|refine lbs hL ?_);clear hL;intro bl w1 hL)|(refine lst' hL ?_;clear hL;intro w1 hL)))
 refine draw_begin [20,21,22,23,24,25,26,27,28,29,8,9] ?_
 iterate 4 (refine' draw_val ?_ ?_;rotate_left;(focus(intro g w hb q;replace hL:=hL.grow hb;(try simp[depsOf,List.filter_cons,Region.binds,AllR,RAt]at q);simp only[fillD,List.foldl_cons,List.foldl_nil,List.set_cons_succ,List.set_cons_zero];(try simp only[q]);go_wp2_with (first|(with_reducible refine lld hL ?_)|(with_reducible refine ldD hL ?_));exact⟨rfl,_,rfl,Below.refl _ _,rfl⟩));simp only[List.nil_append,List.cons_append])
 refine draw_next (RowP w1.heap.size 3 2 [.int .i64 s.lo,.int .i64 s.hi]) RowP.stable ?_ ?_
 ·intro g w hb q;replace hL:=hL.grow hb;(try simp[depsOf,List.filter_cons,Region.binds,AllR,RAt]at q);simp only[fillD,List.foldl_cons,List.foldl_nil,List.set_cons_succ,List.set_cons_zero]
  (try simp only[q])
  go_wp2
  exact⟨rfl,_,rfl,(Below.refl _ _).alloc (Nat.le_refl _) _,_,hb.size,rfl,heap_new _ _⟩
 simp only[apN,apC]
 iterate 4 (refine' draw_val ?_ ?_;rotate_left;(focus(intro g w hb q;replace hL:=hL.grow hb;(try simp[depsOf,List.filter_cons,Region.binds,AllR,RAt]at q);simp only[fillD,List.foldl_cons,List.foldl_nil,List.set_cons_succ,List.set_cons_zero];(try simp only[q]);go_wp2_with (first|(with_reducible refine lld hL ?_)|(with_reducible refine ldD hL ?_));exact⟨rfl,_,rfl,Below.refl _ _,rfl⟩));simp only[List.nil_append,List.cons_append])
 refine draw_next (RowP w1.heap.size 3 2 [.int .i64 t.lo,.int .i64 t.hi]) RowP.stable ?_ ?_
 ·intro g w hb q;replace hL:=hL.grow hb;(try simp[depsOf,List.filter_cons,Region.binds,AllR,RAt]at q);simp only[fillD,List.foldl_cons,List.foldl_nil,List.set_cons_succ,List.set_cons_zero]
  (try simp only[q])
  go_wp2
  exact⟨rfl,_,rfl,(Below.refl _ _).alloc (Nat.le_refl _) _,_,hb.size,rfl,heap_new _ _⟩
 simp only[apN,apC]
 refine draw_next (RowP w1.heap.size 3 2 [.int .i64 s.lo,.int .i64 s.hi]) RowP.stable ?_ ?_
 ·intro g w hb q
  have hd:RowP w1.heap.size 3 2 [.int .i64 s.lo,.int .i64 s.hi] (g 24) w:=allR_get (j:=4) q (by simp[depsOf,List.filter_cons,Region.binds])
  obtain⟨b,e0,e1,e2⟩:=hd
  simp only[fillD,List.foldl_cons,List.foldl_nil,List.set_cons_succ,List.set_cons_zero]
  simp only[e1]
  go_wp2
  exact⟨rfl,_,rfl,Below.refl _ _,b,e0,rfl,e2⟩
 simp only[apN,apC]
 refine draw_next (RowP w1.heap.size 3 2 [.int .i64 t.lo,.int .i64 t.hi]) RowP.stable ?_ ?_
 ·intro g w hb q
  have hd:RowP w1.heap.size 3 2 [.int .i64 t.lo,.int .i64 t.hi] (g 29) w:=allR_get (j:=9) q (by simp[depsOf,List.filter_cons,Region.binds])
  obtain⟨b,e0,e1,e2⟩:=hd
  simp only[fillD,List.foldl_cons,List.foldl_nil,List.set_cons_succ,List.set_cons_zero]
  simp only[e1]
  go_wp2
  exact⟨rfl,_,rfl,Below.refl _ _,b,e0,rfl,e2⟩
 simp only[apN,apC]
 refine draw_end hL (by kernel_rfl) (by kernel_rfl) ?_;intro g wA hb hR;simp[AllR,RAt,List.range,List.range.loop]at hR;simp only[fillD,List.foldl_cons,List.foldl_nil,List.set_cons_succ,List.set_cons_zero,hR]
 obtain⟨ba,k10,k20,k30⟩:RowP w1.heap.size 3 2 [.int .i64 s.lo,.int .i64 s.hi] (g 8) wA:=by simp only[hR]
 obtain⟨bb,k11,k21,k31⟩:RowP w1.heap.size 3 2 [.int .i64 t.lo,.int .i64 t.hi] (g 9) wA:=by simp only[hR]
 replace hL:=hL.moreAll hb (Ds:=[HeapAt ba 3 [.int .i64 s.lo,.int .i64 s.hi],HeapAt bb 3 [.int .i64 t.lo,.int .i64 t.hi]]) (by
  intro S hS
  simp only[List.mem_cons,List.not_mem_nil,or_false]at hS
  rcases hS with rfl|rfl
  ·exact HeapAt.fresh k10 k30
  ·exact HeapAt.fresh k11 k31)
 simp only[List.cons_append,List.nil_append]at hL
 simp only[k20,k21]
 clear k10 k20 k30 k11 k21 k31
 clear hR hb
 have hA:RowL 3 1 (.slice none 0 0) 0 [] []:=RowL.nil
 go_wp2_with (first|(with_reducible first|refine lld hL ?_|((first|refine lbx hL ?_|refine lal hL ?_|refine lbs hL ?_);clear hL;intro bl w1 hL)|(refine lst' hL ?_;clear hL;intro w1 hL))|((with_reducible refine wp_loop_rounds 5 ?_))|(with_reducible refine rounds_go ?_))
 refine draw_begin [69,70,71,72,73,74,75,76,77,78,79] ?_
 iterate 10 (refine' draw_val ?_ ?_;rotate_left;(focus(intro g w hb q;replace hL:=hL.grow hb;(try simp[depsOf,List.filter_cons,Region.binds,AllR,RAt]at q);simp only[fillD,List.foldl_cons,List.foldl_nil,List.set_cons_succ,List.set_cons_zero];(try simp only[q]);go_wp2_with (first|(with_reducible refine lld hL ?_)|(with_reducible refine ldD hL ?_));exact⟨rfl,_,rfl,Below.refl _ _,rfl⟩));simp only[List.nil_append,List.cons_append])
 refine draw_next (RowP wA.heap.size 3 1 [.int .i64 (s.lo*t.lo)]) RowP.stable ?_ ?_
 ·intro g w hb q;replace hL:=hL.grow hb;(try simp[depsOf,List.filter_cons,Region.binds,AllR,RAt]at q);simp only[fillD,List.foldl_cons,List.foldl_nil,List.set_cons_succ,List.set_cons_zero]
  (try simp only[q])
  go_wp2
  exact⟨rfl,_,rfl,(Below.refl _ _).alloc (Nat.le_refl _) _,_,hb.size,rfl,heap_new _ _⟩
 simp only[apN,apC]
 refine draw_end hL (by kernel_rfl) (by kernel_rfl) ?_;intro g wB0 hb hR;simp[AllR,RAt,List.range,List.range.loop]at hR;simp only[fillD,List.foldl_cons,List.foldl_nil,List.set_cons_succ,List.set_cons_zero,hR]
 obtain⟨bx0,k1,k2,k3⟩:RowP wA.heap.size 3 1 [.int .i64 (s.lo*t.lo)] (g 79) wB0:=by simp only[hR]
 replace hL:=hL.gain hb k1 k3
 simp only[k2]
 clear k1 k2 k3
 clear hR hb
 (with_reducible refine' loc_append (news:=[.int .i64 (s.lo*t.lo)]) (ad:=⟨bx0,0,none⟩) (m:=1) (c:=1) hA hL ?aw0 ?as0 (Split.mk 4 rfl) sInts bInt ?az0 ?ax0 ?an0 ?al0 ?a10 ?am0 ?ab0 ?ah0)
 case aw0=>exact want0
 case as0=>rfl
 case az0=>simp
 case ax0=>rfl
 case an0=>exact news_of hL (b:=bx0) cIn
 case al0=>rfl
 case a10=>simp[Value.oneCell']
 case am0=>unfold maxLen;omega
 case ab0=>omega
 clear hL hA
 intro vA RA wC0 hA hL
 simp only[Nat.zero_add,List.nil_append,List.cons_append,Nat.reduceAdd,List.take_succ_cons,List.take_zero]at hA hL
 go_wp2_with (first|(with_reducible first|refine lld hL ?_|((first|refine lbx hL ?_|refine lal hL ?_|refine lbs hL ?_);clear hL;intro bl w1 hL)|(refine lst' hL ?_;clear hL;intro w1 hL))|((with_reducible refine wp_loop_rounds 5 ?_))|(with_reducible refine rounds_go ?_))
 refine draw_begin [69,70,71,72,73,74,75,76,77,78,79] ?_
 iterate 10 (refine' draw_val ?_ ?_;rotate_left;(focus(intro g w hb q;replace hL:=hL.grow hb;(try simp[depsOf,List.filter_cons,Region.binds,AllR,RAt]at q);simp only[fillD,List.foldl_cons,List.foldl_nil,List.set_cons_succ,List.set_cons_zero];(try simp only[q]);go_wp2_with (first|(with_reducible refine lld hL ?_)|(with_reducible refine ldD hL ?_));exact⟨rfl,_,rfl,Below.refl _ _,rfl⟩));simp only[List.nil_append,List.cons_append])
 refine draw_next (RowP wC0.heap.size 3 1 [.int .i64 (s.lo*t.hi)]) RowP.stable ?_ ?_
 ·intro g w hb q;replace hL:=hL.grow hb;(try simp[depsOf,List.filter_cons,Region.binds,AllR,RAt]at q);simp only[fillD,List.foldl_cons,List.foldl_nil,List.set_cons_succ,List.set_cons_zero]
  (try simp only[q])
  go_wp2
  exact⟨rfl,_,rfl,(Below.refl _ _).alloc (Nat.le_refl _) _,_,hb.size,rfl,heap_new _ _⟩
 simp only[apN,apC]
 refine draw_end hL (by kernel_rfl) (by kernel_rfl) ?_;intro g wB1 hb hR;simp[AllR,RAt,List.range,List.range.loop]at hR;simp only[fillD,List.foldl_cons,List.foldl_nil,List.set_cons_succ,List.set_cons_zero,hR]
 obtain⟨bx1,k1,k2,k3⟩:RowP wC0.heap.size 3 1 [.int .i64 (s.lo*t.hi)] (g 79) wB1:=by simp only[hR]
 replace hL:=hL.gain hb k1 k3
 simp only[k2]
 clear k1 k2 k3
 clear hR hb
 (with_reducible refine' loc_append (news:=[.int .i64 (s.lo*t.hi)]) (ad:=⟨bx1,0,none⟩) (m:=1) (c:=1) hA hL ?aw1 ?as1 (Split.mk 5 rfl) sInts bInt ?az1 ?ax1 ?an1 ?al1 ?a11 ?am1 ?ab1 ?ah1)
 case aw1=>exact want0
 case as1=>rfl
 case az1=>simp
 case ax1=>rfl
 case an1=>exact news_of hL (b:=bx1) cIn
 case al1=>rfl
 case a11=>simp[Value.oneCell']
 case am1=>unfold maxLen;omega
 case ab1=>omega
 clear hL hA
 intro vA RA wC1 hA hL
 simp only[Nat.zero_add,List.nil_append,List.cons_append,Nat.reduceAdd,List.take_succ_cons,List.take_zero]at hA hL
 go_wp2_with (first|(with_reducible first|refine lld hL ?_|((first|refine lbx hL ?_|refine lal hL ?_|refine lbs hL ?_);clear hL;intro bl w1 hL)|(refine lst' hL ?_;clear hL;intro w1 hL))|((with_reducible refine wp_loop_rounds 5 ?_))|(with_reducible refine rounds_go ?_))
 refine draw_begin [69,70,71,72,73,74,75,76,77,78,79] ?_
 iterate 10 (refine' draw_val ?_ ?_;rotate_left;(focus(intro g w hb q;replace hL:=hL.grow hb;(try simp[depsOf,List.filter_cons,Region.binds,AllR,RAt]at q);simp only[fillD,List.foldl_cons,List.foldl_nil,List.set_cons_succ,List.set_cons_zero];(try simp only[q]);go_wp2_with (first|(with_reducible refine lld hL ?_)|(with_reducible refine ldD hL ?_));exact⟨rfl,_,rfl,Below.refl _ _,rfl⟩));simp only[List.nil_append,List.cons_append])
 refine draw_next (RowP wC1.heap.size 3 1 [.int .i64 (s.hi*t.lo)]) RowP.stable ?_ ?_
 ·intro g w hb q;replace hL:=hL.grow hb;(try simp[depsOf,List.filter_cons,Region.binds,AllR,RAt]at q);simp only[fillD,List.foldl_cons,List.foldl_nil,List.set_cons_succ,List.set_cons_zero]
  (try simp only[q])
  go_wp2
  exact⟨rfl,_,rfl,(Below.refl _ _).alloc (Nat.le_refl _) _,_,hb.size,rfl,heap_new _ _⟩
 simp only[apN,apC]
 refine draw_end hL (by kernel_rfl) (by kernel_rfl) ?_;intro g wB2 hb hR;simp[AllR,RAt,List.range,List.range.loop]at hR;simp only[fillD,List.foldl_cons,List.foldl_nil,List.set_cons_succ,List.set_cons_zero,hR]
 obtain⟨bx2,k1,k2,k3⟩:RowP wC1.heap.size 3 1 [.int .i64 (s.hi*t.lo)] (g 79) wB2:=by simp only[hR]
 replace hL:=hL.gain hb k1 k3
 simp only[k2]
 clear k1 k2 k3
 clear hR hb
 (with_reducible refine' loc_append (news:=[.int .i64 (s.hi*t.lo)]) (ad:=⟨bx2,0,none⟩) (m:=1) (c:=1) hA hL ?aw2 ?as2 (Split.mk 6 rfl) sInts bInt ?az2 ?ax2 ?an2 ?al2 ?a12 ?am2 ?ab2 ?ah2)
 case aw2=>exact want0
 case as2=>rfl
 case az2=>simp
 case ax2=>rfl
 case an2=>exact news_of hL (b:=bx2) cIn
 case al2=>rfl
 case a12=>simp[Value.oneCell']
 case am2=>unfold maxLen;omega
 case ab2=>omega
 clear hL hA
 intro vA RA wC2 hA hL
 simp only[Nat.zero_add,List.nil_append,List.cons_append,Nat.reduceAdd,List.take_succ_cons,List.take_zero]at hA hL
 go_wp2_with (first|(with_reducible first|refine lld hL ?_|((first|refine lbx hL ?_|refine lal hL ?_|refine lbs hL ?_);clear hL;intro bl w1 hL)|(refine lst' hL ?_;clear hL;intro w1 hL))|((with_reducible refine wp_loop_rounds 5 ?_))|(with_reducible refine rounds_go ?_))
 refine draw_begin [69,70,71,72,73,74,75,76,77,78,79] ?_
 iterate 10 (refine' draw_val ?_ ?_;rotate_left;(focus(intro g w hb q;replace hL:=hL.grow hb;(try simp[depsOf,List.filter_cons,Region.binds,AllR,RAt]at q);simp only[fillD,List.foldl_cons,List.foldl_nil,List.set_cons_succ,List.set_cons_zero];(try simp only[q]);go_wp2_with (first|(with_reducible refine lld hL ?_)|(with_reducible refine ldD hL ?_));exact⟨rfl,_,rfl,Below.refl _ _,rfl⟩));simp only[List.nil_append,List.cons_append])
 refine draw_next (RowP wC2.heap.size 3 1 [.int .i64 (s.hi*t.hi)]) RowP.stable ?_ ?_
 ·intro g w hb q;replace hL:=hL.grow hb;(try simp[depsOf,List.filter_cons,Region.binds,AllR,RAt]at q);simp only[fillD,List.foldl_cons,List.foldl_nil,List.set_cons_succ,List.set_cons_zero]
  (try simp only[q])
  go_wp2
  exact⟨rfl,_,rfl,(Below.refl _ _).alloc (Nat.le_refl _) _,_,hb.size,rfl,heap_new _ _⟩
 simp only[apN,apC]
 refine draw_end hL (by kernel_rfl) (by kernel_rfl) ?_;intro g wB3 hb hR;simp[AllR,RAt,List.range,List.range.loop]at hR;simp only[fillD,List.foldl_cons,List.foldl_nil,List.set_cons_succ,List.set_cons_zero,hR]
 obtain⟨bx3,k1,k2,k3⟩:RowP wC2.heap.size 3 1 [.int .i64 (s.hi*t.hi)] (g 79) wB3:=by simp only[hR]
 replace hL:=hL.gain hb k1 k3
 simp only[k2]
 clear k1 k2 k3
 clear hR hb
 (with_reducible refine' loc_append (news:=[.int .i64 (s.hi*t.hi)]) (ad:=⟨bx3,0,none⟩) (m:=1) (c:=1) hA hL ?aw3 ?as3 (Split.mk 7 rfl) sInts bInt ?az3 ?ax3 ?an3 ?al3 ?a13 ?am3 ?ab3 ?ah3)
 case aw3=>exact want0
 case as3=>rfl
 case az3=>simp
 case ax3=>rfl
 case an3=>exact news_of hL (b:=bx3) cIn
 case al3=>rfl
 case a13=>simp[Value.oneCell']
 case am3=>unfold maxLen;omega
 case ab3=>omega
 clear hL hA
 intro vA RA wC3 hA hL
 simp only[Nat.zero_add,List.nil_append,List.cons_append,Nat.reduceAdd,List.take_succ_cons,List.take_zero]at hA hL
 go_wp2_with (first|(with_reducible first|refine lld hL ?_|((first|refine lbx hL ?_|refine lal hL ?_|refine lbs hL ?_);clear hL;intro bl w1 hL)|(refine lst' hL ?_;clear hL;intro w1 hL))|((with_reducible refine wp_loop_rounds 5 ?_))|(with_reducible refine rounds_go ?_))
 obtain⟨gA,capA,rfl,y0,y1,y2,y3⟩:=row4 hA hL (Split.mk 7 rfl)
 obtain⟨hmn,hmx,hF⟩:=Hmm.out
 have hle:=least4 gA 0 capA _ _ _ _ wC3 y0 y1 y2 y3
 have hmo:=most4 gA 0 capA _ _ _ _ wC3 y0 y1 y2 y3
 rw[hmn]at hle
 rw[hmx]at hmo
 have HLE:=Lib.hid hle
 have HMO:=Lib.hid hmo
 clear hle hmo y0 y1 y2 y3 hmn hmx
 refine HLE.out.mono ?_
 rintro e w' ⟨rfl,rfl⟩;dsimp only
 have HF:=Lib.hid hF
 by_cases hck:checkSpan ⟨false,mn,mx⟩=0
 ·have HC:=Lib.hid (fun w=>(by have h:=rCheck_any ⟨false,mn,mx⟩ w;rw[hck]at h;exact h:Calls Tryz.prog 177 #[Span.v ⟨false,mn,mx⟩] w fun e w'=>e=.returned (.int .i64 0)∧Below w.heap.size w w'))
  have HK:=Lib.hid hck
  clear hck hF
  go_wp2_with (first|(with_reducible first|refine lld hL ?_|((first|refine lbx hL ?_|refine lal hL ?_|refine lbs hL ?_);clear hL;intro bl w1 hL)|(refine lst' hL ?_;clear hL;intro w1 hL))|(go_at_call 176;refine HMO.out.mono ?_;rintro e w' ⟨rfl,rfl⟩;dsimp only)|(go_at_call 177;refine(HC.out _).mono ?_;rintro e w1 ⟨rfl,hb⟩;replace hL:=hL.grow hb;clear hb;dsimp only))
  (try simp only[Exit.inBlock,Exit.then]);refine rt1 ?_
  exact⟨by rw[HF.out,if_pos HK.out],hL.below⟩
 ·have hne:(checkSpan ⟨false,mn,mx⟩ != 0)=true:=by simp[hck]
  have hc:=rCheck_any ⟨false,mn,mx⟩
  have HK:=Lib.hid hck
  generalize checkSpan ⟨false,mn,mx⟩=ck at hne hc
  have HC:=Lib.hid hc
  clear hck hF hc
  go_wp2_with (first|(with_reducible first|refine lld hL ?_|((first|refine lbx hL ?_|refine lal hL ?_|refine lbs hL ?_);clear hL;intro bl w1 hL)|(refine lst' hL ?_;clear hL;intro w1 hL))|(go_at_call 176;refine HMO.out.mono ?_;rintro e w' ⟨rfl,rfl⟩;dsimp only)|(go_at_call 177;refine(HC.out _).mono ?_;rintro e w1 ⟨rfl,hb⟩;replace hL:=hL.grow hb;clear hb;dsimp only))
  (try simp only[Exit.inBlock,Exit.then]);refine rt1 ?_
  exact⟨by rw[HF.out,if_neg HK.out],hL.below⟩
end Go.Proofs.YtplcndmdkabmeaaGreatDoor
