/- The walk over the reference's DoSpan. Conditions: the spans are right. -/
import Derived.Test.YtplcndmdkabmeaaGreatDoorCod
import Derived.Deep.QuietTactic
import Derived.BigQuiet
import Derived.Test.YtplcndmdkabmeaaGreatDoorLib
set_option linter.unusedSimpArgs false
set_option linter.unusedVariables false
set_option maxRecDepth 100000
set_option maxHeartbeats 4000000
namespace Go.Proofs.YtplcndmdkabmeaaGreatDoor
open Go.Proofs.Tryz
open Go.RowKit
theorem VP (n:Int) (w:World):
  Calls prog 226 #[.int .i64 n] w fun e g=>e=.returned (.bool (jd n))∧w=g:=by
 by_cases i:-2147483648<=n
 all_goals
  go_enter func226,ntmps226;go_wp2;go_ret;exact⟨by simp[jd];omega,rfl⟩
theorem zem (s:zm) (w:World):
  Calls prog 185 #[s.v] w fun e g=>e=.returned (.int .i64 (zh s))∧Below w.heap.size w g:=by
 have J:=Loc.start w;go_enter func185,ntmps185;go_wp2_with (first|(with_reducible first|refine lld J ?_|(refine lbx J ?_;clear J;intro i j J))|(go_at_call 226;refine cg0 (VP _ _) ?_;dsimp only))
 all_goals
  refine rt1 ?_;exact⟨by simp_all [zh],J.below⟩
theorem yv (a b:Int) (w:World):
  Calls prog 106 #[.int .i64 a,.int .i64 b] w fun e g=>e=.returned (zm.v ⟨false,a,b⟩)∧Below w.heap.size w g:=by
 have J:=Loc.start w;go_enter func106,ntmps106;go_wp2_with (first|((with_reducible refine lal J ?_);clear J;intro j i J)|(refine zc J ?_;clear J;intro i J))
 all_goals
  refine rt1 ?_;exact⟨by rfl,J.below⟩
theorem JW  (w:World):
  Calls prog 181 #[] w fun e g=>e=.returned (zA.v)∧Below w.heap.size w g:=by
 have J:=Loc.start w;go_enter func181,ntmps181;go_wp2_with (first|((with_reducible refine lal J ?_);clear J;intro j i J)|(refine zc J ?_;clear J;intro i J))
 all_goals
  refine rt1 ?_;exact⟨by rfl,J.below⟩
theorem Qy (s t:zm) (w:World):
  Calls prog 60 #[s.v,t.v] w fun e i=>e=.returned ((both s t).v)∧Below w.heap.size w i:=by
 have J:=Loc.start w;go_enter func60,ntmps60;go_wp2_with (first|(with_reducible first|refine lld J ?_|((first|refine lbx J ?_|refine lal J ?_);clear J;intro j g J)|(refine zc J ?_;clear J;intro g J))|(go_at_call 106;refine cg J (yv _ _ _) ?_;clear J;intro g J;dsimp only))
 all_goals
  refine rt1 ?_;exact⟨by simp[both, *]<;>omega,J.below⟩
theorem zfC (s:zm) (n:Int) (w:World):
  Calls prog 182 #[s.v,.int .i64 n] w fun e g=>e=.returned (.bool (jE s n))∧Below w.heap.size w g:=by
 have J:=Loc.start w;go_enter func182,ntmps182;go_wp2_with (with_reducible first|refine lld J ?_|(refine lbx J ?_;clear J;intro i j J))
 all_goals
  refine rt1 ?_;exact⟨by simp_all [jE]<;>omega,J.below⟩
theorem zch (s t:zm) (w:World):
  Calls prog 190 #[s.v,t.v] w fun e g=>e=.returned (.bool (yt s t))∧Below w.heap.size w g:=by
 have J:=Loc.start w;go_enter func190,ntmps190;go_wp2_with (with_reducible first|refine lld J ?_|(refine lbx J ?_;clear J;intro i j J))
 all_goals
  refine rt1 ?_;exact⟨by simp_all [yt]<;>omega,J.below⟩
theorem VQ (s t:zm) (w:World):
  Calls prog 203 #[s.v,t.v] w fun e i=>e=.returned ((q4 s t).v)∧Below w.heap.size w i:=by
 have J:=Loc.start w;go_enter func203,ntmps203;go_wp2_with (first|(with_reducible first|refine lld J ?_|((first|refine lbx J ?_|refine lal J ?_);clear J;intro j g J)|(refine zc J ?_;clear J;intro g J))|(go_at_call 106;refine cg J (yv _ _ _) ?_;clear J;intro g J;dsimp only)|(go_at_call 181;refine cg J (JW _) ?_;clear J;intro g J;dsimp only))
 all_goals
  refine rt1 ?_;exact⟨by simp[q4, *]<;>(try (split<;>simp<;>omega)),J.below⟩
theorem X1 (s t:zm) (w:World):
  Calls prog 61 #[s.v,t.v] w fun e i=>e=.returned ((jf s t).v)∧Below w.heap.size w i:=by
 have J:=Loc.start w;go_enter func61,ntmps61;go_wp2_with (first|(with_reducible first|refine lld J ?_|((first|refine lbx J ?_|refine lal J ?_);clear J;intro j g J)|(refine zc J ?_;clear J;intro g J))|(go_at_call 60;refine cg J (Qy _ _ _) ?_;clear J;intro g J;dsimp only))
 all_goals
  refine rt1 ?_;exact⟨by simp[jf,both, *]<;>omega,J.below⟩
theorem zfD (g:Array TypeId) (t:TypeId) (P:Program) (x y z u:Int) (w:World):(Builtin.min_ g t #[.int .i64 x,.int .i64 y,.int .i64 z,.int .i64 u]).run P w=.ok (.int .i64 (K0 x y z u)) w:=by
 simp[Builtin.min_,Builtin.min2,K0,min2];rfl
theorem zfE (g:Array TypeId) (t:TypeId) (P:Program) (x y z u:Int) (w:World):(Builtin.max_ g t #[.int .i64 x,.int .i64 y,.int .i64 z,.int .i64 u]).run P w=.ok (.int .i64 (K1 x y z u)) w:=by
 simp[Builtin.max_,Builtin.max2,K1,max2]
def Yh (s:zm):Prop:=-2147483648<=s.lo∧s.lo<=2147483647∧-2147483648<=s.hi∧s.hi<=2147483647
theorem yS {a b:Int}(p:-2147483648<=a) (t:a<=2147483647) (h3:-2147483648<=b) (C:b<=2147483647):-4611686018427387904<=a*b∧a*b<=4611686018427387904:=by
 have g:(a+2147483648)*(b+2147483648) >= 0:=Int.mul_nonneg (by omega) (by omega);have i:(2147483647 - a)*(2147483647 - b) >= 0:=Int.mul_nonneg (by omega) (by omega);have j:(a+2147483648)*(2147483647 - b) >= 0:=Int.mul_nonneg (by omega) (by omega);have o:(2147483647 - a)*(b+2147483648) >= 0:=Int.mul_nonneg (by omega) (by omega);simp only[Int.add_mul,Int.mul_add,Int.sub_mul,Int.mul_sub]at g i j o;omega
theorem zfF (s t:zm) (g:Yh s) (i:Yh t) (ah:s.none=false) (ht:t.none=false) (w:World):
  Calls prog 234 #[.int .i64 7,s.v,t.v] w fun e p=>e=.returned (made 7 s t).v∧Below w.heap.size w p:=by
 have C:=yS g.1 g.2.1 i.1 i.2.1;have I:=yS g.1 g.2.1 i.2.2.1 i.2.2.2;have P:=yS g.2.2.1 g.2.2.2 i.1 i.2.1;have R:=yS g.2.2.1 g.2.2.2 i.2.2.1 i.2.2.2;have ai:=zfD #[3,3,3,3] 3 prog;have aj:=zfE #[3,3,3,3] 3 prog;obtain⟨T,U,aa,ab⟩:=g;obtain⟨ad,ae,af,ag⟩:=i;have J:=Loc.start w;go_enter func234,ntmps234;go_wp2_with (first|(with_reducible first|refine lld J ?_|((first|refine lbx J ?_|refine lal J ?_);clear J;intro ac j J)|(refine zc J ?_;clear J;intro j J))|(go_at_call 106;refine cg J (yv _ _ _) ?_;clear J;intro j J;dsimp only))
 (have o:=J.all;simp only[List.forall_mem_cons,List.forall_mem_nil,and_true]at o;go_quiet (fail);clear o;rename_i nq;replace J:=J.grow (below_drewN (Below.refl _ _) nq);generalize World.drewN _ nq=j at J ⊢;clear nq)
 go_wp2_with (first|(with_reducible first|refine lld J ?_|(refine zc J ?_;clear J;intro j J))|(go_at_call 106;refine cg J (yv _ _ _) ?_;clear J;intro j J;dsimp only)|(go_at_call 226;refine cg0 (VP _ _) ?_;dsimp only))
 all_goals
  refine rt1 ?_;exact⟨by simp_all [made,jx],J.below⟩
theorem zen (k:Int) (s t:zm) (h:(s.none || t.none)=true) (w:World):
  Calls prog 234 #[.int .i64 k,s.v,t.v] w fun e p=>e=.returned (made k s t).v∧Below w.heap.size w p:=by
 have J:=Loc.start w;cases i:s.none
 ·have o:t.none=true:=by simpa [i] using h
  clear h;go_enter func234,ntmps234;go_wp2_with (first|(with_reducible first|refine lld J ?_|((first|refine lbx J ?_|refine lal J ?_);clear J;intro j g J)|(refine zc J ?_;clear J;intro g J))|(go_at_call 106;refine cg J (yv _ _ _) ?_;clear J;intro g J;dsimp only)|(go_at_call 181;refine cg J (JW _) ?_;clear J;intro g J;dsimp only)|(go_at_call 226;refine cg0 (VP _ _) ?_;dsimp only));refine rt1 ?_;exact⟨by simp[made,i,o],J.below⟩
 ·clear h
  go_enter func234,ntmps234;go_wp2_with (first|(with_reducible first|refine lld J ?_|((first|refine lbx J ?_|refine lal J ?_);clear J;intro j g J)|(refine zc J ?_;clear J;intro g J))|(go_at_call 106;refine cg J (yv _ _ _) ?_;clear J;intro g J;dsimp only)|(go_at_call 181;refine cg J (JW _) ?_;clear J;intro g J;dsimp only)|(go_at_call 226;refine cg0 (VP _ _) ?_;dsimp only));refine rt1 ?_;exact⟨by simp[made,i],J.below⟩
theorem za0 (k:Int) (hk:k=5∨k=6) (s t:zm) (i:Yh s) (j:Yh t) (ac:s.none=false) (ht:t.none=false) (w:World):
  Calls prog 234 #[.int .i64 k,s.v,t.v] w fun e o=>e=.returned (made k s t).v∧Below w.heap.size w o:=by
 obtain⟨p,C,I,P⟩:=i;obtain⟨T,U,aa,ab⟩:=j;have J:=Loc.start w;rcases hk with rfl|rfl
 all_goals
  go_enter func234,ntmps234;go_wp2_with (first|(with_reducible first|refine lld J ?_|((first|refine lbx J ?_|refine lal J ?_);clear J;intro R g J)|(refine zc J ?_;clear J;intro g J))|(go_at_call 106;refine cg J (yv _ _ _) ?_;clear J;intro g J;dsimp only)|(go_at_call 181;refine cg J (JW _) ?_;clear J;intro g J;dsimp only)|(go_at_call 226;refine cg0 (VP _ _) ?_;dsimp only))
  all_goals
   refine rt1 ?_;exact⟨by simp_all [made,jx],J.below⟩
theorem zfG (k:Int) (hk:k=5∨k=6∨k=7) (s t:zm) (g:Yh s) (i:Yh t) (w:World):
  Calls prog 234 #[.int .i64 k,s.v,t.v] w fun e j=>e=.returned (made k s t).v∧Below w.heap.size w j:=by
 by_cases h:(s.none || t.none)=true
 ·exact zen k s t h w
 ·simp only[Bool.or_eq_true,not_or,Bool.not_eq_true]at h
  rcases hk with hk|hk|hk
  ·exact za0 k (.inl hk) s t g i h.1 h.2 w
  ·exact za0 k (.inr hk) s t g i h.1 h.2 w
  ·subst hk;exact zfF s t g i h.1 h.2 w
theorem GN {s:zm}(h:zh s=0):Yh s:=by
 unfold zh at h;by_cases g:(!jd s.lo || !jd s.hi)=true
 ·rw[if_pos g]at h;cases h
 ·simp only[Bool.or_eq_true,Bool.not_eq_true',not_or,Bool.not_eq_false]at g
  have i:=j9.1 g.1;have j:=j9.1 g.2;exact⟨i.1,i.2,j.1,j.2⟩
theorem zci (n:Int):zU n (-2147483648) 2147483647=jd n:=rfl
theorem Qe (s:zm) (w:World):
  Calls prog 177 #[s.v] w fun e g=>e=.returned (.int .i64 (zh s))∧Below w.heap.size w g:=by
 have J:=Loc.start w;go_enter func177,ntmps177;go_wp2_with (first|(with_reducible first|refine lld J ?_|(refine lbx J ?_;clear J;intro i j J))|(go_at_call 54;refine cg0 (qi _ _ _ _) ?_;dsimp only;try simp only[zci]))
 all_goals
  refine rt1 ?_;exact⟨by simp_all [zh],J.below⟩
theorem zdd (s:zm) (n:Int) (w:World):
  Calls prog 80 #[s.v,.int .i64 n] w fun e g=>e=.returned (.bool (jE s n))∧Below w.heap.size w g:=by
 have J:=Loc.start w;go_enter func80,ntmps80;go_wp2_with (first|(with_reducible first|refine lld J ?_|(refine lbx J ?_;clear J;intro i j J))|(go_at_call 54;refine cg0 (qi _ _ _ _) ?_;dsimp only))
 all_goals
  refine rt1 ?_;exact⟨by simp_all [jE,zU],J.below⟩
theorem zcj (b o cap:Nat) (g i:Int) (w:World) (p:w.cell? ⟨b,o,none⟩=some (.int .i64 g)) (t:w.cell? ⟨b,o+1,none⟩=some (.int .i64 i)):
  Calls prog 175 #[.slice (some ⟨b,o,none⟩) 2 cap] w fun e j=>e=.returned (.int .i64 (min2 g i))∧w=j:=by
 go_enter func175,ntmps175;go_wp2_with (first|((with_reducible refine wp_loop_rounds 5 ?_))|(with_reducible refine qm ?_))
 all_goals
  go_ret;exact⟨by simp_all [min2];try omega,rfl⟩
theorem zck (b o cap:Nat) (g i j p:Int) (w:World) (C:w.cell? ⟨b,o,none⟩=some (.int .i64 g)) (I:w.cell? ⟨b,o+1,none⟩=some (.int .i64 i))
  (P:w.cell? ⟨b,o+2,none⟩=some (.int .i64 j)) (R:w.cell? ⟨b,o+3,none⟩=some (.int .i64 p)):
  Calls prog 175 #[.slice (some ⟨b,o,none⟩) 4 cap] w fun e t=>e=.returned (.int .i64 (K0 g i j p))∧w=t:=by
 go_enter func175,ntmps175;go_wp2_with (first|((with_reducible refine wp_loop_rounds 5 ?_))|(with_reducible refine qm ?_))
 all_goals
  go_ret;exact⟨by simp_all [K0,min2];try omega,rfl⟩
theorem zfH (b o cap:Nat) (g i:Int) (w:World) (p:w.cell? ⟨b,o,none⟩=some (.int .i64 g)) (t:w.cell? ⟨b,o+1,none⟩=some (.int .i64 i)):
  Calls prog 176 #[.slice (some ⟨b,o,none⟩) 2 cap] w fun e j=>e=.returned (.int .i64 (max2 g i))∧w=j:=by
 go_enter func176,ntmps176;go_wp2_with (first|((with_reducible refine wp_loop_rounds 5 ?_))|(with_reducible refine qm ?_))
 all_goals
  go_ret;exact⟨by simp_all [max2];try omega,rfl⟩
theorem zfI (b o cap:Nat) (g i j p:Int) (w:World) (C:w.cell? ⟨b,o,none⟩=some (.int .i64 g)) (I:w.cell? ⟨b,o+1,none⟩=some (.int .i64 i))
  (P:w.cell? ⟨b,o+2,none⟩=some (.int .i64 j)) (R:w.cell? ⟨b,o+3,none⟩=some (.int .i64 p)):
  Calls prog 176 #[.slice (some ⟨b,o,none⟩) 4 cap] w fun e t=>e=.returned (.int .i64 (K1 g i j p))∧w=t:=by
 go_enter func176,ntmps176;go_wp2_with (first|((with_reducible refine wp_loop_rounds 5 ?_))|(with_reducible refine qm ?_))
 all_goals
  go_ret;exact⟨by simp_all [K1,max2];try omega,rfl⟩
theorem Uf (s t:zm) (w:World):
  Calls prog 119 #[s.v,t.v,.bool false] w fun e ab=>e=.returned ((both s t).v)∧Below w.heap.size w ab:=by
 have J:=Loc.start w;go_enter func119,ntmps119;go_wp2_with (with_reducible first|refine lld J ?_|((first|refine lbx J ?_|refine lal J ?_|refine lbs J ?_);clear J;intro aa o J)|(refine zc J ?_;clear J;intro o J))
 ·(try simp only[Exit.inBlock,Exit.then]);refine rt1 ?_
  exact⟨by simp_all [both],J.below⟩
 ·(try simp only[Exit.inBlock,Exit.then]);refine rt1 ?_
  exact⟨by simp_all [both],J.below⟩
 have C:s.none=false:=by assumption
 have I:t.none=false:=by assumption
 simp only[C,I];refine zb [14,15,16,17,18,19,20,21,22,23,24,25,26,7] ?_
 iterate 4 refine qdv ?_
 refine qdw ?_;refine' j2 J ?_ ?_;rotate_left
 ·intro p w i J V _;obtain⟨b,-,j,g⟩:=yr V 4;clear V;simp only[fD];simp only[j]
  go_wp2_with (go_at_call 175;refine cg0 (zcj _ _ _ _ _ _ (zP g 0 rfl) (zP g 1 rfl)) ?_;dsimp only);exact⟨rfl,_,rfl,Below.refl _ _,rfl⟩
 iterate 4 refine qdv ?_
 refine qdw ?_;refine' j2 J ?_ ?_;rotate_left
 ·intro p w i J V _;obtain⟨b,-,j,g⟩:=yr V 10;clear V;simp only[fD];simp only[j]
  go_wp2_with (go_at_call 176;refine cg0 (zfH _ _ _ _ _ _ (zP g 0 rfl) (zP g 1 rfl)) ?_;dsimp only);exact⟨rfl,_,rfl,Below.refl _ _,rfl⟩
 refine qdv ?_;refine qdp ?_;refine qy J ?_;intro p ad i P q;simp only[aG]at q;simp only[fD];simp only[q];clear q;obtain⟨ac,R,T,U⟩:=qye P 13;replace J:=J.gain i R U;simp only[T];clear R T U;clear P i C I;go_wp2_with (with_reducible first|refine lld J ?_|((first|refine lbx J ?_|refine lal J ?_|refine lbs J ?_);clear J;intro aa o J)|(refine zc J ?_;clear J;intro o J))
 all_goals
  (try simp only[Exit.inBlock,Exit.then]);refine rt1 ?_
  exact⟨by simp_all [both,min2,max2]<;>(first|omega|(split<;>omega)|(split<;>split<;>omega)),J.below⟩
theorem zcl (s t:zm) (w:World):
  Calls prog 119 #[s.v,t.v,.bool true] w fun e ab=>e=.returned ((jf s t).v)∧Below w.heap.size w ab:=by
 have J:=Loc.start w;go_enter func119,ntmps119;go_wp2_with (with_reducible first|refine lld J ?_|((first|refine lbx J ?_|refine lal J ?_|refine lbs J ?_);clear J;intro aa o J)|(refine zc J ?_;clear J;intro o J))
 ·(try simp only[Exit.inBlock,Exit.then]);refine rt1 ?_
  exact⟨by simp_all [jf,both],J.below⟩
 ·(try simp only[Exit.inBlock,Exit.then]);refine rt1 ?_
  exact⟨by simp_all [jf,both],J.below⟩
 have C:s.none=false:=by assumption
 have I:t.none=false:=by assumption
 simp only[C,I];refine zb [14,15,16,17,18,19,20,21,22,23,24,25,26,7] ?_
 iterate 4 refine qdv ?_
 refine qdw ?_;refine' j2 J ?_ ?_;rotate_left
 ·intro p w i J V _;obtain⟨b,-,j,g⟩:=yr V 4;clear V;simp only[fD];simp only[j]
  go_wp2_with (go_at_call 175;refine cg0 (zcj _ _ _ _ _ _ (zP g 0 rfl) (zP g 1 rfl)) ?_;dsimp only);exact⟨rfl,_,rfl,Below.refl _ _,rfl⟩
 iterate 4 refine qdv ?_
 refine qdw ?_;refine' j2 J ?_ ?_;rotate_left
 ·intro p w i J V _;obtain⟨b,-,j,g⟩:=yr V 10;clear V;simp only[fD];simp only[j]
  go_wp2_with (go_at_call 176;refine cg0 (zfH _ _ _ _ _ _ (zP g 0 rfl) (zP g 1 rfl)) ?_;dsimp only);exact⟨rfl,_,rfl,Below.refl _ _,rfl⟩
 refine qdv ?_;refine qdp ?_;refine qy J ?_;intro p ad i P q;simp only[aG]at q;simp only[fD];simp only[q];clear q;obtain⟨ac,R,T,U⟩:=qye P 13;replace J:=J.gain i R U;simp only[T];clear R T U;clear P i C I;go_wp2_with (with_reducible first|refine lld J ?_|((first|refine lbx J ?_|refine lal J ?_|refine lbs J ?_);clear J;intro aa o J)|(refine zc J ?_;clear J;intro o J))
 all_goals
  (try simp only[Exit.inBlock,Exit.then]);refine rt1 ?_
  exact⟨by simp_all [jf,both,min2,max2]<;>(first|omega|(split<;>omega)|(split<;>split<;>omega)),J.below⟩
def Z8 (n:Int):Int:=if n % 4294967296 > 2147483647 then n % 4294967296 - 4294967296 else n % 4294967296
theorem zcm {n:Int}(g:-2147483648<=n) (i:n<=2147483647):Z8 n=n:=by
 unfold Z8;split<;>omega
theorem zu {s:zm}(h:zh s=0):Yh s∧s.lo<=s.hi∧(s.none=true->s.lo=0∧s.hi=0):=by
 refine⟨GN h,?_⟩;have p:=GN h;unfold zh at h;by_cases i:(!jd s.lo || !jd s.hi)=true
 ·rw[if_pos i]at h;cases h
 ·rw[if_neg i]at h
  by_cases g:(s.none&&(s.lo != 0 || s.hi != 0))=true
  ·rw[if_pos g]at h;cases h
  ·rw[if_neg g]at h
   by_cases j:s.hi<s.lo
   ·rw[if_pos j]at h;cases h
   ·refine⟨by omega,fun o=>?_⟩
    simp[o]at g;exact g
theorem QM {s:zm}(C:Yh s) (P:s.lo<=s.hi) (hn:s.none=true->s.lo=0∧s.hi=0):zh s=0:=by
 obtain⟨j,o,p,t⟩:=C;unfold zh;have g:jd s.lo=true:=j9.2 ⟨j,o⟩;have i:jd s.hi=true:=j9.2 ⟨p,t⟩;simp only[g,i,Bool.not_true,Bool.or_self,Bool.false_eq_true,if_false];cases I:s.none with
 | false=>simp;omega
 | true=>obtain⟨a,b⟩:=hn I;simp[a,b]
theorem ZL {a b l h:Int}(i:l<=a) (j:a<=h):min (l*b) (h*b)<=a*b∧a*b<=max (l*b) (h*b):=by
 rcases Int.le_total 0 b with g|g
 ·have o:=Int.mul_le_mul_of_nonneg_right i g
  have p:=Int.mul_le_mul_of_nonneg_right j g;omega
 ·have o:=Int.mul_le_mul_of_nonpos_right i g
  have p:=Int.mul_le_mul_of_nonpos_right j g;omega
theorem zie {a b l h m k:Int}(o:l<=a) (p:a<=h) (h3:m<=b) (g:b<=k):
  K0 (l*m) (l*k) (h*m) (h*k)<=a*b∧a*b<=K1 (l*m) (l*k) (h*m) (h*k):=by
 have t:=ZL (b:=b) o p;have i:=ZL (b:=l) h3 g;have j:=ZL (b:=h) h3 g;simp only[Int.mul_comm _ l,Int.mul_comm _ h]at i j;unfold K0 K1 min2 max2;constructor
 ·split<;>split<;>split<;>omega
 ·split<;>split<;>split<;>omega
def Zf (k a b:Int):Int:=if k=6 then a - b else if k=7 then a*b else a+b
theorem zfJ {k:Int}{s t:zm}{a b:Int}(j:s.lo<=a) (o:a<=s.hi) (h3:t.lo<=b) (p:b<=t.hi):(jx k s t).1<=Zf k a b∧Zf k a b<=(jx k s t).2:=by
 unfold jx Zf;by_cases g:k=6
 ·simp only[g,if_true];omega
 ·by_cases i:k=7
  ·simp only[i,if_true,if_neg (show ¬ (7:Int)=6 by decide)]
   exact zie j o h3 p
  ·simp only[if_neg g,if_neg i];omega
theorem Xo (n:Int):-2147483648<=Z8 n∧Z8 n<=2147483647:=by
 unfold Z8;split<;>omega
theorem zcn {k:Int}{s t:zm}{a b:Int}(T:s.none=false) (ht:t.none=false) (I:s.lo<=a) (P:a<=s.hi) (h3:t.lo<=b) (R:b<=t.hi):
  zh (made k s t)=0∧jE (made k s t) (Z8 (Zf k a b))=true:=by
 have g:=zfJ (k:=k) I P h3 R;unfold made;simp only[T,ht,Bool.or_self,Bool.false_eq_true,if_false];by_cases h:(jd (jx k s t).1&&jd (jx k s t).2)=true
 ·rw[if_pos h]
  simp only[Bool.and_eq_true,j9]at h;obtain⟨⟨j,o⟩,p,C⟩:=h;refine⟨QM ⟨j,o,p,C⟩ (by show (jx k s t).1<=(jx k s t).2;omega) (by simp),?_⟩;rw[zcm (by omega) (by omega)];simp[jE,g.1,g.2]
 ·rw[if_neg h]
  have i:=Xo (Zf k a b);refine⟨rfl,?_⟩;simp[jE,i.1,i.2]
theorem GO {s t:zm}(g:zh s=0) (ht:zh t=0):zh (both s t)=0:=by
 unfold both;cases aa:s.none with
 | true=>simpa using ht
 | false=>
  cases ab:t.none with
  | true=>simpa using g
  | false=>
   obtain⟨⟨i,j,o,p⟩,C,_⟩:=zu g;obtain⟨⟨I,P,R,T⟩,U,_⟩:=zu ht;exact QM (by simp[Yh];omega) (by simp;omega) (by simp)
theorem zfK {s t:zm}(i:zh s=0) (ht:zh t=0):zh (jf s t)=0∧yt s (jf s t)=true:=by
 unfold jf;cases g:s.none with
 | true=>exact⟨by simpa using GO i ht,by simp[yt,g]⟩
 | false=>
  obtain⟨⟨o,p,C,I⟩,P,_⟩:=zu i;cases j:t.none with
  | true=>exact⟨by simpa using GO i ht,by simp[both,g,j,yt]⟩
  | false=>
   obtain⟨⟨R,T,U,aa⟩,ab,_⟩:=zu ht;refine⟨?_,?_⟩
   ·simp only[Bool.or_self,Bool.false_eq_true,if_false]
    refine QM ?_ ?_ (by simp)
    ·refine⟨?_,?_,?_,?_⟩<;>dsimp only<;>split<;>omega
    ·dsimp only;split<;>split<;>omega
   ·simp only[Bool.or_self,Bool.false_eq_true,if_false,yt,g,Bool.not_false,Bool.true_and,Bool.false_or,Bool.and_eq_true,decide_eq_true_eq]
    constructor<;>split<;>omega
def pot (s:zm):Nat:=(if s.lo=-2147483648 then 1 else 0)+(if s.hi=2147483647 then 1 else 0)
theorem zif (s:zm):pot s<=2:=by unfold pot;split<;>split<;>omega
def ziM (s:zm) (g:Nat):Prop:=g=0∨(s.none=false∧g<=pot s)
theorem ziM.le {s:zm}{g:Nat}(h:ziM s g):g<=2:=by
 rcases h with h|h
 ·omega
 ·exact Nat.le_trans h.2 (zif s)
theorem zeo {s t:zm}(j:s.none=false) (o:t.none=false):q4 s t=if min2 s.hi t.hi<max2 s.lo t.lo then zA else ⟨false,max2 s.lo t.lo,min2 s.hi t.hi⟩:=by
 have g:min s.hi t.hi=min2 s.hi t.hi:=by unfold min2;split<;>omega
 have i:max s.lo t.lo=max2 s.lo t.lo:=by unfold max2;split<;>omega
 simp[q4,j,o,g,i]
theorem zep (s t:zm) (w:World):
  Calls prog 121 #[s.v,t.v] w fun e ad=>e=.returned ((q4 s t).v)∧Below w.heap.size w ad:=by
 have J:=Loc.start w;go_enter func121,ntmps121;go_wp2_with (with_reducible first|refine lld J ?_|((first|refine lbx J ?_|refine lal J ?_|refine lbs J ?_);clear J;intro ac I J)|(refine zc J ?_;clear J;intro I J))
 ·(try simp only[Exit.inBlock,Exit.then]);refine rt1 ?_
  exact⟨by simp_all [q4],J.below⟩
 ·(try simp only[Exit.inBlock,Exit.then]);refine rt1 ?_
  exact⟨by simp_all [q4],J.below⟩
 have p:s.none=false:=by first|assumption|exact Bool.eq_false_iff.2 (by assumption)
 have C:t.none=false:=by first|assumption|exact Bool.eq_false_iff.2 (by assumption)
 simp only[p,C];refine zb [13,14,15,16,17,18,19,20,21,22,23,24,25,5] ?_
 iterate 4 refine qdv ?_
 refine qdw ?_;refine' j2 J ?_ ?_;rotate_left
 ·intro P w i J V _;obtain⟨b,-,o,g⟩:=yr V 4;clear V;simp only[fD];simp only[o]
  go_wp2_with (go_at_call 176;refine cg0 (zfH _ _ _ _ _ _ (zP g 0 rfl) (zP g 1 rfl)) ?_;dsimp only);exact⟨rfl,_,rfl,Below.refl _ _,rfl⟩
 iterate 4 refine qdv ?_
 refine qdw ?_;refine' j2 J ?_ ?_;rotate_left
 ·intro P w i J V _;obtain⟨b,-,o,g⟩:=yr V 10;clear V;simp only[fD];simp only[o]
  go_wp2_with (go_at_call 175;refine cg0 (zcj _ _ _ _ _ _ (zP g 0 rfl) (zP g 1 rfl)) ?_;dsimp only);exact⟨rfl,_,rfl,Below.refl _ _,rfl⟩
 refine qdv ?_;refine qdp ?_;refine qy J ?_;intro P af i R q;simp only[aG]at q;simp only[fD];simp only[q];clear q;obtain⟨ae,T,U,aa⟩:=qye R 13;replace J:=J.gain i T aa;simp only[U];clear T U aa;have ab:=za (zeo p C);clear R i p C;go_wp2_with (with_reducible first|refine lld J ?_|((first|refine lbx J ?_|refine lal J ?_|refine lbs J ?_);clear J;intro ac I J)|(refine zc J ?_;clear J;intro I J))
 all_goals
  (try simp only[Exit.inBlock,Exit.then]);refine rt1 ?_
  refine⟨?_,J.below⟩;rw[ab.out];by_cases j:min2 s.hi t.hi<max2 s.lo t.lo
  ·first|(rw[if_pos j];done)|(rw[if_pos j];rfl)|(exfalso;omega)
  ·first|(rw[if_neg j];done)|(rw[if_neg j];rfl)|(exfalso;omega)
theorem Jn.mk {R L:List zg}(n:Nat) (h:L.take n++R=L):Jn R L (L.take n):=by
 have:∀ K:List zg,Jn R (K++R) K:=fun K=>by
  induction K with
  | nil=>exact .nil
  | cons x K ih=>exact .cons x ih
 have g:=this (L.take n);rw[h]at g;exact g
theorem zg2 {w0 w:World}{L:List zg}{D:List zl}(J:Loc w0 w L D) {b:Nat}{T:TypeId}{i:List Value}{f:List Value->List zg}(o:InL b T i L f):∀ (g:Nat) (u:Value),i[g]? = some u->w.cell? ((⟨b,0,none⟩:Addr).add g)=some u:=by
 intro g u j;rw[zG,J.cell o,Nat.zero_add];exact j
theorem lap {ops:Array Oper}{Q:Exit->Act->World->Prop}{a:Act}{w0 w:World}{rest:List Oper}{L R:List zg}{D:List zl}{d:Option Tmp}{ty:TypeId}{pos:String}{after:Array Edge}{g:Option (Nat × Bool)}{s x:Operand}{v:Value}{n:Nat}{xs:List Value}{u:Int}{f:List Value->List zg}(k b:Nat) (p:JL 3 1 v n xs R) (J:Loc w0 w L D)
  (h:∀ j i o,JL 3 1 j (n+1) (xs++[.int .i64 u]) i->Loc w0 o (L.take k++i) D->wpList prog ops Q rest (a.put d j) o)
  (t:InL b 3 [.int .i64 u] L f:=by with_unfolding_all exact zeR) (I:Region.wanted ⟨d,.call { callee:=.builtin .append,args:=#[s,x],argTypes:=#[37,37] },ty,pos,after,g⟩ (yielded ops a.tmps)=true:=by with_unfolding_all exact Uu)
  (hk:L.take k++R=L:=by with_unfolding_all rfl) (C:a.eval s=v:=by with_unfolding_all rfl) (P:a.eval x=.slice (some ⟨b,0,none⟩) 1 1:=by with_unfolding_all rfl) (hn:n<=100:=by with_unfolding_all omega):
  wpList prog ops Q (⟨d,.call { callee:=.builtin .append,args:=#[s,x],argTypes:=#[37,37] },ty,pos,after,g⟩::rest) a w:=
 zbG (news:=[.int .i64 u]) (ad:=⟨b,0,none⟩) (m:=1) (c:=1) (z:=[.int .i64 0]) p J I C (Jn.mk k hk) V4 zfY (by simp) P (zg2 J t) rfl (by simp[Value.oneCell']) (by unfold maxLen;omega) (by omega) h
theorem zig {w0 w:World}{L:List zg}{D:List zl}{E:TypeId}{v:Value}{a b c d:Value}{R K:List zg}(h:JL E 1 v 4 [a,b,c,d] R) (J:Loc w0 w L D) (C:Jn R L K):
  ∃ g cap,v=.slice (some ⟨g,0,none⟩) 4 cap∧w.cell? ⟨g,0,none⟩=some a∧w.cell? ⟨g,0+1,none⟩=some b∧w.cell? ⟨g,0+2,none⟩=some c∧w.cell? ⟨g,0+3,none⟩=some d:=by
 rcases h.2 with⟨_,t,_⟩|⟨g,cap,p,T,I,_,_,_,P⟩
 ·cases t
 ·have o:∀ i,w.cell? ⟨g,i,none⟩=p[i]? :=J.all (g,E,p) (by rw[C.eq,I];simp)
  have j:∀ i,i<4->p[i]? = [a,b,c,d][i]? :=fun i j=>by rw[<- P,List.getElem?_take];simp[j]
  exact⟨g,cap,T,by rw[o,j _ (by omega)];rfl,by rw[o,j _ (by omega)];rfl,by rw[o,j _ (by omega)];rfl,by rw[o,j _ (by omega)];rfl⟩
theorem zfL {k:Int}{s t:zm}(hk:k=5∨k=6∨k=7) (ae:s.lo<=s.hi) (ht:t.lo<=t.hi) (aa:s.none=false) (ab:t.none=false) {g i:Int}
  (T:g=K0 (Zf k s.lo t.lo) (Zf k s.lo t.hi) (Zf k s.hi t.lo) (Zf k s.hi t.hi)) (U:i=K1 (Zf k s.lo t.lo) (Zf k s.lo t.hi) (Zf k s.hi t.lo) (Zf k s.hi t.hi)):
  made k s t=if zh ⟨false,g,i⟩=0 then ⟨false,g,i⟩ else ⟨false,-2147483648,2147483647⟩:=by
 have R:jx k s t=(g,i):=by
  subst T;subst U;rcases hk with rfl|rfl|rfl
  ·simp only[jx,Zf,K0,K1,min2,max2]
   simp;constructor<;>(repeat' split)<;>omega
  ·simp only[jx,Zf,K0,K1,min2,max2]
   simp;constructor<;>(repeat' split)<;>omega
  ·simp[jx,Zf]
 have P:=(zfJ (k:=k) (Int.le_refl s.lo) ae (Int.le_refl t.lo) ht);rw[R]at P;have ad:g<=i:=by have:=P.1;have:=P.2;simp at *;omega
 unfold made;simp only[aa,ab,Bool.or_self,Bool.false_eq_true,if_false,R];by_cases j:(jd g&&jd i)=true
 ·rw[if_pos j,if_pos]
  simp only[Bool.and_eq_true,j9]at j;obtain⟨⟨o,p⟩,C,I⟩:=j;exact QM ⟨o,p,C,I⟩ ad (by simp)
 ·rw[if_neg j,if_neg]
  intro ac;apply j;obtain⟨o,p,C,I⟩:=GN ac;simp only[Bool.and_eq_true,j9];exact⟨⟨o,p⟩,C,I⟩
theorem ziN (s t:zm) (ay:zh s=0) (ht:zh t=0) (aC:s.none=false) (aD:t.none=false) (w:World):
  Calls prog 124 #[.int .i64 5,s.v,t.v] w fun e ae=>e=.returned ((made 5 s t).v)∧Below w.heap.size w ae:=by
 have J:=Loc.start w;obtain⟨⟨aL,aM,aN,aO⟩,aE,_⟩:=zu ay;obtain⟨⟨t1,t2,t3,t4⟩,aF,_⟩:=zu ht;have P:=zfL (k:=5) (by omega) aE aF aC aD rfl rfl;simp only[Zf,if_neg (show ¬ (5:Int)=6 by decide),if_neg (show ¬ (5:Int)=7 by decide)]at P;obtain⟨R,ab⟩:∃ R,K0 (s.lo+t.lo) (s.lo+t.hi) (s.hi+t.lo) (s.hi+t.hi)=R:=⟨_,rfl⟩;obtain⟨T,ac⟩:∃ T,K1 (s.lo+t.lo) (s.lo+t.hi) (s.hi+t.lo) (s.hi+t.hi)=T:=⟨_,rfl⟩;rw[ab,ac]at P;clear ay ht;have a7:=za (And.intro ab (And.intro ac P));clear ab ac P;have J:=Loc.start w;go_enter func124,ntmps124;go_wp2_with (with_reducible first|refine lld J ?_|((first|refine lbx J ?_|refine lal J ?_|refine lbs J ?_);clear J;intro U i J)|(refine zc J ?_;clear J;intro i J));refine zb [20,21,22,23,24,25,26,27,28,29,8,9] ?_
 iterate 4 refine qdv ?_
 refine qdw ?_
 iterate 4 refine qdv ?_
 refine qdw ?_;refine zdH 4 ?_;refine zdH 9 ?_;refine qy J ?_;intro g aP o j q;simp only[aG]at q;simp only[fD];simp only[q];clear q;obtain⟨aI,az,a1,a3⟩:=qye j 10;obtain⟨aJ,a0,a2,a4⟩:=qye j 11;replace J:=J.more2 o az a0 a3 a4;simp only[a1,a2];clear az a1 a3 a0 a2 a4;clear j o;have hA:JL 3 1 (.slice none 0 0) 0 [] []:=JL.nil;go_wp2_with (first|(with_reducible first|refine lld J ?_|((first|refine lbx J ?_|refine lal J ?_|refine lbs J ?_);clear J;intro U i J)|(refine zc J ?_;clear J;intro i J))|((with_reducible refine wp_loop_rounds 5 ?_))|(with_reducible refine qm ?_));refine zb [41,42,43,44,45,46,47,48,49,50,51] ?_
 iterate 10 refine qdv ?_
 refine qdw ?_;refine qy J ?_;intro g aQ o j q;simp only[aG]at q;simp only[fD];simp only[q];clear q;obtain⟨a8,p,C,I⟩:=qye j 10;replace J:=J.gain o p I;simp only[C];clear p C I;clear j o
 (with_reducible refine lap 4 a8 hA J ?_)
 clear J hA;intro al ah aU hA J;simp only[Nat.zero_add,aX,Nat.reduceAdd,List.take_succ_cons,List.take_zero]at hA J;go_wp2_with (first|(with_reducible first|refine lld J ?_|((first|refine lbx J ?_|refine lal J ?_|refine lbs J ?_);clear J;intro U i J)|(refine zc J ?_;clear J;intro i J))|((with_reducible refine wp_loop_rounds 5 ?_))|(with_reducible refine qm ?_));refine zb [41,42,43,44,45,46,47,48,49,50,51] ?_
 iterate 10 refine qdv ?_
 refine qdw ?_;refine qy J ?_;intro g aR o j q;simp only[aG]at q;simp only[fD];simp only[q];clear q;obtain⟨a9,p,C,I⟩:=qye j 10;replace J:=J.gain o p I;simp only[C];clear p C I;clear j o
 (with_reducible refine lap 5 a9 hA J ?_)
 clear J hA;intro al ah aV hA J;simp only[Nat.zero_add,aX,Nat.reduceAdd,List.take_succ_cons,List.take_zero]at hA J;go_wp2_with (first|(with_reducible first|refine lld J ?_|((first|refine lbx J ?_|refine lal J ?_|refine lbs J ?_);clear J;intro U i J)|(refine zc J ?_;clear J;intro i J))|((with_reducible refine wp_loop_rounds 5 ?_))|(with_reducible refine qm ?_));refine zb [41,42,43,44,45,46,47,48,49,50,51] ?_
 iterate 10 refine qdv ?_
 refine qdw ?_;refine qy J ?_;intro g aS o j q;simp only[aG]at q;simp only[fD];simp only[q];clear q;obtain⟨aA,p,C,I⟩:=qye j 10;replace J:=J.gain o p I;simp only[C];clear p C I;clear j o
 (with_reducible refine lap 6 aA hA J ?_)
 clear J hA;intro al ah aW hA J;simp only[Nat.zero_add,aX,Nat.reduceAdd,List.take_succ_cons,List.take_zero]at hA J;go_wp2_with (first|(with_reducible first|refine lld J ?_|((first|refine lbx J ?_|refine lal J ?_|refine lbs J ?_);clear J;intro U i J)|(refine zc J ?_;clear J;intro i J))|((with_reducible refine wp_loop_rounds 5 ?_))|(with_reducible refine qm ?_));refine zb [41,42,43,44,45,46,47,48,49,50,51] ?_
 iterate 10 refine qdv ?_
 refine qdw ?_;refine qy J ?_;intro g aT o j q;simp only[aG]at q;simp only[fD];simp only[q];clear q;obtain⟨aB,p,C,I⟩:=qye j 10;replace J:=J.gain o p I;simp only[C];clear p C I;clear j o
 (with_reducible refine lap 7 aB hA J ?_)
 clear J hA;intro al ah a5 hA J;simp only[Nat.zero_add,aX,Nat.reduceAdd,List.take_succ_cons,List.take_zero]at hA J;go_wp2_with (first|(with_reducible first|refine lld J ?_|((first|refine lbx J ?_|refine lal J ?_|refine lbs J ?_);clear J;intro U i J)|(refine zc J ?_;clear J;intro i J))|((with_reducible refine wp_loop_rounds 5 ?_))|(with_reducible refine qm ?_));obtain⟨ax,aw,rfl,an,ao,aq,ar⟩:=zig hA J (Jn.mk 7 rfl);obtain⟨ab,ac,P⟩:=a7.out;have aj:=zck ax 0 aw _ _ _ _ a5 an ao aq ar;have ak:=zfI ax 0 aw _ _ _ _ a5 an ao aq ar;rw[ab]at aj;rw[ac]at ak;have a6:=za aj;have av:=za ak;clear aj ak an ao aq ar ab ac;refine a6.out.mono ?_;rintro e ae ⟨rfl,rfl⟩;dsimp only;have au:=za P;by_cases aa:zh ⟨false,R,T⟩=0
 ·have af:=za (fun w=>(by have h:=Qe ⟨false,R,T⟩ w;rw[aa]at h;exact h:Calls prog 177 #[zm.v ⟨false,R,T⟩] w fun e ae=>e=.returned (.int .i64 0)∧Below w.heap.size w ae))
  have ag:=za aa;clear aa P;go_wp2_with (first|(with_reducible first|refine lld J ?_|((first|refine lbx J ?_|refine lal J ?_|refine lbs J ?_);clear J;intro U i J)|(refine zc J ?_;clear J;intro i J))|(go_at_call 176;refine cg0 av.out ?_;dsimp only)|(go_at_call 177;refine cg J (af.out _) ?_;clear J;intro i J;dsimp only))
  (try simp only[Exit.inBlock,Exit.then]);refine rt1 ?_
  exact⟨by rw[au.out,if_pos ag.out],J.below⟩
 ·have aH:(zh ⟨false,R,T⟩ != 0)=true:=by simp[aa]
  have ai:=Qe ⟨false,R,T⟩;have ag:=za aa;generalize zh ⟨false,R,T⟩=aK at aH ai;have af:=za ai;clear aa P ai;go_wp2_with (first|(with_reducible first|refine lld J ?_|((first|refine lbx J ?_|refine lal J ?_|refine lbs J ?_);clear J;intro U i J)|(refine zc J ?_;clear J;intro i J))|(go_at_call 176;refine cg0 av.out ?_;dsimp only)|(go_at_call 177;refine cg J (af.out _) ?_;clear J;intro i J;dsimp only))
  (try simp only[Exit.inBlock,Exit.then]);refine rt1 ?_
  exact⟨by rw[au.out,if_neg ag.out],J.below⟩
theorem ziO (s t:zm) (ay:zh s=0) (ht:zh t=0) (aC:s.none=false) (aD:t.none=false) (w:World):
  Calls prog 124 #[.int .i64 6,s.v,t.v] w fun e ae=>e=.returned ((made 6 s t).v)∧Below w.heap.size w ae:=by
 have J:=Loc.start w;obtain⟨⟨aL,aM,aN,aO⟩,aE,_⟩:=zu ay;obtain⟨⟨t1,t2,t3,t4⟩,aF,_⟩:=zu ht;have P:=zfL (k:=6) (by omega) aE aF aC aD rfl rfl;simp only[Zf,if_true]at P;obtain⟨R,ab⟩:∃ R,K0 (s.lo - t.lo) (s.lo - t.hi) (s.hi - t.lo) (s.hi - t.hi)=R:=⟨_,rfl⟩;obtain⟨T,ac⟩:∃ T,K1 (s.lo - t.lo) (s.lo - t.hi) (s.hi - t.lo) (s.hi - t.hi)=T:=⟨_,rfl⟩;rw[ab,ac]at P;clear ay ht;have a7:=za (And.intro ab (And.intro ac P));clear ab ac P;have J:=Loc.start w;go_enter func124,ntmps124;go_wp2_with (with_reducible first|refine lld J ?_|((first|refine lbx J ?_|refine lal J ?_|refine lbs J ?_);clear J;intro U i J)|(refine zc J ?_;clear J;intro i J));refine zb [20,21,22,23,24,25,26,27,28,29,8,9] ?_
 iterate 4 refine qdv ?_
 refine qdw ?_
 iterate 4 refine qdv ?_
 refine qdw ?_;refine zdH 4 ?_;refine zdH 9 ?_;refine qy J ?_;intro g aP o j q;simp only[aG]at q;simp only[fD];simp only[q];clear q;obtain⟨aI,az,a1,a3⟩:=qye j 10;obtain⟨aJ,a0,a2,a4⟩:=qye j 11;replace J:=J.more2 o az a0 a3 a4;simp only[a1,a2];clear az a1 a3 a0 a2 a4;clear j o;have hA:JL 3 1 (.slice none 0 0) 0 [] []:=JL.nil;go_wp2_with (first|(with_reducible first|refine lld J ?_|((first|refine lbx J ?_|refine lal J ?_|refine lbs J ?_);clear J;intro U i J)|(refine zc J ?_;clear J;intro i J))|((with_reducible refine wp_loop_rounds 5 ?_))|(with_reducible refine qm ?_));refine zb [55,56,57,58,59,60,61,62,63,64,65] ?_
 iterate 10 refine qdv ?_
 refine qdw ?_;refine qy J ?_;intro g aQ o j q;simp only[aG]at q;simp only[fD];simp only[q];clear q;obtain⟨a8,p,C,I⟩:=qye j 10;replace J:=J.gain o p I;simp only[C];clear p C I;clear j o
 (with_reducible refine lap 4 a8 hA J ?_)
 clear J hA;intro al ah aU hA J;simp only[Nat.zero_add,aX,Nat.reduceAdd,List.take_succ_cons,List.take_zero]at hA J;go_wp2_with (first|(with_reducible first|refine lld J ?_|((first|refine lbx J ?_|refine lal J ?_|refine lbs J ?_);clear J;intro U i J)|(refine zc J ?_;clear J;intro i J))|((with_reducible refine wp_loop_rounds 5 ?_))|(with_reducible refine qm ?_));refine zb [55,56,57,58,59,60,61,62,63,64,65] ?_
 iterate 10 refine qdv ?_
 refine qdw ?_;refine qy J ?_;intro g aR o j q;simp only[aG]at q;simp only[fD];simp only[q];clear q;obtain⟨a9,p,C,I⟩:=qye j 10;replace J:=J.gain o p I;simp only[C];clear p C I;clear j o
 (with_reducible refine lap 5 a9 hA J ?_)
 clear J hA;intro al ah aV hA J;simp only[Nat.zero_add,aX,Nat.reduceAdd,List.take_succ_cons,List.take_zero]at hA J;go_wp2_with (first|(with_reducible first|refine lld J ?_|((first|refine lbx J ?_|refine lal J ?_|refine lbs J ?_);clear J;intro U i J)|(refine zc J ?_;clear J;intro i J))|((with_reducible refine wp_loop_rounds 5 ?_))|(with_reducible refine qm ?_));refine zb [55,56,57,58,59,60,61,62,63,64,65] ?_
 iterate 10 refine qdv ?_
 refine qdw ?_;refine qy J ?_;intro g aS o j q;simp only[aG]at q;simp only[fD];simp only[q];clear q;obtain⟨aA,p,C,I⟩:=qye j 10;replace J:=J.gain o p I;simp only[C];clear p C I;clear j o
 (with_reducible refine lap 6 aA hA J ?_)
 clear J hA;intro al ah aW hA J;simp only[Nat.zero_add,aX,Nat.reduceAdd,List.take_succ_cons,List.take_zero]at hA J;go_wp2_with (first|(with_reducible first|refine lld J ?_|((first|refine lbx J ?_|refine lal J ?_|refine lbs J ?_);clear J;intro U i J)|(refine zc J ?_;clear J;intro i J))|((with_reducible refine wp_loop_rounds 5 ?_))|(with_reducible refine qm ?_));refine zb [55,56,57,58,59,60,61,62,63,64,65] ?_
 iterate 10 refine qdv ?_
 refine qdw ?_;refine qy J ?_;intro g aT o j q;simp only[aG]at q;simp only[fD];simp only[q];clear q;obtain⟨aB,p,C,I⟩:=qye j 10;replace J:=J.gain o p I;simp only[C];clear p C I;clear j o
 (with_reducible refine lap 7 aB hA J ?_)
 clear J hA;intro al ah a5 hA J;simp only[Nat.zero_add,aX,Nat.reduceAdd,List.take_succ_cons,List.take_zero]at hA J;go_wp2_with (first|(with_reducible first|refine lld J ?_|((first|refine lbx J ?_|refine lal J ?_|refine lbs J ?_);clear J;intro U i J)|(refine zc J ?_;clear J;intro i J))|((with_reducible refine wp_loop_rounds 5 ?_))|(with_reducible refine qm ?_));obtain⟨ax,aw,rfl,an,ao,aq,ar⟩:=zig hA J (Jn.mk 7 rfl);obtain⟨ab,ac,P⟩:=a7.out;have aj:=zck ax 0 aw _ _ _ _ a5 an ao aq ar;have ak:=zfI ax 0 aw _ _ _ _ a5 an ao aq ar;rw[ab]at aj;rw[ac]at ak;have a6:=za aj;have av:=za ak;clear aj ak an ao aq ar ab ac;refine a6.out.mono ?_;rintro e ae ⟨rfl,rfl⟩;dsimp only;have au:=za P;by_cases aa:zh ⟨false,R,T⟩=0
 ·have af:=za (fun w=>(by have h:=Qe ⟨false,R,T⟩ w;rw[aa]at h;exact h:Calls prog 177 #[zm.v ⟨false,R,T⟩] w fun e ae=>e=.returned (.int .i64 0)∧Below w.heap.size w ae))
  have ag:=za aa;clear aa P;go_wp2_with (first|(with_reducible first|refine lld J ?_|((first|refine lbx J ?_|refine lal J ?_|refine lbs J ?_);clear J;intro U i J)|(refine zc J ?_;clear J;intro i J))|(go_at_call 176;refine cg0 av.out ?_;dsimp only)|(go_at_call 177;refine cg J (af.out _) ?_;clear J;intro i J;dsimp only))
  (try simp only[Exit.inBlock,Exit.then]);refine rt1 ?_
  exact⟨by rw[au.out,if_pos ag.out],J.below⟩
 ·have aH:(zh ⟨false,R,T⟩ != 0)=true:=by simp[aa]
  have ai:=Qe ⟨false,R,T⟩;have ag:=za aa;generalize zh ⟨false,R,T⟩=aK at aH ai;have af:=za ai;clear aa P ai;go_wp2_with (first|(with_reducible first|refine lld J ?_|((first|refine lbx J ?_|refine lal J ?_|refine lbs J ?_);clear J;intro U i J)|(refine zc J ?_;clear J;intro i J))|(go_at_call 176;refine cg0 av.out ?_;dsimp only)|(go_at_call 177;refine cg J (af.out _) ?_;clear J;intro i J;dsimp only))
  (try simp only[Exit.inBlock,Exit.then]);refine rt1 ?_
  exact⟨by rw[au.out,if_neg ag.out],J.below⟩
theorem ziP (s t:zm) (ay:zh s=0) (ht:zh t=0) (aH:s.none=false) (aI:t.none=false) (w:World):
  Calls prog 124 #[.int .i64 7,s.v,t.v] w fun e ae=>e=.returned ((made 7 s t).v)∧Below w.heap.size w ae:=by
 have J:=Loc.start w;obtain⟨⟨a5,a6,a7,a8⟩,aJ,_⟩:=zu ay;obtain⟨⟨t1,t2,t3,t4⟩,aK,_⟩:=zu ht;have P:=zfL (k:=7) (by omega) aJ aK aH aI rfl rfl;simp only[Zf,if_neg (show ¬ (7:Int)=6 by decide),if_true]at P;obtain⟨R,ab⟩:∃ R,K0 (s.lo*t.lo) (s.lo*t.hi) (s.hi*t.lo) (s.hi*t.hi)=R:=⟨_,rfl⟩;obtain⟨T,ac⟩:∃ T,K1 (s.lo*t.lo) (s.lo*t.hi) (s.hi*t.lo) (s.hi*t.hi)=T:=⟨_,rfl⟩;rw[ab,ac]at P;obtain⟨aP,aQ⟩:=yS a5 a6 t1 t2;obtain⟨aR,aS⟩:=yS a5 a6 t3 t4;obtain⟨aT,aU⟩:=yS a7 a8 t1 t2;obtain⟨aV,aW⟩:=yS a7 a8 t3 t4;clear ay ht;have aB:=za (And.intro ab (And.intro ac P));clear ab ac P;have J:=Loc.start w;go_enter func124,ntmps124;go_wp2_with (with_reducible first|refine lld J ?_|((first|refine lbx J ?_|refine lal J ?_|refine lbs J ?_);clear J;intro U i J)|(refine zc J ?_;clear J;intro i J));refine zb [20,21,22,23,24,25,26,27,28,29,8,9] ?_
 iterate 4 refine qdv ?_
 refine qdw ?_
 iterate 4 refine qdv ?_
 refine qdw ?_;refine zdH 4 ?_;refine zdH 9 ?_;refine qy J ?_;intro g aY o j q;simp only[aG]at q;simp only[fD];simp only[q];clear q;obtain⟨aM,az,a1,a3⟩:=qye j 10;obtain⟨aN,a0,a2,a4⟩:=qye j 11;replace J:=J.more2 o az a0 a3 a4;simp only[a1,a2];clear az a1 a3 a0 a2 a4;clear j o;have hA:JL 3 1 (.slice none 0 0) 0 [] []:=JL.nil;go_wp2_with (first|(with_reducible first|refine lld J ?_|((first|refine lbx J ?_|refine lal J ?_|refine lbs J ?_);clear J;intro U i J)|(refine zc J ?_;clear J;intro i J))|((with_reducible refine wp_loop_rounds 5 ?_))|(with_reducible refine qm ?_));refine zb [69,70,71,72,73,74,75,76,77,78,79] ?_
 iterate 10 refine qdv ?_
 refine qdw ?_;refine qy J ?_;intro g aZ o j q;simp only[aG]at q;simp only[fD];simp only[q];clear q;obtain⟨aC,p,C,I⟩:=qye j 10;replace J:=J.gain o p I;simp only[C];clear p C I;clear j o
 (with_reducible refine lap 4 aC hA J ?_)
 clear J hA;intro al ah bd hA J;simp only[Nat.zero_add,aX,Nat.reduceAdd,List.take_succ_cons,List.take_zero]at hA J;go_wp2_with (first|(with_reducible first|refine lld J ?_|((first|refine lbx J ?_|refine lal J ?_|refine lbs J ?_);clear J;intro U i J)|(refine zc J ?_;clear J;intro i J))|((with_reducible refine wp_loop_rounds 5 ?_))|(with_reducible refine qm ?_));refine zb [69,70,71,72,73,74,75,76,77,78,79] ?_
 iterate 10 refine qdv ?_
 refine qdw ?_;refine qy J ?_;intro g ba o j q;simp only[aG]at q;simp only[fD];simp only[q];clear q;obtain⟨aD,p,C,I⟩:=qye j 10;replace J:=J.gain o p I;simp only[C];clear p C I;clear j o
 (with_reducible refine lap 5 aD hA J ?_)
 clear J hA;intro al ah be hA J;simp only[Nat.zero_add,aX,Nat.reduceAdd,List.take_succ_cons,List.take_zero]at hA J;go_wp2_with (first|(with_reducible first|refine lld J ?_|((first|refine lbx J ?_|refine lal J ?_|refine lbs J ?_);clear J;intro U i J)|(refine zc J ?_;clear J;intro i J))|((with_reducible refine wp_loop_rounds 5 ?_))|(with_reducible refine qm ?_));refine zb [69,70,71,72,73,74,75,76,77,78,79] ?_
 iterate 10 refine qdv ?_
 refine qdw ?_;refine qy J ?_;intro g bb o j q;simp only[aG]at q;simp only[fD];simp only[q];clear q;obtain⟨aE,p,C,I⟩:=qye j 10;replace J:=J.gain o p I;simp only[C];clear p C I;clear j o
 (with_reducible refine lap 6 aE hA J ?_)
 clear J hA;intro al ah bf hA J;simp only[Nat.zero_add,aX,Nat.reduceAdd,List.take_succ_cons,List.take_zero]at hA J;go_wp2_with (first|(with_reducible first|refine lld J ?_|((first|refine lbx J ?_|refine lal J ?_|refine lbs J ?_);clear J;intro U i J)|(refine zc J ?_;clear J;intro i J))|((with_reducible refine wp_loop_rounds 5 ?_))|(with_reducible refine qm ?_));refine zb [69,70,71,72,73,74,75,76,77,78,79] ?_
 iterate 10 refine qdv ?_
 refine qdw ?_;refine qy J ?_;intro g bc o j q;simp only[aG]at q;simp only[fD];simp only[q];clear q;obtain⟨aF,p,C,I⟩:=qye j 10;replace J:=J.gain o p I;simp only[C];clear p C I;clear j o
 (with_reducible refine lap 7 aF hA J ?_)
 clear J hA;intro al ah a9 hA J;simp only[Nat.zero_add,aX,Nat.reduceAdd,List.take_succ_cons,List.take_zero]at hA J;go_wp2_with (first|(with_reducible first|refine lld J ?_|((first|refine lbx J ?_|refine lal J ?_|refine lbs J ?_);clear J;intro U i J)|(refine zc J ?_;clear J;intro i J))|((with_reducible refine wp_loop_rounds 5 ?_))|(with_reducible refine qm ?_));obtain⟨ax,aw,rfl,an,ao,aq,ar⟩:=zig hA J (Jn.mk 7 rfl);obtain⟨ab,ac,P⟩:=aB.out;have aj:=zck ax 0 aw _ _ _ _ a9 an ao aq ar;have ak:=zfI ax 0 aw _ _ _ _ a9 an ao aq ar;rw[ab]at aj;rw[ac]at ak;have aA:=za aj;have av:=za ak;clear aj ak an ao aq ar ab ac;refine aA.out.mono ?_;rintro e ae ⟨rfl,rfl⟩;dsimp only;have au:=za P;by_cases aa:zh ⟨false,R,T⟩=0
 ·have af:=za (fun w=>(by have h:=Qe ⟨false,R,T⟩ w;rw[aa]at h;exact h:Calls prog 177 #[zm.v ⟨false,R,T⟩] w fun e ae=>e=.returned (.int .i64 0)∧Below w.heap.size w ae))
  have ag:=za aa;clear aa P;go_wp2_with (first|(with_reducible first|refine lld J ?_|((first|refine lbx J ?_|refine lal J ?_|refine lbs J ?_);clear J;intro U i J)|(refine zc J ?_;clear J;intro i J))|(go_at_call 176;refine cg0 av.out ?_;dsimp only)|(go_at_call 177;refine cg J (af.out _) ?_;clear J;intro i J;dsimp only))
  (try simp only[Exit.inBlock,Exit.then]);refine rt1 ?_
  exact⟨by rw[au.out,if_pos ag.out],J.below⟩
 ·have aL:(zh ⟨false,R,T⟩ != 0)=true:=by simp[aa]
  have ai:=Qe ⟨false,R,T⟩;have ag:=za aa;generalize zh ⟨false,R,T⟩=aO at aL ai;have af:=za ai;clear aa P ai;go_wp2_with (first|(with_reducible first|refine lld J ?_|((first|refine lbx J ?_|refine lal J ?_|refine lbs J ?_);clear J;intro U i J)|(refine zc J ?_;clear J;intro i J))|(go_at_call 176;refine cg0 av.out ?_;dsimp only)|(go_at_call 177;refine cg J (af.out _) ?_;clear J;intro i J;dsimp only))
  (try simp only[Exit.inBlock,Exit.then]);refine rt1 ?_
  exact⟨by rw[au.out,if_neg ag.out],J.below⟩
end Go.Proofs.YtplcndmdkabmeaaGreatDoor
