import Derived.Test.YtplcndmdkabmeaaGreatDoorCod
import Derived.Deep.QuietTactic
import Derived.BigQuiet
import Derived.Test.YtplcndmdkabmeaaGreatDoorLib
set_option linter.unusedSimpArgs false
set_option linter.unusedVariables false
set_option maxRecDepth 100000
set_option maxHeartbeats 1600000
namespace Go.Proofs.YtplcndmdkabmeaaGreatDoor
open Go.RowKit
theorem is_any (n:Int) (w:World):
  Calls Tryz.prog 226 #[.int .i64 n] w fun e w'=>e=.returned (.bool (inRange n))∧w=w':=by
 by_cases h1:-2147483648≤n
 all_goals
  go_enter Tryz.func226,Tryz.ntmps226
  go_wp2
  go_ret
  exact⟨by simp[inRange];omega,rfl⟩
theorem of_any (a b:Int) (w:World):
  Calls Tryz.prog 106 #[.int .i64 a,.int .i64 b] w fun e w'=>e=.returned (Span.v ⟨false,a,b⟩)∧Below w.heap.size w w':=by
 have hL:=Loc.start w
 go_enter Tryz.func106,Tryz.ntmps106
 go_wp2_with (first|(with_reducible first|refine lld hL ?_|((first|refine lbx hL ?_|refine lal hL ?_|refine lbs hL ?_);clear hL;intro bl w1 hL)|(refine lst' hL ?_;clear hL;intro w1 hL)))
 all_goals
  (try simp only[Exit.inBlock,Exit.then]);refine rt1 ?_
  exact⟨by rfl,hL.below⟩
theorem none_any  (w:World):
  Calls Tryz.prog 181 #[] w fun e w'=>e=.returned (noSpan.v)∧Below w.heap.size w w':=by
 have hL:=Loc.start w
 go_enter Tryz.func181,Tryz.ntmps181
 go_wp2_with (first|(with_reducible first|refine lld hL ?_|((first|refine lbx hL ?_|refine lal hL ?_|refine lbs hL ?_);clear hL;intro bl w1 hL)|(refine lst' hL ?_;clear hL;intro w1 hL)))
 all_goals
  (try simp only[Exit.inBlock,Exit.then]);refine rt1 ?_
  exact⟨by rfl,hL.below⟩
theorem both_any (s t:Span) (w:World):
  Calls Tryz.prog 60 #[s.v,t.v] w fun e w'=>e=.returned ((both s t).v)∧Below w.heap.size w w':=by
 have hL:=Loc.start w
 go_enter Tryz.func60,Tryz.ntmps60
 go_wp2_with (first|(with_reducible first|refine lld hL ?_|((first|refine lbx hL ?_|refine lal hL ?_|refine lbs hL ?_);clear hL;intro bl w1 hL)|(refine lst' hL ?_;clear hL;intro w1 hL))|(go_at_call 106;refine(of_any _ _ _).mono ?_;rintro e w1 ⟨rfl,hb⟩;replace hL:=hL.grow hb;clear hb;dsimp only))
 all_goals
  (try simp only[Exit.inBlock,Exit.then]);refine rt1 ?_
  exact⟨by simp[both, *]<;>omega,hL.below⟩
theorem in_any (s:Span) (n:Int) (w:World):
  Calls Tryz.prog 182 #[s.v,.int .i64 n] w fun e w'=>e=.returned (.bool (inSpan s n))∧Below w.heap.size w w':=by
 have hL:=Loc.start w
 go_enter Tryz.func182,Tryz.ntmps182
 go_wp2_with (first|(with_reducible first|refine lld hL ?_|((first|refine lbx hL ?_|refine lal hL ?_|refine lbs hL ?_);clear hL;intro bl w1 hL)|(refine lst' hL ?_;clear hL;intro w1 hL)))
 all_goals
  (try simp only[Exit.inBlock,Exit.then]);refine rt1 ?_
  exact⟨by simp_all [inSpan]<;>omega,hL.below⟩
theorem inside_any (s t:Span) (w:World):
  Calls Tryz.prog 190 #[s.v,t.v] w fun e w'=>e=.returned (.bool (inside s t))∧Below w.heap.size w w':=by
 have hL:=Loc.start w
 go_enter Tryz.func190,Tryz.ntmps190
 go_wp2_with (first|(with_reducible first|refine lld hL ?_|((first|refine lbx hL ?_|refine lal hL ?_|refine lbs hL ?_);clear hL;intro bl w1 hL)|(refine lst' hL ?_;clear hL;intro w1 hL)))
 all_goals
  (try simp only[Exit.inBlock,Exit.then]);refine rt1 ?_
  exact⟨by simp_all [inside]<;>omega,hL.below⟩
theorem common_any (s t:Span) (w:World):
  Calls Tryz.prog 203 #[s.v,t.v] w fun e w'=>e=.returned ((common s t).v)∧Below w.heap.size w w':=by
 have hL:=Loc.start w
 go_enter Tryz.func203,Tryz.ntmps203
 go_wp2_with (first|(with_reducible first|refine lld hL ?_|((first|refine lbx hL ?_|refine lal hL ?_|refine lbs hL ?_);clear hL;intro bl w1 hL)|(refine lst' hL ?_;clear hL;intro w1 hL))|(go_at_call 106;refine(of_any _ _ _).mono ?_;rintro e w1 ⟨rfl,hb⟩;replace hL:=hL.grow hb;clear hb;dsimp only)|(go_at_call 181;refine(none_any _).mono ?_;rintro e w1 ⟨rfl,hb⟩;replace hL:=hL.grow hb;clear hb;dsimp only))
 all_goals
  (try simp only[Exit.inBlock,Exit.then]);refine rt1 ?_
  exact⟨by simp[common, *]<;>(try (split<;>simp<;>omega)),hL.below⟩
theorem wider_any (s t:Span) (w:World):
  Calls Tryz.prog 61 #[s.v,t.v] w fun e w'=>e=.returned ((wider s t).v)∧Below w.heap.size w w':=by
 have hL:=Loc.start w
 go_enter Tryz.func61,Tryz.ntmps61
 go_wp2_with (first|(with_reducible first|refine lld hL ?_|((first|refine lbx hL ?_|refine lal hL ?_|refine lbs hL ?_);clear hL;intro bl w1 hL)|(refine lst' hL ?_;clear hL;intro w1 hL))|(go_at_call 60;refine(both_any _ _ _).mono ?_;rintro e w1 ⟨rfl,hb⟩;replace hL:=hL.grow hb;clear hb;dsimp only))
 all_goals
  (try simp only[Exit.inBlock,Exit.then]);refine rt1 ?_
  exact⟨by simp[wider,both, *]<;>omega,hL.below⟩
theorem run_min4 (ts:Array TypeId) (t:TypeId) (P:Program) (x y z u:Int) (w:World):(Builtin.min_ ts t #[.int .i64 x,.int .i64 y,.int .i64 z,.int .i64 u]).run P w=.ok (.int .i64 (min4 x y z u)) w:=by
 simp[Builtin.min_,Builtin.min2,min4,min2];rfl
theorem run_max4 (ts:Array TypeId) (t:TypeId) (P:Program) (x y z u:Int) (w:World):(Builtin.max_ ts t #[.int .i64 x,.int .i64 y,.int .i64 z,.int .i64 u]).run P w=.ok (.int .i64 (max4 x y z u)) w:=by
 simp[Builtin.max_,Builtin.max2,max4,max2]
def Ends (s:Span):Prop:=-2147483648≤s.lo∧s.lo≤2147483647∧-2147483648≤s.hi∧s.hi≤2147483647
theorem mul_small {a b:Int}(h1:-2147483648≤a) (h2:a≤2147483647) (h3:-2147483648≤b) (h4:b≤2147483647):-4611686018427387904≤a*b∧a*b≤4611686018427387904:=by
 have e1:(a+2147483648)*(b+2147483648) ≥ 0:=Int.mul_nonneg (by omega) (by omega)
 have e2:(2147483647 - a)*(2147483647 - b) ≥ 0:=Int.mul_nonneg (by omega) (by omega)
 have e3:(a+2147483648)*(2147483647 - b) ≥ 0:=Int.mul_nonneg (by omega) (by omega)
 have e4:(2147483647 - a)*(b+2147483648) ≥ 0:=Int.mul_nonneg (by omega) (by omega)
 simp only[Int.add_mul,Int.mul_add,Int.sub_mul,Int.mul_sub]at e1 e2 e3 e4
 omega
theorem made_mul (s t:Span) (h1:Ends s) (h2:Ends t) (hs:s.none=false) (ht:t.none=false) (w:World):
  Calls Tryz.prog 234 #[.int .i64 7,s.v,t.v] w fun e w'=>e=.returned (made 7 s t).v∧Below w.heap.size w w':=by
 have a1:=mul_small h1.1 h1.2.1 h2.1 h2.2.1
 have a2:=mul_small h1.1 h1.2.1 h2.2.2.1 h2.2.2.2
 have a3:=mul_small h1.2.2.1 h1.2.2.2 h2.1 h2.2.1
 have a4:=mul_small h1.2.2.1 h1.2.2.2 h2.2.2.1 h2.2.2.2
 have q1:=run_min4 #[3,3,3,3] 3 Tryz.prog
 have q2:=run_max4 #[3,3,3,3] 3 Tryz.prog
 obtain⟨b1,b2,b3,b4⟩:=h1
 obtain⟨c1,c2,c3,c4⟩:=h2
 have hL:=Loc.start w
 go_enter Tryz.func234,Tryz.ntmps234
 go_wp2_with (first|(with_reducible first|refine lld hL ?_|((first|refine lbx hL ?_|refine lal hL ?_|refine lbs hL ?_);clear hL;intro bl w1 hL)|(refine lst' hL ?_;clear hL;intro w1 hL))|(go_at_call 106;refine(of_any _ _ _).mono ?_;rintro e w1 ⟨rfl,hb⟩;replace hL:=hL.grow hb;clear hb;dsimp only))
 (have hq:=hL.all;simp only[List.forall_mem_cons,List.forall_mem_nil,and_true]at hq;go_quiet (fail);clear hq;rename_i nq;replace hL:=hL.grow (below_drewN (Below.refl _ _) nq);generalize World.drewN _ nq=w1 at hL ⊢;clear nq)
 go_wp2_with (first|(with_reducible first|refine lld hL ?_|((first|refine lbx hL ?_|refine lal hL ?_|refine lbs hL ?_);clear hL;intro bl w1 hL)|(refine lst' hL ?_;clear hL;intro w1 hL))|(go_at_call 106;refine(of_any _ _ _).mono ?_;rintro e w1 ⟨rfl,hb⟩;replace hL:=hL.grow hb;clear hb;dsimp only)|(go_at_call 226;refine(is_any _ _).mono ?_;rintro e w' ⟨rfl,rfl⟩;dsimp only))
 all_goals
  (try simp only[Exit.inBlock,Exit.then]);refine rt1 ?_
  exact⟨by simp_all [made,rawMade],hL.below⟩
theorem made_none (k:Int) (s t:Span) (h:(s.none || t.none)=true) (w:World):
  Calls Tryz.prog 234 #[.int .i64 k,s.v,t.v] w fun e w'=>e=.returned (made k s t).v∧Below w.heap.size w w':=by
 have hL:=Loc.start w
 cases hs:s.none
 ·have ht:t.none=true:=by simpa [hs] using h
  clear h
  go_enter Tryz.func234,Tryz.ntmps234
  go_wp2_with (first|(with_reducible first|refine lld hL ?_|((first|refine lbx hL ?_|refine lal hL ?_|refine lbs hL ?_);clear hL;intro bl w1 hL)|(refine lst' hL ?_;clear hL;intro w1 hL))|(go_at_call 106;refine(of_any _ _ _).mono ?_;rintro e w1 ⟨rfl,hb⟩;replace hL:=hL.grow hb;clear hb;dsimp only)|(go_at_call 181;refine(none_any _).mono ?_;rintro e w1 ⟨rfl,hb⟩;replace hL:=hL.grow hb;clear hb;dsimp only)|(go_at_call 226;refine(is_any _ _).mono ?_;rintro e w' ⟨rfl,rfl⟩;dsimp only))
  (try simp only[Exit.inBlock,Exit.then]);refine rt1 ?_
  exact⟨by simp[made,hs,ht],hL.below⟩
 ·clear h
  go_enter Tryz.func234,Tryz.ntmps234
  go_wp2_with (first|(with_reducible first|refine lld hL ?_|((first|refine lbx hL ?_|refine lal hL ?_|refine lbs hL ?_);clear hL;intro bl w1 hL)|(refine lst' hL ?_;clear hL;intro w1 hL))|(go_at_call 106;refine(of_any _ _ _).mono ?_;rintro e w1 ⟨rfl,hb⟩;replace hL:=hL.grow hb;clear hb;dsimp only)|(go_at_call 181;refine(none_any _).mono ?_;rintro e w1 ⟨rfl,hb⟩;replace hL:=hL.grow hb;clear hb;dsimp only)|(go_at_call 226;refine(is_any _ _).mono ?_;rintro e w' ⟨rfl,rfl⟩;dsimp only))
  (try simp only[Exit.inBlock,Exit.then]);refine rt1 ?_
  exact⟨by simp[made,hs],hL.below⟩
theorem made_sum (k:Int) (hk:k=5∨k=6) (s t:Span) (h1:Ends s) (h2:Ends t) (hs:s.none=false) (ht:t.none=false) (w:World):
  Calls Tryz.prog 234 #[.int .i64 k,s.v,t.v] w fun e w'=>e=.returned (made k s t).v∧Below w.heap.size w w':=by
 obtain⟨b1,b2,b3,b4⟩:=h1
 obtain⟨c1,c2,c3,c4⟩:=h2
 have hL:=Loc.start w
 rcases hk with rfl|rfl
 all_goals
  go_enter Tryz.func234,Tryz.ntmps234
  go_wp2_with (first|(with_reducible first|refine lld hL ?_|((first|refine lbx hL ?_|refine lal hL ?_|refine lbs hL ?_);clear hL;intro bl w1 hL)|(refine lst' hL ?_;clear hL;intro w1 hL))|(go_at_call 106;refine(of_any _ _ _).mono ?_;rintro e w1 ⟨rfl,hb⟩;replace hL:=hL.grow hb;clear hb;dsimp only)|(go_at_call 181;refine(none_any _).mono ?_;rintro e w1 ⟨rfl,hb⟩;replace hL:=hL.grow hb;clear hb;dsimp only)|(go_at_call 226;refine(is_any _ _).mono ?_;rintro e w' ⟨rfl,rfl⟩;dsimp only))
  all_goals
   (try simp only[Exit.inBlock,Exit.then]);refine rt1 ?_
   exact⟨by simp_all [made,rawMade],hL.below⟩
theorem made_any (k:Int) (hk:k=5∨k=6∨k=7) (s t:Span) (h1:Ends s) (h2:Ends t) (w:World):
  Calls Tryz.prog 234 #[.int .i64 k,s.v,t.v] w fun e w'=>e=.returned (made k s t).v∧Below w.heap.size w w':=by
 by_cases h:(s.none || t.none)=true
 ·exact made_none k s t h w
 ·simp only[Bool.or_eq_true,not_or,Bool.not_eq_true]at h
  rcases hk with hk|hk|hk
  ·exact made_sum k (.inl hk) s t h1 h2 h.1 h.2 w
  ·exact made_sum k (.inr hk) s t h1 h2 h.1 h.2 w
  ·subst hk;exact made_mul s t h1 h2 h.1 h.2 w
theorem ends_of {s:Span}(h:checkSpan s=0):Ends s:=by
 unfold checkSpan at h
 by_cases hr:(!inRange s.lo || !inRange s.hi)=true
 ·rw[if_pos hr]at h;cases h
 ·simp only[Bool.or_eq_true,Bool.not_eq_true',not_or,Bool.not_eq_false]at hr
  have h1:=inRange_iff.1 hr.1
  have h2:=inRange_iff.1 hr.2
  exact⟨h1.1,h1.2,h2.1,h2.2⟩
def wrapped (n:Int):Int:=if n % 4294967296 > 2147483647 then n % 4294967296 - 4294967296 else n % 4294967296
theorem wrapped_in {n:Int}(h1:-2147483648≤n) (h2:n≤2147483647):wrapped n=n:=by
 unfold wrapped;split<;>omega
end Go.Proofs.YtplcndmdkabmeaaGreatDoor
set_option linter.unusedSimpArgs false
set_option linter.unusedVariables false
namespace Go.Proofs.YtplcndmdkabmeaaGreatDoor
open Go.RowKit
theorem checkSpan_zero {s:Span}(h:checkSpan s=0):Ends s∧s.lo≤s.hi∧(s.none=true→s.lo=0∧s.hi=0):=by
 refine⟨ends_of h,?_⟩
 have he:=ends_of h
 unfold checkSpan at h
 by_cases h1:(!inRange s.lo || !inRange s.hi)=true
 ·rw[if_pos h1]at h;cases h
 ·rw[if_neg h1]at h
  by_cases h2:(s.none&&(s.lo != 0 || s.hi != 0))=true
  ·rw[if_pos h2]at h;cases h
  ·rw[if_neg h2]at h
   by_cases h3:s.hi<s.lo
   ·rw[if_pos h3]at h;cases h
   ·refine⟨by omega,fun hn=>?_⟩
    simp[hn]at h2
    exact h2
theorem checkSpan_ok {s:Span}(he:Ends s) (hl:s.lo≤s.hi) (hn:s.none=true→s.lo=0∧s.hi=0):checkSpan s=0:=by
 obtain⟨h1,h2,h3,h4⟩:=he
 unfold checkSpan
 have e1:inRange s.lo=true:=inRange_iff.2 ⟨h1,h2⟩
 have e2:inRange s.hi=true:=inRange_iff.2 ⟨h3,h4⟩
 simp only[e1,e2,Bool.not_true,Bool.or_self,Bool.false_eq_true,if_false]
 cases hs:s.none with
 | false=>simp;omega
 | true=>obtain⟨a,b⟩:=hn hs;simp[a,b]
theorem mul_between {a b l h:Int}(h1:l≤a) (h2:a≤h):min (l*b) (h*b)≤a*b∧a*b≤max (l*b) (h*b):=by
 rcases Int.le_total 0 b with hb|hb
 ·have e1:=Int.mul_le_mul_of_nonneg_right h1 hb
  have e2:=Int.mul_le_mul_of_nonneg_right h2 hb
  omega
 ·have e1:=Int.mul_le_mul_of_nonpos_right h1 hb
  have e2:=Int.mul_le_mul_of_nonpos_right h2 hb
  omega
theorem mul_in {a b l h m k:Int}(h1:l≤a) (h2:a≤h) (h3:m≤b) (h4:b≤k):
  min4 (l*m) (l*k) (h*m) (h*k)≤a*b∧a*b≤max4 (l*m) (l*k) (h*m) (h*k):=by
 have e1:=mul_between (b:=b) h1 h2
 have e2:=mul_between (b:=l) h3 h4
 have e3:=mul_between (b:=h) h3 h4
 simp only[Int.mul_comm _ l,Int.mul_comm _ h]at e2 e3
 unfold min4 max4 min2 max2
 constructor
 ·split<;>split<;>split<;>omega
 ·split<;>split<;>split<;>omega
def opOf (k a b:Int):Int:=if k=6 then a - b else if k=7 then a*b else a+b
theorem raw_in {k:Int}{s t:Span}{a b:Int}(h1:s.lo≤a) (h2:a≤s.hi) (h3:t.lo≤b) (h4:b≤t.hi):(rawMade k s t).1≤opOf k a b∧opOf k a b≤(rawMade k s t).2:=by
 unfold rawMade opOf
 by_cases h6:k=6
 ·simp only[h6,if_true];omega
 ·by_cases h7:k=7
  ·simp only[h7,if_true,if_neg (show ¬ (7:Int)=6 by decide)]
   exact mul_in h1 h2 h3 h4
  ·simp only[if_neg h6,if_neg h7];omega
theorem wrapped_range (n:Int):-2147483648≤wrapped n∧wrapped n≤2147483647:=by
 unfold wrapped;split<;>omega
theorem made_sound {k:Int}{s t:Span}{a b:Int}(hs:s.none=false) (ht:t.none=false) (h1:s.lo≤a) (h2:a≤s.hi) (h3:t.lo≤b) (h4:b≤t.hi):
  checkSpan (made k s t)=0∧inSpan (made k s t) (wrapped (opOf k a b))=true:=by
 have hr:=raw_in (k:=k) h1 h2 h3 h4
 unfold made
 simp only[hs,ht,Bool.or_self,Bool.false_eq_true,if_false]
 by_cases h:(inRange (rawMade k s t).1&&inRange (rawMade k s t).2)=true
 ·rw[if_pos h]
  simp only[Bool.and_eq_true,inRange_iff]at h
  obtain⟨⟨a1,a2⟩,b1,b2⟩:=h
  refine⟨checkSpan_ok ⟨a1,a2,b1,b2⟩ (by show (rawMade k s t).1≤(rawMade k s t).2;omega) (by simp),?_⟩
  rw[wrapped_in (by omega) (by omega)]
  simp[inSpan,hr.1,hr.2]
 ·rw[if_neg h]
  have hw:=wrapped_range (opOf k a b)
  refine⟨rfl,?_⟩
  simp[inSpan,hw.1,hw.2]
theorem both_ok {s t:Span}(hs:checkSpan s=0) (ht:checkSpan t=0):checkSpan (both s t)=0:=by
 unfold both
 cases h1:s.none with
 | true=>simpa using ht
 | false=>
  cases h2:t.none with
  | true=>simpa using hs
  | false=>
   obtain⟨⟨a1,a2,a3,a4⟩,a5,_⟩:=checkSpan_zero hs
   obtain⟨⟨b1,b2,b3,b4⟩,b5,_⟩:=checkSpan_zero ht
   exact checkSpan_ok (by simp[Ends];omega) (by simp;omega) (by simp)
theorem wider_ok {s t:Span}(hs:checkSpan s=0) (ht:checkSpan t=0):checkSpan (wider s t)=0∧inside s (wider s t)=true:=by
 unfold wider
 cases h1:s.none with
 | true=>exact⟨by simpa using both_ok hs ht,by simp[inside,h1]⟩
 | false=>
  obtain⟨⟨a1,a2,a3,a4⟩,a5,_⟩:=checkSpan_zero hs
  cases h2:t.none with
  | true=>exact⟨by simpa using both_ok hs ht,by simp[both,h1,h2,inside]⟩
  | false=>
   obtain⟨⟨b1,b2,b3,b4⟩,b5,_⟩:=checkSpan_zero ht
   refine⟨?_,?_⟩
   ·simp only[Bool.or_self,Bool.false_eq_true,if_false]
    refine checkSpan_ok ?_ ?_ (by simp)
    ·refine⟨?_,?_,?_,?_⟩<;>dsimp only<;>split<;>omega
    ·dsimp only;split<;>split<;>omega
   ·simp only[Bool.or_self,Bool.false_eq_true,if_false,inside,h1,Bool.not_false,Bool.true_and,Bool.false_or,Bool.and_eq_true,decide_eq_true_eq]
    constructor<;>split<;>omega
def pot (s:Span):Nat:=(if s.lo=-2147483648 then 1 else 0)+(if s.hi=2147483647 then 1 else 0)
theorem pot_le (s:Span):pot s≤2:=by unfold pot;split<;>split<;>omega
def Calm (s:Span) (ch:Nat):Prop:=ch=0∨(s.none=false∧ch≤pot s)
theorem Calm.le {s:Span}{ch:Nat}(h:Calm s ch):ch≤2:=by
 rcases h with h|h
 ·omega
 ·exact Nat.le_trans h.2 (pot_le s)
theorem Split.mk {R L:List LBlk}(n:Nat) (h:L.take n++R=L):Split R L (L.take n):=by
 have:∀ K:List LBlk,Split R (K++R) K:=fun K=>by
  induction K with
  | nil=>exact .nil
  | cons x K ih=>exact .cons x ih
 have h2:=this (L.take n)
 rw[h]at h2;exact h2
end Go.Proofs.YtplcndmdkabmeaaGreatDoor
