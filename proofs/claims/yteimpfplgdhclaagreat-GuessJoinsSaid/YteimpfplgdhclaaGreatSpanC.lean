/- The walks over the package span: what comes of two spans. Conditions: the ends lie in range. -/
import Derived.Test.YteimpfplgdhclaaGreatSpanB
import Derived.Deep.QuietTactic
import Derived.BigQuiet
set_option linter.unusedSimpArgs false
set_option linter.unusedVariables false
namespace Go.Proofs.YteimpfplgdhclaaGreat
open Go.RowKit

theorem run_min4 (ts : Array TypeId) (t : TypeId) (P : Program) (x y z u : Int) (w : World) : (Builtin.min_ ts t #[.int .i64 x, .int .i64 y, .int .i64 z, .int .i64 u]).run P w = .ok (.int .i64 (min4 x y z u)) w := by
  simp [Builtin.min_, Builtin.min2, min4, min2]; rfl
theorem run_max4 (ts : Array TypeId) (t : TypeId) (P : Program) (x y z u : Int) (w : World) : (Builtin.max_ ts t #[.int .i64 x, .int .i64 y, .int .i64 z, .int .i64 u]).run P w = .ok (.int .i64 (max4 x y z u)) w := by
  simp [Builtin.max_, Builtin.max2, max4, max2]

/-- Every end lies within the 32 bits. -/
def Ends (s : Span) : Prop := -2147483648 ≤ s.lo ∧ s.lo ≤ 2147483647 ∧ -2147483648 ≤ s.hi ∧ s.hi ≤ 2147483647
def SmallN (n : Int) : Prop := -9223372036854775808 ≤ n ∧ n ≤ 9223372036854775807
theorem mul_small {a b : Int} (h1 : -2147483648 ≤ a) (h2 : a ≤ 2147483647) (h3 : -2147483648 ≤ b) (h4 : b ≤ 2147483647) : -4611686018427387904 ≤ a * b ∧ a * b ≤ 4611686018427387904 := by
  have e1 : (a + 2147483648) * (b + 2147483648) ≥ 0 := Int.mul_nonneg (by omega) (by omega)
  have e2 : (2147483647 - a) * (2147483647 - b) ≥ 0 := Int.mul_nonneg (by omega) (by omega)
  have e3 : (a + 2147483648) * (2147483647 - b) ≥ 0 := Int.mul_nonneg (by omega) (by omega)
  have e4 : (2147483647 - a) * (b + 2147483648) ≥ 0 := Int.mul_nonneg (by omega) (by omega)
  simp only [Int.add_mul, Int.mul_add, Int.sub_mul, Int.mul_sub] at e1 e2 e3 e4
  omega

set_option maxRecDepth 100000 in
set_option maxHeartbeats 1600000 in
theorem made_mul (s t : Span) (h1 : Ends s) (h2 : Ends t) (hs : s.none = false) (ht : t.none = false) (w : World) :
    Calls Tryz.prog 74 #[.int .i64 7, s.v, t.v] w fun e w' => e = .returned (made 7 s t).v ∧ Below w.heap.size w w' := by
  have a1 := mul_small h1.1 h1.2.1 h2.1 h2.2.1
  have a2 := mul_small h1.1 h1.2.1 h2.2.2.1 h2.2.2.2
  have a3 := mul_small h1.2.2.1 h1.2.2.2 h2.1 h2.2.1
  have a4 := mul_small h1.2.2.1 h1.2.2.2 h2.2.2.1 h2.2.2.2
  have q1 := run_min4 #[3, 3, 3, 3] 3 Tryz.prog
  have q2 := run_max4 #[3, 3, 3, 3] 3 Tryz.prog
  obtain ⟨b1, b2, b3, b4⟩ := h1
  obtain ⟨c1, c2, c3, c4⟩ := h2
  have hL := Loc.start w
  go_enter Tryz.func74, Tryz.ntmps74
  go_wp2_with (first | (with_reducible refine lld hL ?_) | ((with_reducible first | refine lbx hL ?_ | refine lal hL ?_ | refine lbs hL ?_); clear hL; intro bl w1 hL) | ((with_reducible refine lst' hL ?_); clear hL; intro w1 hL) | (go_at_call 59; refine (of_any _ _ _).mono ?_; rintro e w1 ⟨rfl, hb⟩; replace hL := hL.grow hb; clear hb; dsimp only))
  (have hq := hL.all; simp only [List.forall_mem_cons, List.forall_mem_nil, and_true] at hq; go_quiet (fail); clear hq; rename_i nq; replace hL := hL.grow (below_drewN (Below.refl _ _) nq); generalize World.drewN _ nq = w1 at hL ⊢; clear nq)
  go_wp2_with (first | (with_reducible refine lld hL ?_) | ((with_reducible first | refine lbx hL ?_ | refine lal hL ?_ | refine lbs hL ?_); clear hL; intro bl w1 hL) | ((with_reducible refine lst' hL ?_); clear hL; intro w1 hL) | (go_at_call 59; refine (of_any _ _ _).mono ?_; rintro e w1 ⟨rfl, hb⟩; replace hL := hL.grow hb; clear hb; dsimp only) | (go_at_call 91; refine (is_any _ _).mono ?_; rintro e w' ⟨rfl, rfl⟩; dsimp only))
  all_goals
    (try simp only [Exit.inBlock, Exit.then]); refine' ret1 rfl ?_ rfl ?_; (case refine'_2 => exact cRes)
    exact ⟨by simp_all [made, rawMade], hL.below⟩

set_option maxRecDepth 100000 in
set_option maxHeartbeats 1600000 in
theorem made_none (k : Int) (s t : Span) (h : (s.none || t.none) = true) (w : World) :
    Calls Tryz.prog 74 #[.int .i64 k, s.v, t.v] w fun e w' => e = .returned (made k s t).v ∧ Below w.heap.size w w' := by
  have hL := Loc.start w
  cases hs : s.none
  · have ht : t.none = true := by simpa [hs] using h
    clear h
    go_enter Tryz.func74, Tryz.ntmps74
    go_wp2_with (first | (with_reducible refine lld hL ?_) | ((with_reducible first | refine lbx hL ?_ | refine lal hL ?_ | refine lbs hL ?_); clear hL; intro bl w1 hL) | ((with_reducible refine lst' hL ?_); clear hL; intro w1 hL) | (go_at_call 59; refine (of_any _ _ _).mono ?_; rintro e w1 ⟨rfl, hb⟩; replace hL := hL.grow hb; clear hb; dsimp only) | (go_at_call 70; refine (none_any _).mono ?_; rintro e w1 ⟨rfl, hb⟩; replace hL := hL.grow hb; clear hb; dsimp only) | (go_at_call 91; refine (is_any _ _).mono ?_; rintro e w' ⟨rfl, rfl⟩; dsimp only))
    (try simp only [Exit.inBlock, Exit.then]); refine' ret1 rfl ?_ rfl ?_; (case refine'_2 => exact cRes)
    exact ⟨by simp [made, hs, ht], hL.below⟩
  · clear h
    go_enter Tryz.func74, Tryz.ntmps74
    go_wp2_with (first | (with_reducible refine lld hL ?_) | ((with_reducible first | refine lbx hL ?_ | refine lal hL ?_ | refine lbs hL ?_); clear hL; intro bl w1 hL) | ((with_reducible refine lst' hL ?_); clear hL; intro w1 hL) | (go_at_call 59; refine (of_any _ _ _).mono ?_; rintro e w1 ⟨rfl, hb⟩; replace hL := hL.grow hb; clear hb; dsimp only) | (go_at_call 70; refine (none_any _).mono ?_; rintro e w1 ⟨rfl, hb⟩; replace hL := hL.grow hb; clear hb; dsimp only) | (go_at_call 91; refine (is_any _ _).mono ?_; rintro e w' ⟨rfl, rfl⟩; dsimp only))
    (try simp only [Exit.inBlock, Exit.then]); refine' ret1 rfl ?_ rfl ?_; (case refine'_2 => exact cRes)
    exact ⟨by simp [made, hs], hL.below⟩

set_option maxRecDepth 100000 in
set_option maxHeartbeats 1600000 in
theorem made_sum (k : Int) (hk : k = 5 ∨ k = 6) (s t : Span) (h1 : Ends s) (h2 : Ends t) (hs : s.none = false) (ht : t.none = false) (w : World) :
    Calls Tryz.prog 74 #[.int .i64 k, s.v, t.v] w fun e w' => e = .returned (made k s t).v ∧ Below w.heap.size w w' := by
  obtain ⟨b1, b2, b3, b4⟩ := h1
  obtain ⟨c1, c2, c3, c4⟩ := h2
  have hL := Loc.start w
  rcases hk with rfl | rfl
  all_goals
    go_enter Tryz.func74, Tryz.ntmps74
    go_wp2_with (first | (with_reducible refine lld hL ?_) | ((with_reducible first | refine lbx hL ?_ | refine lal hL ?_ | refine lbs hL ?_); clear hL; intro bl w1 hL) | ((with_reducible refine lst' hL ?_); clear hL; intro w1 hL) | (go_at_call 59; refine (of_any _ _ _).mono ?_; rintro e w1 ⟨rfl, hb⟩; replace hL := hL.grow hb; clear hb; dsimp only) | (go_at_call 70; refine (none_any _).mono ?_; rintro e w1 ⟨rfl, hb⟩; replace hL := hL.grow hb; clear hb; dsimp only) | (go_at_call 91; refine (is_any _ _).mono ?_; rintro e w' ⟨rfl, rfl⟩; dsimp only))
    all_goals
      (try simp only [Exit.inBlock, Exit.then]); refine' ret1 rfl ?_ rfl ?_; (case refine'_2 => exact cRes)
      exact ⟨by simp_all [made, rawMade], hL.below⟩

theorem made_any (k : Int) (hk : k = 5 ∨ k = 6 ∨ k = 7) (s t : Span) (h1 : Ends s) (h2 : Ends t) (w : World) :
    Calls Tryz.prog 74 #[.int .i64 k, s.v, t.v] w fun e w' => e = .returned (made k s t).v ∧ Below w.heap.size w w' := by
  by_cases h : (s.none || t.none) = true
  · exact made_none k s t h w
  · simp only [Bool.or_eq_true, not_or, Bool.not_eq_true] at h
    rcases hk with hk | hk | hk
    · exact made_sum k (.inl hk) s t h1 h2 h.1 h.2 w
    · exact made_sum k (.inr hk) s t h1 h2 h.1 h.2 w
    · subst hk; exact made_mul s t h1 h2 h.1 h.2 w

theorem ends_of {s : Span} (h : checkSpan s = 0) : Ends s := by
  unfold checkSpan at h
  by_cases hr : (!inRange s.lo || !inRange s.hi) = true
  · rw [if_pos hr] at h; cases h
  · simp only [Bool.or_eq_true, Bool.not_eq_true', not_or, Bool.not_eq_false] at hr
    have h1 := inRange_iff.1 hr.1
    have h2 := inRange_iff.1 hr.2
    exact ⟨h1.1, h1.2, h2.1, h2.2⟩

/-- What Do answers of kind k. -/
def doErr (k : Int) (s t : Span) : Int := if checkSpans s t = 0 then (if k = 5 ∨ k = 6 ∨ k = 7 then 0 else 6) else checkSpans s t
def doSpan (k : Int) (s t : Span) : Span := if doErr k s t = 0 then made k s t else zeroSpan

theorem checkSpans_zero {s t : Span} (h : checkSpans s t = 0) : checkSpan s = 0 ∧ checkSpan t = 0 := by
  unfold checkSpans at h; split at h <;> simp_all

end Go.Proofs.YteimpfplgdhclaaGreat
