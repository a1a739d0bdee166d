/- The walks over the package span: what each call computes. Conditions: the ends of Made's spans lie in range. -/
import Derived.Test.YteimpfplgdhclaaGreatCod
set_option linter.unusedSimpArgs false
set_option linter.unusedVariables false
namespace Go.Proofs.YteimpfplgdhclaaGreat
open Go.RowKit

set_option maxHeartbeats 400000 in
theorem is_any (n : Int) (w : World) :
    Calls Tryz.prog 91 #[.int .i64 n] w fun e w' => e = .returned (.bool (inRange n)) ∧ w = w' := by
  by_cases h1 : -2147483648 ≤ n
  all_goals
    go_enter Tryz.func91, Tryz.ntmps91
    go_wp2
    go_ret
    exact ⟨by simp [inRange]; omega, rfl⟩

set_option maxHeartbeats 400000 in
theorem check_any (s : Span) (w : World) :
    Calls Tryz.prog 67 #[s.v] w fun e w' => e = .returned (.int .i64 (checkSpan s)) ∧ Below w.heap.size w w' := by
  have hL := Loc.start w
  go_enter Tryz.func67, Tryz.ntmps67
  go_wp2_with (first | (with_reducible refine lld hL ?_) | ((with_reducible first | refine lbx hL ?_ | refine lal hL ?_ | refine lbs hL ?_); clear hL; intro bl w1 hL) | ((with_reducible refine lst' hL ?_); clear hL; intro w1 hL) | (go_at_call 91; refine (is_any _ _).mono ?_; rintro e w' ⟨rfl, rfl⟩; dsimp only))
  all_goals
    (try simp only [Exit.inBlock, Exit.then]); refine' ret1 rfl ?_ rfl ?_; (case refine'_2 => exact cRes)
    exact ⟨by simp_all [checkSpan], hL.below⟩

set_option maxHeartbeats 400000 in
theorem of_any (a b : Int) (w : World) :
    Calls Tryz.prog 59 #[.int .i64 a, .int .i64 b] w fun e w' => e = .returned (Span.v ⟨false, a, b⟩) ∧ Below w.heap.size w w' := by
  have hL := Loc.start w
  go_enter Tryz.func59, Tryz.ntmps59
  go_wp2_with (first | (with_reducible refine lld hL ?_) | ((with_reducible first | refine lbx hL ?_ | refine lal hL ?_ | refine lbs hL ?_); clear hL; intro bl w1 hL) | ((with_reducible refine lst' hL ?_); clear hL; intro w1 hL))
  all_goals
    (try simp only [Exit.inBlock, Exit.then]); refine' ret1 rfl ?_ rfl ?_; (case refine'_2 => exact cRes)
    exact ⟨by rfl, hL.below⟩

set_option maxHeartbeats 400000 in
theorem none_any  (w : World) :
    Calls Tryz.prog 70 #[] w fun e w' => e = .returned (noSpan.v) ∧ Below w.heap.size w w' := by
  have hL := Loc.start w
  go_enter Tryz.func70, Tryz.ntmps70
  go_wp2_with (first | (with_reducible refine lld hL ?_) | ((with_reducible first | refine lbx hL ?_ | refine lal hL ?_ | refine lbs hL ?_); clear hL; intro bl w1 hL) | ((with_reducible refine lst' hL ?_); clear hL; intro w1 hL))
  all_goals
    (try simp only [Exit.inBlock, Exit.then]); refine' ret1 rfl ?_ rfl ?_; (case refine'_2 => exact cRes)
    exact ⟨by rfl, hL.below⟩

set_option maxHeartbeats 400000 in
theorem both_any (s t : Span) (w : World) :
    Calls Tryz.prog 35 #[s.v, t.v] w fun e w' => e = .returned ((both s t).v) ∧ Below w.heap.size w w' := by
  have hL := Loc.start w
  go_enter Tryz.func35, Tryz.ntmps35
  go_wp2_with (first | (with_reducible refine lld hL ?_) | ((with_reducible first | refine lbx hL ?_ | refine lal hL ?_ | refine lbs hL ?_); clear hL; intro bl w1 hL) | ((with_reducible refine lst' hL ?_); clear hL; intro w1 hL) | (go_at_call 59; refine (of_any _ _ _).mono ?_; rintro e w1 ⟨rfl, hb⟩; replace hL := hL.grow hb; clear hb; dsimp only))
  all_goals
    (try simp only [Exit.inBlock, Exit.then]); refine' ret1 rfl ?_ rfl ?_; (case refine'_2 => exact cRes)
    exact ⟨by simp [both, *] <;> omega, hL.below⟩

set_option maxHeartbeats 400000 in
theorem in_any (s : Span) (n : Int) (w : World) :
    Calls Tryz.prog 64 #[s.v, .int .i64 n] w fun e w' => e = .returned (.bool (inSpan s n)) ∧ Below w.heap.size w w' := by
  have hL := Loc.start w
  go_enter Tryz.func64, Tryz.ntmps64
  go_wp2_with (first | (with_reducible refine lld hL ?_) | ((with_reducible first | refine lbx hL ?_ | refine lal hL ?_ | refine lbs hL ?_); clear hL; intro bl w1 hL) | ((with_reducible refine lst' hL ?_); clear hL; intro w1 hL))
  all_goals
    (try simp only [Exit.inBlock, Exit.then]); refine' ret1 rfl ?_ rfl ?_; (case refine'_2 => exact cRes)
    exact ⟨by simp_all [inSpan] <;> omega, hL.below⟩

set_option maxHeartbeats 400000 in
theorem inside_any (s t : Span) (w : World) :
    Calls Tryz.prog 63 #[s.v, t.v] w fun e w' => e = .returned (.bool (inside s t)) ∧ Below w.heap.size w w' := by
  have hL := Loc.start w
  go_enter Tryz.func63, Tryz.ntmps63
  go_wp2_with (first | (with_reducible refine lld hL ?_) | ((with_reducible first | refine lbx hL ?_ | refine lal hL ?_ | refine lbs hL ?_); clear hL; intro bl w1 hL) | ((with_reducible refine lst' hL ?_); clear hL; intro w1 hL))
  all_goals
    (try simp only [Exit.inBlock, Exit.then]); refine' ret1 rfl ?_ rfl ?_; (case refine'_2 => exact cRes)
    exact ⟨by simp_all [inside] <;> omega, hL.below⟩

set_option maxHeartbeats 400000 in
theorem common_any (s t : Span) (w : World) :
    Calls Tryz.prog 72 #[s.v, t.v] w fun e w' => e = .returned ((common s t).v) ∧ Below w.heap.size w w' := by
  have hL := Loc.start w
  go_enter Tryz.func72, Tryz.ntmps72
  go_wp2_with (first | (with_reducible refine lld hL ?_) | ((with_reducible first | refine lbx hL ?_ | refine lal hL ?_ | refine lbs hL ?_); clear hL; intro bl w1 hL) | ((with_reducible refine lst' hL ?_); clear hL; intro w1 hL) | (go_at_call 59; refine (of_any _ _ _).mono ?_; rintro e w1 ⟨rfl, hb⟩; replace hL := hL.grow hb; clear hb; dsimp only) | (go_at_call 70; refine (none_any _).mono ?_; rintro e w1 ⟨rfl, hb⟩; replace hL := hL.grow hb; clear hb; dsimp only))
  all_goals
    (try simp only [Exit.inBlock, Exit.then]); refine' ret1 rfl ?_ rfl ?_; (case refine'_2 => exact cRes)
    exact ⟨by simp [common, *] <;> (try (split <;> simp <;> omega)), hL.below⟩

set_option maxHeartbeats 400000 in
theorem wider_any (s t : Span) (w : World) :
    Calls Tryz.prog 36 #[s.v, t.v] w fun e w' => e = .returned ((wider s t).v) ∧ Below w.heap.size w w' := by
  have hL := Loc.start w
  go_enter Tryz.func36, Tryz.ntmps36
  go_wp2_with (first | (with_reducible refine lld hL ?_) | ((with_reducible first | refine lbx hL ?_ | refine lal hL ?_ | refine lbs hL ?_); clear hL; intro bl w1 hL) | ((with_reducible refine lst' hL ?_); clear hL; intro w1 hL) | (go_at_call 35; refine (both_any _ _ _).mono ?_; rintro e w1 ⟨rfl, hb⟩; replace hL := hL.grow hb; clear hb; dsimp only))
  all_goals
    (try simp only [Exit.inBlock, Exit.then]); refine' ret1 rfl ?_ rfl ?_; (case refine'_2 => exact cRes)
    exact ⟨by simp [wider, both, *] <;> omega, hL.below⟩
end Go.Proofs.YteimpfplgdhclaaGreat
