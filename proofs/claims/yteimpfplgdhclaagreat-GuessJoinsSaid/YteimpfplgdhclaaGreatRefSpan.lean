/- The walks over the reference's functions on spans. Conditions: the ends of DoSpan's spans lie in range. -/
import Derived.Test.YteimpfplgdhclaaGreatSpanC
import Derived.Test.YteimpfplgdhclaaGreatCod
set_option linter.unusedSimpArgs false
set_option linter.unusedVariables false
namespace Go.Proofs.YteimpfplgdhclaaGreat
open Go.RowKit

theorem betw_range (n : Int) : betw n (-2147483648) 2147483647 = inRange n := rfl

set_option maxRecDepth 100000 in
set_option maxHeartbeats 800000 in
theorem rCheck_any (s : Span) (w : World) :
    Calls Tryz.prog 53 #[s.v] w fun e w' => e = .returned (.int .i64 (checkSpan s)) ∧ Below w.heap.size w w' := by
  have hL := Loc.start w
  go_enter Tryz.func53, Tryz.ntmps53
  go_wp2_with (first | (with_reducible refine lld hL ?_) | ((with_reducible first | refine lbx hL ?_ | refine lal hL ?_ | refine lbs hL ?_); clear hL; intro bl w1 hL) | ((with_reducible refine lst' hL ?_); clear hL; intro w1 hL) | (go_at_call 51; refine (between_any _ _ _ _).mono ?_; rintro e w' ⟨rfl, rfl⟩; dsimp only; try simp only [betw_range]))
  all_goals
    (try simp only [Exit.inBlock, Exit.then]); refine' ret1 rfl ?_ rfl ?_; (case refine'_2 => exact cRes)
    exact ⟨by simp_all [checkSpan], hL.below⟩

set_option maxRecDepth 100000 in
set_option maxHeartbeats 800000 in
theorem rIn_any (s : Span) (n : Int) (w : World) :
    Calls Tryz.prog 42 #[s.v, .int .i64 n] w fun e w' => e = .returned (.bool (inSpan s n)) ∧ Below w.heap.size w w' := by
  have hL := Loc.start w
  go_enter Tryz.func42, Tryz.ntmps42
  go_wp2_with (first | (with_reducible refine lld hL ?_) | ((with_reducible first | refine lbx hL ?_ | refine lal hL ?_ | refine lbs hL ?_); clear hL; intro bl w1 hL) | ((with_reducible refine lst' hL ?_); clear hL; intro w1 hL) | (go_at_call 51; refine (between_any _ _ _ _).mono ?_; rintro e w' ⟨rfl, rfl⟩; dsimp only))
  all_goals
    (try simp only [Exit.inBlock, Exit.then]); refine' ret1 rfl ?_ rfl ?_; (case refine'_2 => exact cRes)
    exact ⟨by simp_all [inSpan, betw], hL.below⟩

set_option maxRecDepth 100000 in
set_option maxHeartbeats 800000 in
theorem least2 (b o cap : Nat) (x0 x1 : Int) (w : World) (c0 : w.cell? ⟨b, o, none⟩ = some (.int .i64 x0)) (c1 : w.cell? ⟨b, o + 1, none⟩ = some (.int .i64 x1)) :
    Calls Tryz.prog 56 #[.slice (some ⟨b, o, none⟩) 2 cap] w fun e w' => e = .returned (.int .i64 (min2 x0 x1)) ∧ w = w' := by
  go_enter Tryz.func56, Tryz.ntmps56
  go_wp2_with (first | ((with_reducible refine wp_loop_rounds 5 ?_)) | (with_reducible refine rounds_go ?_))
  all_goals
    go_ret
    exact ⟨by simp_all [min2]; try omega, rfl⟩

set_option maxRecDepth 100000 in
set_option maxHeartbeats 800000 in
theorem least4 (b o cap : Nat) (x0 x1 x2 x3 : Int) (w : World) (c0 : w.cell? ⟨b, o, none⟩ = some (.int .i64 x0)) (c1 : w.cell? ⟨b, o + 1, none⟩ = some (.int .i64 x1))
    (c2 : w.cell? ⟨b, o + 2, none⟩ = some (.int .i64 x2)) (c3 : w.cell? ⟨b, o + 3, none⟩ = some (.int .i64 x3)) :
    Calls Tryz.prog 56 #[.slice (some ⟨b, o, none⟩) 4 cap] w fun e w' => e = .returned (.int .i64 (min4 x0 x1 x2 x3)) ∧ w = w' := by
  go_enter Tryz.func56, Tryz.ntmps56
  go_wp2_with (first | ((with_reducible refine wp_loop_rounds 5 ?_)) | (with_reducible refine rounds_go ?_))
  all_goals
    go_ret
    exact ⟨by simp_all [min4, min2]; try omega, rfl⟩

set_option maxRecDepth 100000 in
set_option maxHeartbeats 800000 in
theorem most2 (b o cap : Nat) (x0 x1 : Int) (w : World) (c0 : w.cell? ⟨b, o, none⟩ = some (.int .i64 x0)) (c1 : w.cell? ⟨b, o + 1, none⟩ = some (.int .i64 x1)) :
    Calls Tryz.prog 55 #[.slice (some ⟨b, o, none⟩) 2 cap] w fun e w' => e = .returned (.int .i64 (max2 x0 x1)) ∧ w = w' := by
  go_enter Tryz.func55, Tryz.ntmps55
  go_wp2_with (first | ((with_reducible refine wp_loop_rounds 5 ?_)) | (with_reducible refine rounds_go ?_))
  all_goals
    go_ret
    exact ⟨by simp_all [max2]; try omega, rfl⟩

set_option maxRecDepth 100000 in
set_option maxHeartbeats 800000 in
theorem most4 (b o cap : Nat) (x0 x1 x2 x3 : Int) (w : World) (c0 : w.cell? ⟨b, o, none⟩ = some (.int .i64 x0)) (c1 : w.cell? ⟨b, o + 1, none⟩ = some (.int .i64 x1))
    (c2 : w.cell? ⟨b, o + 2, none⟩ = some (.int .i64 x2)) (c3 : w.cell? ⟨b, o + 3, none⟩ = some (.int .i64 x3)) :
    Calls Tryz.prog 55 #[.slice (some ⟨b, o, none⟩) 4 cap] w fun e w' => e = .returned (.int .i64 (max4 x0 x1 x2 x3)) ∧ w = w' := by
  go_enter Tryz.func55, Tryz.ntmps55
  go_wp2_with (first | ((with_reducible refine wp_loop_rounds 5 ?_)) | (with_reducible refine rounds_go ?_))
  all_goals
    go_ret
    exact ⟨by simp_all [max4, max2]; try omega, rfl⟩
end Go.Proofs.YteimpfplgdhclaaGreat
