/- The walks over what the reference's StepOf calls: Wrap, its closure. Conditions: the numbers' bounds. -/
import Derived.Test.YtkdbehgekeidoaaDoorRunP
set_option linter.unusedSimpArgs false
set_option linter.unusedVariables false
namespace Go.Proofs.YtkdbehgekeidoaaDoor
open Go.RowKit

theorem wrap_cases {n : Int} (h : -4611686018427387904 ≤ n ∧ n ≤ 4611686018427387904) : wrap32 n = (let m := n.tmod 4294967296; let m2 := if m < 0 then m + 4294967296 else m; if m2 > 2147483647 then m2 - 4294967296 else m2) := by
  unfold wrap32
  dsimp only
  rcases Int.lt_or_le n 0 with h0 | h0
  · have : n.tmod 4294967296 = -((-n) % 4294967296) := by
      rw [← Int.neg_neg n, Int.neg_tmod, Int.neg_neg, Int.tmod_eq_emod_of_nonneg (by omega)]
    rw [this]
    split <;> split <;> omega
  · rw [Int.tmod_eq_emod_of_nonneg h0]
    split <;> split <;> omega
set_option maxRecDepth 100000 in
set_option maxHeartbeats 1600000 in
theorem rWrap_any (n : Int) (h : -4611686018427387904 ≤ n ∧ n ≤ 4611686018427387904) (w : World) :
    Calls Tryd.prog 28 #[.int .i64 n] w fun e w' => e = .returned (.int .i64 (wrap32 n)) ∧ w = w' := by
  have HW := Lib.hid (wrap_cases h)
  have HB := Lib.hid h
  clear h
  have HM := Lib.hid (show -4294967296 < n.tmod 4294967296 ∧ n.tmod 4294967296 < 4294967296 by
    rcases Int.lt_or_le n 0 with h0 | h0
    · have : n.tmod 4294967296 = -((-n) % 4294967296) := by
        rw [← Int.neg_neg n, Int.neg_tmod, Int.neg_neg, Int.tmod_eq_emod_of_nonneg (by omega)]
      rw [this]; omega
    · rw [Int.tmod_eq_emod_of_nonneg h0]; omega)
  go_enter Tryd.func28, Tryd.ntmps28
  go_wp2
  all_goals
    go_ret
    refine ⟨?_, rfl⟩
    rw [HW.out]
    have hm := HM.out
    generalize n.tmod 4294967296 = m at *
    have e1 : wrap64 (m + 4294967296) = m + 4294967296 := Go.IntWalk.wrap64_in _ (by omega)
    have e2 : wrap64 (m - 4294967296) = m - 4294967296 ∨ m < -4294967296 := .inl (Go.IntWalk.wrap64_in _ (by omega))
    have e3 : wrap64 (m + 4294967296 - 4294967296) = m + 4294967296 - 4294967296 := Go.IntWalk.wrap64_in _ (by omega)
    have e4 : wrap64 (m - 4294967296) = m - 4294967296 := Go.IntWalk.wrap64_in _ (by omega)
    simp only [e1, e3, e4] at *
    repeat' split
    all_goals first | rfl | omega | (refine congrArg _ (congrArg _ ?_); omega)

set_option maxRecDepth 100000 in
set_option maxHeartbeats 1600000 in
theorem rTruth_any (w0 : World) (b10 : Nat) (x y : Int) (b : Bool) (L : List LBlk) (D : List Datum) (w : World) (hL : Loc w0 w ((b10, 56, [.int .i64 x, .int .i64 y]) :: L) D) :
    Calls Tryd.prog 27 #[.bool b, .pointer (some ⟨b10, 0, none⟩)] w fun e w' => e = .returned (.tuple #[]) ∧ Loc w0 w' ((b10, 56, [.int .i64 2, .int .i64 (if b then 1 else y)]) :: L) D := by
  cases b
  · go_enter Tryd.func27, Tryd.ntmps27
    go_wp2_with (first | (with_reducible refine lld hL ?_) | ((with_reducible first | refine lbx hL ?_ | refine lal hL ?_ | refine lbs hL ?_); clear hL; intro bl w1 hL) | ((with_reducible refine lst' hL ?_); clear hL; intro w1 hL))
    (try simp only [Exit.inBlock, Exit.then]); (first | refine end0 rfl rfl ?_ | refine ret0 rfl rfl ?_)
    exact ⟨rfl, hL⟩
  · go_enter Tryd.func27, Tryd.ntmps27
    go_wp2_with (first | (with_reducible refine lld hL ?_) | ((with_reducible first | refine lbx hL ?_ | refine lal hL ?_ | refine lbs hL ?_); clear hL; intro bl w1 hL) | ((with_reducible refine lst' hL ?_); clear hL; intro w1 hL))
    (try simp only [Exit.inBlock, Exit.then]); (first | refine end0 rfl rfl ?_ | refine ret0 rfl rfl ?_)
    exact ⟨rfl, hL⟩
end Go.Proofs.YtkdbehgekeidoaaDoor
