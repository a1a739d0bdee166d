/- run.Run where the fuel is out of its bounds. Conditions: what it reads lies in memory that was there. -/
import Derived.Test.YtkdbehgekeidoaaDoorRunOf
set_option linter.unusedSimpArgs false
set_option linter.unusedVariables false
namespace Go.Proofs.YtkdbehgekeidoaaDoor
open Go.RowKit

set_option maxRecDepth 100000 in
set_option maxHeartbeats 2000000 in
theorem runRun_fuel (p : Pg) (is : Nat → Ins) (ins : Sl) (fuel : Int) (w : World) (hn : p.n ≤ 9223372036854775807) (hc : CodeAt w p is) (hP : checkProg p is = 0) (hf : fuel < 0 ∨ 5000 < fuel) :
    Calls Tryd.prog 14 #[p.v, ins.v, .int .i64 fuel] w fun e w' => e = .returned (.tuple #[zeroR.v, .int .i64 0, .int .i64 3]) ∧ Below w.heap.size w w' := by
  have hk := fun w' (hb : Below w.heap.size w w') => codeCheck_any p is w' (hc.grow hb) hn
  rw [hP] at hk
  have HK := Lib.hid hk
  clear hk hP hc hn
  by_cases h0 : fuel < 0
  · have c0 : decide (fuel < 0) = true := decide_eq_true h0
    clear hf h0
    have hL := Loc.start w
    go_enter Tryd.func14, Tryd.ntmps14
    go_wp2_with (first | (with_reducible refine lld hL ?_) | ((with_reducible first | refine lbx hL ?_ | refine lal hL ?_ | refine lbs hL ?_); clear hL; intro bl w1 hL) | ((with_reducible refine lst' hL ?_); clear hL; intro w1 hL) | (go_at_call 16; refine (HK.out _ hL.below).mono ?_; rintro e w1 ⟨rfl, hb⟩; replace hL := hL.grow hb; clear hb; dsimp only))
    (try simp only [Exit.inBlock, Exit.then]); refine' ret3 rfl ?_ ?_ ?_ rfl ?_; (case refine'_4 => exact cRes); (case refine'_5 => exact cRes); (case refine'_6 => exact cRes)
    exact ⟨rfl, hL.below⟩
  · have c0 : decide (fuel < 0) = false := decide_eq_false h0
    have c1 : decide ((5000 : Int) < fuel) = true := decide_eq_true (by omega)
    clear hf h0
    have hL := Loc.start w
    go_enter Tryd.func14, Tryd.ntmps14
    go_wp2_with (first | (with_reducible refine lld hL ?_) | ((with_reducible first | refine lbx hL ?_ | refine lal hL ?_ | refine lbs hL ?_); clear hL; intro bl w1 hL) | ((with_reducible refine lst' hL ?_); clear hL; intro w1 hL) | (go_at_call 16; refine (HK.out _ hL.below).mono ?_; rintro e w1 ⟨rfl, hb⟩; replace hL := hL.grow hb; clear hb; dsimp only))
    (try simp only [Exit.inBlock, Exit.then]); refine' ret3 rfl ?_ ?_ ?_ rfl ?_; (case refine'_4 => exact cRes); (case refine'_5 => exact cRes); (case refine'_6 => exact cRes)
    exact ⟨rfl, hL.below⟩
end Go.Proofs.YtkdbehgekeidoaaDoor
