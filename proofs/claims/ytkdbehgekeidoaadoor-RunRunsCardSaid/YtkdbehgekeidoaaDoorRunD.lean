/- The walk over run.Check. Conditions: what it reads lies in memory that was there. -/
import Derived.Test.YtkdbehgekeidoaaDoorRunRight
import Derived.Test.YtkdbehgekeidoaaDoorCodeCheck
set_option linter.unusedSimpArgs false
set_option linter.unusedVariables false
namespace Go.Proofs.YtkdbehgekeidoaaDoor
open Go.RowKit

def checkRun (p : Pg) (is : Nat → Ins) (r : Rn) (vs : Nat → Vl) (ths : Nat → Th) (fv : Nat → Nat → Vl) : Int := if checkProg p is = 0 then rightRun p is r vs ths fv else checkProg p is

set_option maxRecDepth 100000 in
set_option maxHeartbeats 1600000 in
theorem runCheck_any (p : Pg) (is : Nat → Ins) (r : Rn) (vs : Nat → Vl) (ths : Nat → Th) (fv : Nat → Nat → Vl) (w : World) (hn : p.n ≤ 9223372036854775807) (hc : CodeAt w p is) (hr : RunL w r vs ths fv) :
    Calls Tryd.prog 12 #[p.v, r.v] w fun e w' => e = .returned (.int .i64 (checkRun p is r vs ths fv)) ∧ Below w.heap.size w w' := by
  have HK := Lib.hid (fun w' (hb : Below w.heap.size w w') => codeCheck_any p is w' (hc.grow hb) hn)
  have HR := Lib.hid (fun w' (hb : Below w.heap.size w w') => right_any p is r vs ths fv w' hn (hc.grow hb) (hr.grow hb))
  clear hc hr
  have hL := Loc.start w
  by_cases h0 : checkProg p is = 0
  · have HF := Lib.hid (show checkRun p is r vs ths fv = rightRun p is r vs ths fv by simp [checkRun, h0])
    have hk := HK.out
    rw [h0] at hk
    have HK2 := Lib.hid hk
    clear hk h0
    go_enter Tryd.func12, Tryd.ntmps12
    go_wp2_with (first | (with_reducible refine lld hL ?_) | ((with_reducible first | refine lbx hL ?_ | refine lal hL ?_ | refine lbs hL ?_); clear hL; intro bl w1 hL) | ((with_reducible refine lst' hL ?_); clear hL; intro w1 hL) | (go_at_call 16; refine (HK2.out _ hL.below).mono ?_; rintro e w1 ⟨rfl, hb⟩; replace hL := hL.grow hb; clear hb; dsimp only) | (go_at_call 32; refine (HR.out _ hL.below).mono ?_; rintro e w1 ⟨rfl, hb⟩; replace hL := hL.grow hb; clear hb; dsimp only))
    (try simp only [Exit.inBlock, Exit.then]); refine' ret1 rfl ?_ rfl ?_; (case refine'_2 => exact cRes)
    exact ⟨by rw [HF.out]; rfl, hL.below⟩
  · have HF := Lib.hid (show checkRun p is r vs ths fv = checkProg p is by simp [checkRun, h0])
    have hne : (checkProg p is != 0) = true := by simp [h0]
    have hk := HK.out
    generalize checkProg p is = c at hk hne HF
    have HK2 := Lib.hid hk
    clear hk h0
    go_enter Tryd.func12, Tryd.ntmps12
    go_wp2_with (first | (with_reducible refine lld hL ?_) | ((with_reducible first | refine lbx hL ?_ | refine lal hL ?_ | refine lbs hL ?_); clear hL; intro bl w1 hL) | ((with_reducible refine lst' hL ?_); clear hL; intro w1 hL) | (go_at_call 16; refine (HK2.out _ hL.below).mono ?_; rintro e w1 ⟨rfl, hb⟩; replace hL := hL.grow hb; clear hb; dsimp only))
    (try simp only [Exit.inBlock, Exit.then]); refine' ret1 rfl ?_ rfl ?_; (case refine'_2 => exact cRes)
    exact ⟨by rw [HF.out]; rfl, hL.below⟩
end Go.Proofs.YtkdbehgekeidoaaDoor
