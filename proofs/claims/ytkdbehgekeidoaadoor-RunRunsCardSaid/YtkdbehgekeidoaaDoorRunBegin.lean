/- The walk over run.Begin. Conditions: what it reads lies in memory that was there. -/
import Derived.Test.YtkdbehgekeidoaaDoorRunStep
set_option linter.unusedSimpArgs false
set_option linter.unusedVariables false
namespace Go.Proofs.YtkdbehgekeidoaaDoor
open Go.RowKit

set_option maxRecDepth 100000 in
set_option maxHeartbeats 2000000 in
theorem runBegin_bad (p : Pg) (is : Nat → Ins) (w : World) (hn : p.n ≤ 9223372036854775807) (hc : CodeAt w p is) (hq : checkProg p is ≠ 0) :
    Calls Tryd.prog 5 #[p.v] w fun e w' => e = .returned (.tuple #[zeroR.v, .int .i64 (checkProg p is)]) ∧ Below w.heap.size w w' := by
  have HK := Lib.hid (fun w' (hb : Below w.heap.size w w') => codeCheck_any p is w' (hc.grow hb) hn)
  generalize checkProg p is = c at hq HK ⊢
  have hne : (c != 0) = true := bne_iff_ne.2 hq
  clear hq hc hn
  have hL := Loc.start w
  go_enter Tryd.func5, Tryd.ntmps5
  go_wp2_with (first | (with_reducible refine lld hL ?_) | ((with_reducible first | refine lbx hL ?_ | refine lal hL ?_ | refine lbs hL ?_); clear hL; intro bl w1 hL) | ((with_reducible refine lst' hL ?_); clear hL; intro w1 hL) | (go_at_call 16; refine (HK.out _ hL.below).mono ?_; rintro e w1 ⟨rfl, hb⟩; replace hL := hL.grow hb; clear hb; dsimp only))
  (try simp only [Exit.inBlock, Exit.then]); refine' ret2 rfl ?_ ?_ rfl ?_; (case refine'_3 => exact cRes); (case refine'_4 => exact cRes)
  exact ⟨rfl, hL.below⟩

set_option maxRecDepth 100000 in
set_option maxHeartbeats 2000000 in
theorem runBegin_ok (p : Pg) (is : Nat → Ins) (n : Nat) (w : World) (hn : p.n ≤ 9223372036854775807) (hc : CodeAt w p is) (hq : checkProg p is = 0) (hpn : p.vars = n) (hn8 : n ≤ 8) :
    Calls Tryd.prog 5 #[p.v] w fun e w' => ∃ r' ts Rv Rt Rl Rf, e = .returned (.tuple #[Rn.v r', .int .i64 0]) ∧ RowsR r' (beginS n) ts Rv Rt Rl Rf ∧ Own w.heap.size w' (Rv ++ (Rt ++ (Rl ++ Rf))) ∧ Below w.heap.size w w' := by
  have hk := fun w' (hb : Below w.heap.size w w') => codeCheck_any p is w' (hc.grow hb) hn
  rw [hq] at hk
  have HK := Lib.hid hk
  have HB := Lib.hid (fun w' => begin_any p n w' hpn hn8)
  clear hk hq hc hn hpn hn8
  have hL := Loc.start w
  go_enter Tryd.func5, Tryd.ntmps5
  go_wp2_with (first | (with_reducible refine lld hL ?_) | ((with_reducible first | refine lbx hL ?_ | refine lal hL ?_ | refine lbs hL ?_); clear hL; intro bl w1 hL) | ((with_reducible refine lst' hL ?_); clear hL; intro w1 hL) | (go_at_call 16; refine (HK.out _ hL.below).mono ?_; rintro e w1 ⟨rfl, hb⟩; replace hL := hL.grow hb; clear hb; dsimp only) | (go_at_call 17; refine (HB.out _).mono ?_; rintro e w3 ⟨⟨ra, rv, rt, rk, rl, re⟩, ts, Rv, Rt, Rl, Rf, rfl, hR, ho, hb⟩; replace hL := hL.gainTail hb ho; simp only [List.cons_append, List.nil_append] at hL; clear ho hb; dsimp only))
  (try simp only [Exit.inBlock, Exit.then]); refine' ret2 rfl ?_ ?_ rfl ?_; (case refine'_3 => exact cRes); (case refine'_4 => exact cRes)
  exact ⟨⟨ra, rv, rt, rk, rl, re⟩, _, _, _, _, _, rfl, hR, hL.ownOf (by repeat (first | exact List.Sublist.refl _ | apply List.Sublist.cons)), hL.below⟩
end Go.Proofs.YtkdbehgekeidoaaDoor
