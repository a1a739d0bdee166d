/- The walk over run.Begin. Conditions: what it reads lies in memory that was there. | The small program of the laws. Conditions: none. -/
import Derived.Test.YtmbiooaeglpaiaaGreatDat
import Derived.Test.YtmbiooaeglpaiaaGreatRrn
import Derived.Test.YtmbiooaeglpaiaaGreatPrg
set_option linter.unusedSimpArgs false
set_option linter.unusedVariables false
namespace Go.Proofs.YtmbiooaeglpaiaaGreat
open Go.RowKit

set_option maxRecDepth 100000 in
set_option maxHeartbeats 2000000 in
theorem runBegin_bad (p : Pg) (is : Nat → Ins) (w : World) (hn : p.n ≤ 9223372036854775807) (hc : CodeAt w p is) (hq : checkProg p is ≠ 0) :
    Calls Tryz.prog 30 #[p.v] w fun e w' => e = .returned (.tuple #[zeroR.v, .int .i64 (checkProg p is)]) ∧ Below w.heap.size w w' := by
  have HK := Lib.hid (fun w' (hb : Below w.heap.size w w') => codeCheck_any p is w' (hc.grow hb) hn)
  generalize checkProg p is = c at hq HK ⊢
  have hne : (c != 0) = true := bne_iff_ne.2 hq
  clear hq hc hn
  have hL := Loc.start w
  go_enter Tryz.func30, Tryz.ntmps30
  go_wp2_with (first | (with_reducible refine lld hL ?_) | ((with_reducible first | refine lbx hL ?_ | refine lal hL ?_ | refine lbs hL ?_); clear hL; intro bl w1 hL) | ((with_reducible refine lst' hL ?_); clear hL; intro w1 hL) | (go_at_call 34; refine (HK.out _ hL.below).mono ?_; rintro e w1 ⟨rfl, hb⟩; replace hL := hL.grow hb; clear hb; dsimp only))
  (try simp only [Exit.inBlock, Exit.then]); refine' ret2 rfl ?_ ?_ rfl ?_; (case refine'_3 => exact cRes); (case refine'_4 => exact cRes)
  exact ⟨rfl, hL.below⟩

set_option maxRecDepth 100000 in
set_option maxHeartbeats 2000000 in
theorem runBegin_ok (p : Pg) (is : Nat → Ins) (n : Nat) (w : World) (hn : p.n ≤ 9223372036854775807) (hc : CodeAt w p is) (hq : checkProg p is = 0) (hpn : p.vars = n) (hn8 : n ≤ 8) :
    Calls Tryz.prog 30 #[p.v] w fun e w' => ∃ r' ts Rv Rt Rl Rf, e = .returned (.tuple #[Rn.v r', .int .i64 0]) ∧ RowsR r' (beginS n) ts Rv Rt Rl Rf ∧ Own w.heap.size w' (Rv ++ (Rt ++ (Rl ++ Rf))) ∧ Below w.heap.size w w' := by
  have hk := fun w' (hb : Below w.heap.size w w') => codeCheck_any p is w' (hc.grow hb) hn
  rw [hq] at hk
  have HK := Lib.hid hk
  have HB := Lib.hid (fun w' => begin_any p n w' hpn hn8)
  clear hk hq hc hn hpn hn8
  have hL := Loc.start w
  go_enter Tryz.func30, Tryz.ntmps30
  go_wp2_with (first | (with_reducible refine lld hL ?_) | ((with_reducible first | refine lbx hL ?_ | refine lal hL ?_ | refine lbs hL ?_); clear hL; intro bl w1 hL) | ((with_reducible refine lst' hL ?_); clear hL; intro w1 hL) | (go_at_call 34; refine (HK.out _ hL.below).mono ?_; rintro e w1 ⟨rfl, hb⟩; replace hL := hL.grow hb; clear hb; dsimp only) | (go_at_call 59; refine (HB.out _).mono ?_; rintro e w3 ⟨⟨ra, rv, rt, rk, rl, re⟩, ts, Rv, Rt, Rl, Rf, rfl, hR, ho, hb⟩; replace hL := hL.gainTail hb ho; simp only [List.cons_append, List.nil_append] at hL; clear ho hb; dsimp only))
  (try simp only [Exit.inBlock, Exit.then]); refine' ret2 rfl ?_ ?_ rfl ?_; (case refine'_3 => exact cRes); (case refine'_4 => exact cRes)
  exact ⟨⟨ra, rv, rt, rk, rl, re⟩, _, _, _, _, _, rfl, hR, hL.ownOf (by repeat (first | exact List.Sublist.refl _ | apply List.Sublist.cons)), hL.below⟩
end Go.Proofs.YtmbiooaeglpaiaaGreat
set_option linter.unusedSimpArgs false
set_option linter.unusedVariables false
namespace Go.Proofs.YtmbiooaeglpaiaaGreat
open Go.RowKit
def smallIs (k : Nat) : Ins := if k = 0 then ⟨1, 0, 0, 0, 5, 0⟩ else ⟨18, 0, 0, 0, 0, 0⟩
abbrev smallC : List Value := [.int .i64 1, .int .i64 0, .int .i64 0, .int .i64 0, .int .i64 5, .int .i64 0, .int .i64 18, .int .i64 0, .int .i64 0, .int .i64 0, .int .i64 0, .int .i64 0]
abbrev smallP (b : Nat) : Pg := ⟨1, 0, some ⟨b, 0, none⟩, 2, 2⟩
theorem small_code {w : World} {b : Nat} (h : w.heap[b]? = some (.cells smallC.toArray 76 (0, 0))) : CodeAt w (smallP b) smallIs := by
  refine ⟨b, 0, fun _ => rfl, fun k hk => ⟨heap_lt h, fun j v hj => ?_⟩⟩
  have hk2 : k < 2 := hk
  have hj6 : j < 6 := (List.getElem?_eq_some_iff.1 hj).1
  have e : w.cell? ⟨b, 0 + k * 6 + j, none⟩ = smallC[k * 6 + j]? := by simp [World.cell?, h]
  rw [e, ← hj]
  obtain rfl | rfl : k = 0 ∨ k = 1 := by omega
  all_goals
    obtain rfl | rfl | rfl | rfl | rfl | rfl : j = 0 ∨ j = 1 ∨ j = 2 ∨ j = 3 ∨ j = 4 ∨ j = 5 := by omega
    all_goals rfl
theorem small_right (b : Nat) : checkProg (smallP b) smallIs = 0 := rfl

set_option maxRecDepth 100000 in
set_option maxHeartbeats 400000 in
theorem small_any (w : World) :
    Calls Tryz.prog 29 #[] w fun e w' => ∃ b, e = .returned (smallP b).v ∧ w.heap.size ≤ b ∧ w'.heap[b]? = some (.cells smallC.toArray 76 (0, 0)) ∧ Below w.heap.size w w' := by
  have hL := Loc.start w
  go_enter Tryz.func29, Tryz.ntmps29
  go_wp2_with (first | (with_reducible refine lld hL ?_) | ((with_reducible first | refine lbx hL ?_ | refine lal hL ?_ | refine lbs hL ?_); clear hL; intro bl w1 hL) | ((with_reducible refine lst' hL ?_); clear hL; intro w1 hL))
  (try simp only [Exit.inBlock, Exit.then]); refine' ret1 rfl ?_ rfl ?_; (case refine'_2 => exact cRes)

  exact ⟨_, rfl, hL.ids _ List.mem_cons_self, hL.cells _ List.mem_cons_self, hL.below⟩
def SmR (B : Nat) : Value → World → Prop := fun v w => ∃ b, B ≤ b ∧ v = (smallP b).v ∧ w.heap[b]? = some (.cells smallC.toArray 76 (0, 0))
theorem SmR.stable {B : Nat} : Stable (SmR B) := by
  rintro v w w' hb ⟨b, h1, h2, h3⟩; exact ⟨b, h1, h2, by rw [hb.block _ (heap_lt h3)]; exact h3⟩
end Go.Proofs.YtmbiooaeglpaiaaGreat
