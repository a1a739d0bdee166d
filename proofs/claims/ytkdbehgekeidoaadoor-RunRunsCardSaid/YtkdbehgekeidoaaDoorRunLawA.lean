/- The small functions of the laws over runs: the small program, what a run of it comes to, and when two runs are told the same. Conditions: the library's table of powers reads as it is laid. -/
import Derived.Test.YtkdbehgekeidoaaDoorRunOf
import Derived.Test.YtkdbehgekeidoaaDoorRunFuel
import Derived.Test.YtkdbehgekeidoaaDoorKep
import Derived.Test.YtkdbehgekeidoaaDoorRefCheck
set_option linter.unusedSimpArgs false
set_option linter.unusedVariables false
namespace Go.Proofs.YtkdbehgekeidoaaDoor
open Go.RowKit

/-! ### The small program -/
def smallIs (k : Nat) : Ins := if k = 0 then ⟨1, 0, 0, 0, 5, 0⟩ else ⟨18, 0, 0, 0, 0, 0⟩
abbrev smallC : List Value := [.int .i64 1, .int .i64 0, .int .i64 0, .int .i64 0, .int .i64 5, .int .i64 0, .int .i64 18, .int .i64 0, .int .i64 0, .int .i64 0, .int .i64 0, .int .i64 0]
abbrev smallP (b : Nat) : Pg := ⟨1, 0, some ⟨b, 0, none⟩, 2, 2⟩
theorem small_code {w : World} {b : Nat} (h : w.heap[b]? = some (.cells smallC.toArray 54 (0, 0))) : CodeAt w (smallP b) smallIs := by
  refine ⟨b, 0, fun _ => rfl, fun k hk => ⟨heap_lt h, fun j v hj => ?_⟩⟩
  have hk2 : k < 2 := hk
  have hj6 : j < 6 := (List.getElem?_eq_some_iff.1 hj).1
  have e : w.cell? ⟨b, 0 + k * 6 + j, none⟩ = smallC[k * 6 + j]? := by simp [World.cell?, h]
  rw [e, ← hj]
  obtain rfl | rfl : k = 0 ∨ k = 1 := by omega
  all_goals
    obtain rfl | rfl | rfl | rfl | rfl | rfl : j = 0 ∨ j = 1 ∨ j = 2 ∨ j = 3 ∨ j = 4 ∨ j = 5 := by omega
    all_goals rfl
theorem small_right (b : Nat) : checkProg (smallP b) smallIs = 0 := rfl

set_option maxRecDepth 100000 in
set_option maxHeartbeats 400000 in
theorem small_any (w : World) :
    Calls Tryd.prog 31 #[] w fun e w' => ∃ b, e = .returned (smallP b).v ∧ w.heap.size ≤ b ∧ w'.heap[b]? = some (.cells smallC.toArray 54 (0, 0)) ∧ Below w.heap.size w w' := by
  have hL := Loc.start w
  go_enter Tryd.func31, Tryd.ntmps31
  go_wp2_with (first | (with_reducible refine lld hL ?_) | ((with_reducible first | refine lbx hL ?_ | refine lal hL ?_ | refine lbs hL ?_); clear hL; intro bl w1 hL) | ((with_reducible refine lst' hL ?_); clear hL; intro w1 hL))
  (try simp only [Exit.inBlock, Exit.then]); refine' ret1 rfl ?_ rfl ?_; (case refine'_2 => exact cRes)

  exact ⟨_, rfl, hL.ids _ List.mem_cons_self, hL.cells _ List.mem_cons_self, hL.below⟩

/-! ### What a run of it comes to -/
abbrev nilS : Sl := ⟨none, 0, 0⟩
theorem nil_inputs (w : World) : InputsAt w nilS (fun _ => 0) := ⟨⟨0, 0, fun h => absurd h (Nat.lt_irrefl 0), fun k hk => absurd hk (Nat.not_lt_zero k)⟩, by decide⟩
abbrev smallEnd : Rs := ⟨2, [⟨1, 5⟩], [], 0, [⟨#[53]⟩], 1⟩
abbrev smallOn : Rs := ⟨1, [⟨1, 5⟩], [], 0, [], 0⟩
theorem line5 : lineV ⟨1, 5⟩ = ⟨#[53]⟩ := by
  have h : Lib.itoa 5 = [53] := by simp [Lib.itoa, Lib.decDigits]
  show (⟨(Lib.itoa 5).toArray⟩ : ByteArray) = _
  rw [h]
theorem small_run (b : Nat) : runN (smallP b) smallIs nilS (fun _ => 0) 10 (beginS 1) 0 = (smallEnd, 3) := by
  have h : runN (smallP b) smallIs nilS (fun _ => 0) 10 (beginS 1) 0 = (⟨2, [⟨1, 5⟩], [], 0, [lineV ⟨1, 5⟩], 1⟩, 3) := rfl
  rw [h, line5]
theorem small_step (b : Nat) : stepS (smallP b) smallIs nilS (fun _ => 0) (beginS 1) = smallOn := rfl
theorem small_check {b : Nat} {r : Rn} {vs : Nat → Vl} {ths : Nat → Th} {fv : Nat → Nat → Vl} (h0 : 0 ≤ r.at') (h1 : r.at' ≤ 2) (ht : r.taken = 0) (he : r.ending = 0) (hv : r.vars.n = 1) (hn : r.things.n = 0) (hx : isValue (vs 0) 0 = true) :
    checkRun (smallP b) smallIs r vs ths fv = 0 := by
  have e1 : placeBad (smallP b) r = false := by simp [placeBad, ht, he]; omega
  have e2 : siteBad (smallP b) smallIs r ths = false := by simp [siteBad, hn, anyN]
  have e3 : lenBad (smallP b) r ths = false := by simp [lenBad, hn, anyN]
  have e4 : varBad r vs = false := by simp [varBad, hv, hn, anyN, hx]
  have e5 : fieldBad r ths fv = false := by simp [fieldBad, hn, anyN]
  rw [checkRun, if_pos (small_right b)]
  simp [rightRun, e1, e2, e3, e4, e5, hv, hn]
theorem small_begin_right (b : Nat) : RightS (smallP b) (beginS 1) := (Gone.begin (p := smallP b) (n := 1) rfl (Int.natCast_nonneg _)).r
theorem small_step_any (b : Nat) (r : Rn) (w : World) (hc : CodeAt w (smallP b) smallIs) (hr : RunIs w r (beginS 1)) (hp : Pows w) :
    Calls Tryd.prog 6 #[(smallP b).v, r.v, nilS.v] w fun e w' => ∃ r' ts Rv Rt Rl Rf, e = .returned (.tuple #[Rn.v r', .int .i64 0]) ∧ RowsR r' smallOn ts Rv Rt Rl Rf ∧ Own w.heap.size w' (Rv ++ (Rt ++ (Rl ++ Rf))) ∧ Below w.heap.size w w' := by
  obtain ⟨ths, h1, h2⟩ := hr.ex
  have h3 := runStep_ok (smallP b) smallIs nilS (fun _ => 0) r (beginS 1) _ ths _ w (show (2 : Nat) ≤ 9223372036854775807 by decide) hc h1.l
    (small_check (by rw [hr.a]; decide) (by rw [hr.a]; decide) hr.t hr.e hr.nv hr.nt rfl) hr (small_begin_right b) (small_right b) (nil_inputs w) (by decide) hp
  rw [small_step] at h3
  exact h3
theorem small_check_any (b : Nat) (r : Rn) (w : World) (hc : CodeAt w (smallP b) smallIs) (hr : RunIs w r smallOn) :
    Calls Tryd.prog 12 #[(smallP b).v, r.v] w fun e w' => e = .returned (.int .i64 0) ∧ Below w.heap.size w w' := by
  obtain ⟨ths, h1, h2⟩ := hr.ex
  have h3 := runCheck_any (smallP b) smallIs r _ ths _ w (show (2 : Nat) ≤ 9223372036854775807 by decide) hc h1.l
  rw [small_check (by rw [hr.a]; decide) (by rw [hr.a]; decide) hr.t hr.e hr.nv hr.nt rfl] at h3
  exact h3

/-! ### Two runs told the same -/
set_option maxRecDepth 100000 in
set_option maxHeartbeats 800000 in
theorem runIs_same (a b : Rn) (s : Rs) (w : World) (ha : RunIs w a s) (hb : RunIs w b s) :
    Calls Tryd.prog 13 #[a.v, .int .i64 0, .int .i64 0, b.v] w fun e w' => e = .returned (.bool true) ∧ Below w.heap.size w w' := by
  obtain ⟨va, vb, ta, tb, fa, fb, la, lb, h1, h2, h3⟩ := ha.same hb
  have h4 := fun w' (hb : Below w.heap.size w w') => sameRun_any a b va vb ta tb fa fb la lb w' (h1.grow hb) (h2.grow hb)
  rw [h3] at h4
  have HS := Lib.hid h4
  clear ha hb h1 h2 h3 h4
  obtain ⟨aa, av, at', ak, al, ae⟩ := a
  obtain ⟨ba, bv, bt, bk, bl, be⟩ := b
  have hL := Loc.start w
  go_enter Tryd.func13, Tryd.ntmps13
  go_wp2_with (first | (with_reducible refine lld hL ?_) | ((with_reducible first | refine lbx hL ?_ | refine lal hL ?_ | refine lbs hL ?_); clear hL; intro bl w1 hL) | ((with_reducible refine lst' hL ?_); clear hL; intro w1 hL) | (go_at_call 33; refine (HS.out _ hL.below).mono ?_; rintro e w1 ⟨rfl, hb⟩; replace hL := hL.grow hb; clear hb; dsimp only))
  (try simp only [Exit.inBlock, Exit.then]); refine' ret1 rfl ?_ rfl ?_; (case refine'_2 => exact cRes)
  exact ⟨by simp, hL.below⟩
set_option maxRecDepth 100000 in
set_option maxHeartbeats 800000 in
theorem runIs_zero (e : Int) (b : Rn) (he : e ≠ 0) (w : World) :
    Calls Tryd.prog 13 #[zeroR.v, .int .i64 e, .int .i64 e, b.v] w fun e w' => e = .returned (.bool true) ∧ Below w.heap.size w w' := by
  have h5 : ∀ w', Calls Tryd.prog 33 #[zeroR.v, zeroR.v] w' fun e w'' => e = .returned (.bool true) ∧ Below w'.heap.size w' w'' := fun w' => by
    obtain ⟨va, vb, ta, tb, fa, fb, la, lb, h1, h2, h3⟩ := (zero_is w').same (zero_is w')
    have h4 := sameRun_any zeroR zeroR va vb ta tb fa fb la lb w' h1 h2
    rw [h3] at h4
    exact h4
  have HS := Lib.hid h5
  clear h5
  have h1 : (e != 0) = true := bne_iff_ne.2 he
  clear he
  obtain ⟨ba, bv, bt, bk, bl, be⟩ := b
  have hL := Loc.start w
  go_enter Tryd.func13, Tryd.ntmps13
  go_wp2_with (first | (with_reducible refine lld hL ?_) | ((with_reducible first | refine lbx hL ?_ | refine lal hL ?_ | refine lbs hL ?_); clear hL; intro bl w1 hL) | ((with_reducible refine lst' hL ?_); clear hL; intro w1 hL) | (go_at_call 33; refine (HS.out _).mono ?_; rintro e w1 ⟨rfl, hb⟩; replace hL := hL.grow hb; clear hb; dsimp only))
  (try simp only [Exit.inBlock, Exit.then]); refine' ret1 rfl ?_ rfl ?_; (case refine'_2 => exact cRes)
  exact ⟨by simp, hL.below⟩
end Go.Proofs.YtkdbehgekeidoaaDoor
