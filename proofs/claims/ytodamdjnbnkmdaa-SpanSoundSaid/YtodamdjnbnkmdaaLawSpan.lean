/- The walks over what the laws on spans lean on. Conditions: none. -/
import Derived.Test.YtodamdjnbnkmdaaSpanC
import Derived.Test.YtodamdjnbnkmdaaDraw
set_option linter.unusedSimpArgs false
set_option linter.unusedVariables false
namespace Go.Proofs.Ytodamdjnbnkmdaa
open Go.RowKit

theorem ret_int {k : IntKind} {a b : Int} (h : a = b) : Ending.returned (.int k a) = .returned (.int k b) := by rw [h]
theorem begun_do : doSpan 5 ⟨false, 1, 2⟩ ⟨false, 3, 5⟩ = ⟨false, 4, 7⟩ ∧ doErr 5 ⟨false, 1, 2⟩ ⟨false, 3, 5⟩ = 0 := ⟨rfl, rfl⟩
theorem begun_widen : withSpan wider ⟨false, 0, 0⟩ ⟨false, 0, 1⟩ = ⟨false, 0, 2147483647⟩ ∧ checkSpans ⟨false, 0, 0⟩ ⟨false, 0, 1⟩ = 0 := ⟨rfl, rfl⟩
theorem begun_has : (checkSpan ⟨false, 4, 7⟩ == 0 && inSpan ⟨false, 4, 7⟩ 6) = true ∧ checkSpan ⟨false, 4, 7⟩ = 0 := ⟨rfl, rfl⟩

theorem b_do (w : World) : Calls Try.prog 7 #[.int .i64 5, Span.v ⟨false, 1, 2⟩, Span.v ⟨false, 3, 5⟩] w fun e w' => e = .returned (.tuple #[Span.v ⟨false, 4, 7⟩, .int .i64 0]) ∧ Below w.heap.size w w' := by
  have h := do_any 5 ⟨false, 1, 2⟩ ⟨false, 3, 5⟩ w
  rw [begun_do.1, begun_do.2] at h; exact h
theorem b_widen (w : World) : Calls Try.prog 11 #[Span.v ⟨false, 0, 0⟩, Span.v ⟨false, 0, 1⟩] w fun e w' => e = .returned (.tuple #[Span.v ⟨false, 0, 2147483647⟩, .int .i64 0]) ∧ Below w.heap.size w w' := by
  have h := widen_any ⟨false, 0, 0⟩ ⟨false, 0, 1⟩ w
  rw [begun_widen.1, begun_widen.2] at h; exact h
theorem b_has (w : World) : Calls Try.prog 8 #[Span.v ⟨false, 4, 7⟩, .int .i64 6] w fun e w' => e = .returned (.tuple #[.bool true, .int .i64 0]) ∧ Below w.heap.size w w' := by
  have h := has_any ⟨false, 4, 7⟩ 6 w
  rw [begun_has.1, begun_has.2] at h; exact h
theorem b_check (w : World) : Calls Try.prog 21 #[Span.v ⟨false, 4, 7⟩] w fun e w' => e = .returned (.int .i64 0) ∧ Below w.heap.size w w' := by
  have h := check_any ⟨false, 4, 7⟩ w
  rw [begun_has.2] at h; exact h

set_option maxRecDepth 100000 in
set_option maxHeartbeats 1600000 in
theorem begun_any  (w : World) :
    Calls Try.prog 5 #[] w fun e w' => e = .returned (.bool true) ∧ Below w.heap.size w w' := by
  have hL := Loc.start w
  go_enter Try.func5, Try.ntmps5
  go_wp2_with (first | ((with_reducible refine' loc_load hL ?_ ?_ ?_ ?_ ?_); (case refine'_7 => first | (with_reducible exact want0) | (refine want1 rfl ?_; (simp only [Act.put, List.setIfInBounds_toArray, List.set_cons_zero, List.set_cons_succ, List.getElem?_toArray, List.getElem?_cons_succ, List.getElem?_cons_zero]); done) | (refine want1 rfl ?_; (simp only [Act.put, List.setIfInBounds_toArray, List.set_cons_zero, List.set_cons_succ, List.getElem?_toArray, List.getElem?_cons_succ, List.getElem?_cons_zero, Option.some.injEq, Value.bool.injEq]); assumption)); (case refine'_8 => rfl); (case refine'_9 => repeat (first | exact InL.head | apply InL.tail)); (case refine'_10 => first | exact Reads.cell tInt rfl | exact Reads.cell tBool rfl | exact Reads.cell tErrno rfl | exact Reads.agg tSpan (by simp only [List.drop_zero, List.drop_succ_cons, List.take_succ_cons, List.take_zero]; rfl) rfl)) | ((with_reducible refine' loc_box hL ?_ ?_ ?_); (case refine'_2 => first | (with_reducible exact want0) | (refine want1 rfl ?_; (simp only [Act.put, List.setIfInBounds_toArray, List.set_cons_zero, List.set_cons_succ, List.getElem?_toArray, List.getElem?_cons_succ, List.getElem?_cons_zero]); done) | (refine want1 rfl ?_; (simp only [Act.put, List.setIfInBounds_toArray, List.set_cons_zero, List.set_cons_succ, List.getElem?_toArray, List.getElem?_cons_succ, List.getElem?_cons_zero, Option.some.injEq, Value.bool.injEq]); assumption)); (case refine'_3 => (first | (simp only [Act.eval, Act.put, Span.v, Value.cells, Array.getD_eq_getD_getElem?, List.getElem?_toArray, List.getElem?_cons_zero, List.getElem?_cons_succ, Option.getD_some, List.setIfInBounds_toArray, List.set_cons_zero, List.set_cons_succ]; rfl) | rfl)); clear hL; intro _ w1 hL) | ((with_reducible refine' loc_alloc hL ?_ ?_ ?_); (case refine'_2 => first | (with_reducible exact want0) | (refine want1 rfl ?_; (simp only [Act.put, List.setIfInBounds_toArray, List.set_cons_zero, List.set_cons_succ, List.getElem?_toArray, List.getElem?_cons_succ, List.getElem?_cons_zero]); done) | (refine want1 rfl ?_; (simp only [Act.put, List.setIfInBounds_toArray, List.set_cons_zero, List.set_cons_succ, List.getElem?_toArray, List.getElem?_cons_succ, List.getElem?_cons_zero, Option.some.injEq, Value.bool.injEq]); assumption)); (case refine'_3 => first | exact zSpan); clear hL; intro _ w1 hL) | ((with_reducible refine' loc_store hL ?_ ?_ ?_ ?_ ?_ ?_ ?_ ?_ ?_); (case refine'_8 => first | (with_reducible exact want0) | (refine want1 rfl ?_; (simp only [Act.put, List.setIfInBounds_toArray, List.set_cons_zero, List.set_cons_succ, List.getElem?_toArray, List.getElem?_cons_succ, List.getElem?_cons_zero]); done) | (refine want1 rfl ?_; (simp only [Act.put, List.setIfInBounds_toArray, List.set_cons_zero, List.set_cons_succ, List.getElem?_toArray, List.getElem?_cons_succ, List.getElem?_cons_zero, Option.some.injEq, Value.bool.injEq]); assumption)); (case refine'_9 => rfl); (case refine'_10 => repeat (first | exact InL.head | apply InL.tail)); (case refine'_11 => (first | (simp only [Act.eval, Act.put, Span.v, Value.cells, Array.getD_eq_getD_getElem?, List.getElem?_toArray, List.getElem?_cons_zero, List.getElem?_cons_succ, Option.getD_some, List.setIfInBounds_toArray, List.set_cons_zero, List.set_cons_succ]; rfl) | rfl)); (case refine'_12 => first | exact tInt.sz | exact tBool.sz | exact tSpan.sz | exact tErrno.sz); (case refine'_13 => rfl); (case refine'_14 => simp); (case refine'_15 => simp only [spliced, List.take_zero, List.take_succ_cons, List.drop_zero, List.drop_succ_cons, List.drop_nil, List.nil_append, List.cons_append, List.append_nil, List.length_cons, List.length_nil, Nat.zero_add, Nat.reduceAdd]; rfl); clear hL; intro w1 hL) | ((with_reducible refine' loc_buildSlice hL ?_ ?_ ?_ ?_ ?_ ?_ ?_ ?_); (case refine'_4 => first | (with_reducible exact want0) | (refine want1 rfl ?_; (simp only [Act.put, List.setIfInBounds_toArray, List.set_cons_zero, List.set_cons_succ, List.getElem?_toArray, List.getElem?_cons_succ, List.getElem?_cons_zero]); done) | (refine want1 rfl ?_; (simp only [Act.put, List.setIfInBounds_toArray, List.set_cons_zero, List.set_cons_succ, List.getElem?_toArray, List.getElem?_cons_succ, List.getElem?_cons_zero, Option.some.injEq, Value.bool.injEq]); assumption)); (case refine'_5 => first | exact sInts | exact sSpans); (case refine'_6 => simp); (case refine'_7 => simp); (case refine'_8 => rfl); (case refine'_9 => (simp only [List.map_toArray, List.map_cons, List.map_nil, List.flatten_cons, List.flatten_nil, List.append_nil, List.nil_append, List.cons_append, Act.eval, Act.put, Span.v, Value.cells, Array.getD_eq_getD_getElem?, List.getElem?_toArray, List.getElem?_cons_zero, List.getElem?_cons_succ, Option.getD_some, List.setIfInBounds_toArray, List.set_cons_zero, List.set_cons_succ]; rfl)); (case refine'_10 => rfl); clear hL; intro _ w1 hL) | (go_at_call 7; refine (b_do _).mono ?_; rintro e w1 ⟨rfl, hb⟩; replace hL := hL.grow hb; clear hb; dsimp only) | (go_at_call 11; refine (b_widen _).mono ?_; rintro e w1 ⟨rfl, hb⟩; replace hL := hL.grow hb; clear hb; dsimp only) | (go_at_call 8; refine (b_has _).mono ?_; rintro e w1 ⟨rfl, hb⟩; replace hL := hL.grow hb; clear hb; dsimp only) | (go_at_call 21; refine (b_check _).mono ?_; rintro e w1 ⟨rfl, hb⟩; replace hL := hL.grow hb; clear hb; dsimp only))
  (try simp only [Exit.inBlock, Exit.then]); refine' ret1 rfl ?_ rfl ?_; (case refine'_2 => first | exact resTmp rfl | exact resCell hL rfl (by repeat (first | exact InL.head | apply InL.tail)) (by first | exact Reads.cell tInt rfl | exact Reads.cell tBool rfl | exact Reads.cell tErrno rfl | exact Reads.agg tSpan (by simp only [List.drop_zero, List.drop_succ_cons, List.take_succ_cons, List.take_zero]; rfl) rfl))
  exact ⟨rfl, hL.below⟩

/-- Which of n things a raw number speaks of. -/
def chosen (c n : Int) : Int := if c < 0 then (-(c + 1)).tmod n else c.tmod n
theorem chosen_range (c n : Int) (hn : 0 < n) (h : -9223372036854775808 ≤ c) : 0 ≤ chosen c n ∧ chosen c n < n := by
  unfold chosen
  split
  · exact ⟨Int.tmod_nonneg _ (by omega), Int.tmod_lt_of_pos _ hn⟩
  · exact ⟨Int.tmod_nonneg _ (by omega), Int.tmod_lt_of_pos _ hn⟩

set_option maxHeartbeats 800000 in
theorem choose_any (c n : Int) (hn : 0 < n) (h1 : -9223372036854775808 ≤ c) (h2 : c ≤ 9223372036854775807) (h3 : n ≤ 9223372036854775807) (w : World) :
    Calls Try.prog 6 #[.int .i64 c, .int .i64 n] w fun e w' => e = .returned (.int .i64 (chosen c n)) ∧ w = w' := by
  have hz : (n == 0) = false := by simp; omega
  by_cases hc : c < 0
  all_goals
    go_enter Try.func6, Try.ntmps6
    go_wp2
    go_ret
    refine ⟨?_, rfl⟩
    first | (simp [chosen, hc]; done) | (simp [chosen]; rw [if_neg (by omega), Int.tmod_eq_emod_of_nonneg (by omega)])

/-- A number taken over 2 to the power of 32. -/
def wrapped (n : Int) : Int := if n % 4294967296 > 2147483647 then n % 4294967296 - 4294967296 else n % 4294967296
theorem wrapped_in {n : Int} (h1 : -2147483648 ≤ n) (h2 : n ≤ 2147483647) : wrapped n = n := by
  unfold wrapped; split <;> omega
theorem tmod_neg {n : Int} (h : n < 0) : -4294967296 < n.tmod 4294967296 ∧ n.tmod 4294967296 ≤ 0 ∧ (n.tmod 4294967296 = n % 4294967296 - 4294967296 ∨ (n.tmod 4294967296 = 0 ∧ n % 4294967296 = 0)) := by
  have e : n.tmod 4294967296 = -((-n) % 4294967296) := by
    rw [← Int.tmod_eq_emod_of_nonneg (show 0 ≤ -n by omega), Int.neg_tmod, Int.neg_neg]
  rw [e]; omega

set_option maxHeartbeats 800000 in
theorem wrap_any (n : Int) (h1 : -9223372036854775808 ≤ n) (h2 : n ≤ 9223372036854775807) (w : World) :
    Calls Try.prog 9 #[.int .i64 n] w fun e w' => e = .returned (.int .i64 (wrapped n)) ∧ w = w' := by
  by_cases hc : 0 ≤ n
  · go_enter Try.func9, Try.ntmps9
    go_wp2
    all_goals
      go_ret
      exact ⟨ret_int (by show _ = wrapped n; unfold wrapped; split <;> omega), rfl⟩
  · have ht := tmod_neg (show n < 0 by omega)
    have HK := Lib.hid ht.2.2
    obtain ⟨k1, k2, _⟩ := ht
    go_enter Try.func9, Try.ntmps9
    go_wp2
    all_goals
      have k3 := HK.out
      go_ret
      exact ⟨ret_int (by show _ = wrapped n; unfold wrapped; split <;> omega), rfl⟩
end Go.Proofs.Ytodamdjnbnkmdaa
