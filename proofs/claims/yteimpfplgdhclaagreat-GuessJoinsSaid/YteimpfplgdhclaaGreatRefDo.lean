/- The walk over the reference's DoSpan. Conditions: the spans are right. -/
import Derived.Test.YteimpfplgdhclaaGreatRefSpanC
set_option linter.unusedSimpArgs false
set_option linter.unusedVariables false
namespace Go.Proofs.YteimpfplgdhclaaGreat
open Go.RowKit

theorem Split.mk {R L : List LBlk} (n : Nat) (h : L.take n ++ R = L) : Split R L (L.take n) := by
  have : ∀ K : List LBlk, Split R (K ++ R) K := fun K => by
    induction K with
    | nil => exact .nil
    | cons x K ih => exact .cons x ih
  have h2 := this (L.take n)
  rw [h] at h2; exact h2
theorem news_of {w0 w : World} {L : List LBlk} {D : List Datum} (hL : Loc w0 w L D) {b : Nat} {T : TypeId} {cs : List Value} {f : List Value → List LBlk} (hm : InL b T cs L f) : ∀ (j : Nat) (u : Value), cs[j]? = some u → w.cell? ((⟨b, 0, none⟩ : Addr).add j) = some u := by
  intro j u hj
  rw [add_addr, hL.cell hm, Nat.zero_add]; exact hj
theorem row4 {w0 w : World} {L : List LBlk} {D : List Datum} {E : TypeId} {v : Value} {a b c d : Value} {R K : List LBlk} (h : RowL E 1 v 4 [a, b, c, d] R) (hL : Loc w0 w L D) (hK : Split R L K) :
    ∃ g cap, v = .slice (some ⟨g, 0, none⟩) 4 cap ∧ w.cell? ⟨g, 0, none⟩ = some a ∧ w.cell? ⟨g, 0 + 1, none⟩ = some b ∧ w.cell? ⟨g, 0 + 2, none⟩ = some c ∧ w.cell? ⟨g, 0 + 3, none⟩ = some d := by
  rcases h.2 with ⟨_, h0, _⟩ | ⟨g, cap, cs, hv, hR, _, _, _, ht⟩
  · cases h0
  · have hc : ∀ j, w.cell? ⟨g, j, none⟩ = cs[j]? := hL.all (g, E, cs) (by rw [hK.eq, hR]; simp)
    have hj : ∀ j, j < 4 → cs[j]? = [a, b, c, d][j]? := fun j hj => by rw [← ht, List.getElem?_take]; simp [hj]
    exact ⟨g, cap, hv, by rw [hc, hj _ (by omega)]; rfl, by rw [hc, hj _ (by omega)]; rfl, by rw [hc, hj _ (by omega)]; rfl, by rw [hc, hj _ (by omega)]; rfl⟩

theorem do_eq {k : Int} {s t : Span} (hk : k = 5 ∨ k = 6 ∨ k = 7) (hs : s.lo ≤ s.hi) (ht : t.lo ≤ t.hi) (h1 : s.none = false) (h2 : t.none = false) {mn mx : Int}
    (e1 : mn = min4 (opOf k s.lo t.lo) (opOf k s.lo t.hi) (opOf k s.hi t.lo) (opOf k s.hi t.hi)) (e2 : mx = max4 (opOf k s.lo t.lo) (opOf k s.lo t.hi) (opOf k s.hi t.lo) (opOf k s.hi t.hi)) :
    made k s t = if checkSpan ⟨false, mn, mx⟩ = 0 then ⟨false, mn, mx⟩ else ⟨false, -2147483648, 2147483647⟩ := by
  have hr : rawMade k s t = (mn, mx) := by
    subst e1; subst e2
    rcases hk with rfl | rfl | rfl
    · simp only [rawMade, opOf, min4, max4, min2, max2]
      simp
      constructor <;> (repeat' split) <;> omega
    · simp only [rawMade, opOf, min4, max4, min2, max2]
      simp
      constructor <;> (repeat' split) <;> omega
    · simp [rawMade, opOf]
  have hm := (raw_in (k := k) (Int.le_refl s.lo) hs (Int.le_refl t.lo) ht)
  rw [hr] at hm
  have hle : mn ≤ mx := by have := hm.1; have := hm.2; simp at *; omega
  unfold made
  simp only [h1, h2, Bool.or_self, Bool.false_eq_true, if_false, hr]
  by_cases hi : (inRange mn && inRange mx) = true
  · rw [if_pos hi, if_pos]
    simp only [Bool.and_eq_true, inRange_iff] at hi
    obtain ⟨⟨a1, a2⟩, a3, a4⟩ := hi
    exact checkSpan_ok ⟨a1, a2, a3, a4⟩ hle (by simp)
  · rw [if_neg hi, if_neg]
    intro hc
    apply hi
    obtain ⟨a1, a2, a3, a4⟩ := ends_of hc
    simp only [Bool.and_eq_true, inRange_iff]
    exact ⟨⟨a1, a2⟩, a3, a4⟩

set_option maxRecDepth 100000 in
set_option maxHeartbeats 4000000 in
theorem rDo_5 (s t : Span) (hs : checkSpan s = 0) (ht : checkSpan t = 0) (h1 : s.none = false) (h2 : t.none = false) (w : World) :
    Calls Tryz.prog 31 #[.int .i64 5, s.v, t.v] w fun e w' => e = .returned ((made 5 s t).v) ∧ Below w.heap.size w w' := by
  have hL := Loc.start w
  obtain ⟨⟨s1, s2, s3, s4⟩, hls, _⟩ := checkSpan_zero hs
  obtain ⟨⟨t1, t2, t3, t4⟩, hlt, _⟩ := checkSpan_zero ht
  have hF := do_eq (k := 5) (by omega) hls hlt h1 h2 rfl rfl
  simp only [opOf, if_neg (show ¬ (5 : Int) = 6 by decide), if_neg (show ¬ (5 : Int) = 7 by decide)] at hF
  obtain ⟨mn, hmn⟩ : ∃ mn, min4 (s.lo + t.lo) (s.lo + t.hi) (s.hi + t.lo) (s.hi + t.hi) = mn := ⟨_, rfl⟩
  obtain ⟨mx, hmx⟩ : ∃ mx, max4 (s.lo + t.lo) (s.lo + t.hi) (s.hi + t.lo) (s.hi + t.hi) = mx := ⟨_, rfl⟩
  rw [hmn, hmx] at hF
  clear hs ht
  have Hmm := Lib.hid (And.intro hmn (And.intro hmx hF))
  clear hmn hmx hF
  have hL := Loc.start w
  go_enter Tryz.func31, Tryz.ntmps31
  go_wp2_with (first | (with_reducible refine lld hL ?_) | ((with_reducible first | refine lbx hL ?_ | refine lal hL ?_ | refine lbs hL ?_); clear hL; intro bl w1 hL) | ((with_reducible refine lst' hL ?_); clear hL; intro w1 hL))
  refine draw_begin [20, 21, 22, 23, 24, 25, 26, 27, 28, 29, 8, 9] ?_
  iterate 4 (refine' draw_val ?_ ?_; rotate_left; (focus (intro g w hb hdep; replace hL := hL.grow hb; (try simp [depsOf, List.filter_cons, Region.binds, AllR, RAt] at hdep); simp only [fillD, List.foldl_cons, List.foldl_nil, List.set_cons_succ, List.set_cons_zero]; (try simp only [hdep]); go_wp2_with (first | (with_reducible refine lld hL ?_) | (with_reducible refine ldD hL ?_)); exact ⟨rfl, _, rfl, Below.refl _ _, rfl⟩)); simp only [List.nil_append, List.cons_append])
  refine draw_next (RowP w1.heap.size 3 2 [.int .i64 s.lo, .int .i64 s.hi]) RowP.stable ?_ ?_
  · intro g w hb hdep; replace hL := hL.grow hb; (try simp [depsOf, List.filter_cons, Region.binds, AllR, RAt] at hdep); simp only [fillD, List.foldl_cons, List.foldl_nil, List.set_cons_succ, List.set_cons_zero]
    (try simp only [hdep])
    go_wp2
    exact ⟨rfl, _, rfl, (Below.refl _ _).alloc (Nat.le_refl _) _, _, hb.size, rfl, heap_new _ _⟩
  simp only [apN, apC]
  iterate 4 (refine' draw_val ?_ ?_; rotate_left; (focus (intro g w hb hdep; replace hL := hL.grow hb; (try simp [depsOf, List.filter_cons, Region.binds, AllR, RAt] at hdep); simp only [fillD, List.foldl_cons, List.foldl_nil, List.set_cons_succ, List.set_cons_zero]; (try simp only [hdep]); go_wp2_with (first | (with_reducible refine lld hL ?_) | (with_reducible refine ldD hL ?_)); exact ⟨rfl, _, rfl, Below.refl _ _, rfl⟩)); simp only [List.nil_append, List.cons_append])
  refine draw_next (RowP w1.heap.size 3 2 [.int .i64 t.lo, .int .i64 t.hi]) RowP.stable ?_ ?_
  · intro g w hb hdep; replace hL := hL.grow hb; (try simp [depsOf, List.filter_cons, Region.binds, AllR, RAt] at hdep); simp only [fillD, List.foldl_cons, List.foldl_nil, List.set_cons_succ, List.set_cons_zero]
    (try simp only [hdep])
    go_wp2
    exact ⟨rfl, _, rfl, (Below.refl _ _).alloc (Nat.le_refl _) _, _, hb.size, rfl, heap_new _ _⟩
  simp only [apN, apC]
  refine draw_next (RowP w1.heap.size 3 2 [.int .i64 s.lo, .int .i64 s.hi]) RowP.stable ?_ ?_
  · intro g w hb hdep
    have hd : RowP w1.heap.size 3 2 [.int .i64 s.lo, .int .i64 s.hi] (g 24) w := allR_get (j := 4) hdep (by simp [depsOf, List.filter_cons, Region.binds])
    obtain ⟨b, e0, e1, e2⟩ := hd
    simp only [fillD, List.foldl_cons, List.foldl_nil, List.set_cons_succ, List.set_cons_zero]
    simp only [e1]
    go_wp2
    exact ⟨rfl, _, rfl, Below.refl _ _, b, e0, rfl, e2⟩
  simp only [apN, apC]
  refine draw_next (RowP w1.heap.size 3 2 [.int .i64 t.lo, .int .i64 t.hi]) RowP.stable ?_ ?_
  · intro g w hb hdep
    have hd : RowP w1.heap.size 3 2 [.int .i64 t.lo, .int .i64 t.hi] (g 29) w := allR_get (j := 9) hdep (by simp [depsOf, List.filter_cons, Region.binds])
    obtain ⟨b, e0, e1, e2⟩ := hd
    simp only [fillD, List.foldl_cons, List.foldl_nil, List.set_cons_succ, List.set_cons_zero]
    simp only [e1]
    go_wp2
    exact ⟨rfl, _, rfl, Below.refl _ _, b, e0, rfl, e2⟩
  simp only [apN, apC]
  refine draw_end hL (by kernel_rfl) (by kernel_rfl) ?_; intro g wA hb hR; simp [AllR, RAt, List.range, List.range.loop] at hR; simp only [fillD, List.foldl_cons, List.foldl_nil, List.set_cons_succ, List.set_cons_zero, hR]
  obtain ⟨ba, k10, k20, k30⟩ : RowP w1.heap.size 3 2 [.int .i64 s.lo, .int .i64 s.hi] (g 8) wA := by simp only [hR]
  obtain ⟨bb, k11, k21, k31⟩ : RowP w1.heap.size 3 2 [.int .i64 t.lo, .int .i64 t.hi] (g 9) wA := by simp only [hR]
  replace hL := hL.moreAll hb (Ds := [HeapAt ba 3 [.int .i64 s.lo, .int .i64 s.hi], HeapAt bb 3 [.int .i64 t.lo, .int .i64 t.hi]]) (by
    intro S hS
    simp only [List.mem_cons, List.not_mem_nil, or_false] at hS
    rcases hS with rfl | rfl
    · exact HeapAt.fresh k10 k30
    · exact HeapAt.fresh k11 k31)
  simp only [List.cons_append, List.nil_append] at hL
  simp only [k20, k21]
  clear k10 k20 k30 k11 k21 k31
  clear hR hb
  have hA : RowL 3 1 (.slice none 0 0) 0 [] [] := RowL.nil
  go_wp2_with (first | (with_reducible refine lld hL ?_) | ((with_reducible first | refine lbx hL ?_ | refine lal hL ?_ | refine lbs hL ?_); clear hL; intro bl w1 hL) | ((with_reducible refine lst' hL ?_); clear hL; intro w1 hL) | ((with_reducible refine wp_loop_rounds 5 ?_)) | (with_reducible refine rounds_go ?_))
  refine draw_begin [41, 42, 43, 44, 45, 46, 47, 48, 49, 50, 51] ?_
  iterate 10 (refine' draw_val ?_ ?_; rotate_left; (focus (intro g w hb hdep; replace hL := hL.grow hb; (try simp [depsOf, List.filter_cons, Region.binds, AllR, RAt] at hdep); simp only [fillD, List.foldl_cons, List.foldl_nil, List.set_cons_succ, List.set_cons_zero]; (try simp only [hdep]); go_wp2_with (first | (with_reducible refine lld hL ?_) | (with_reducible refine ldD hL ?_)); exact ⟨rfl, _, rfl, Below.refl _ _, rfl⟩)); simp only [List.nil_append, List.cons_append])
  refine draw_next (RowP wA.heap.size 3 1 [.int .i64 (s.lo + t.lo)]) RowP.stable ?_ ?_
  · intro g w hb hdep; replace hL := hL.grow hb; (try simp [depsOf, List.filter_cons, Region.binds, AllR, RAt] at hdep); simp only [fillD, List.foldl_cons, List.foldl_nil, List.set_cons_succ, List.set_cons_zero]
    (try simp only [hdep])
    go_wp2
    exact ⟨rfl, _, rfl, (Below.refl _ _).alloc (Nat.le_refl _) _, _, hb.size, rfl, heap_new _ _⟩
  simp only [apN, apC]
  refine draw_end hL (by kernel_rfl) (by kernel_rfl) ?_; intro g wB0 hb hR; simp [AllR, RAt, List.range, List.range.loop] at hR; simp only [fillD, List.foldl_cons, List.foldl_nil, List.set_cons_succ, List.set_cons_zero, hR]
  obtain ⟨bx0, k1, k2, k3⟩ : RowP wA.heap.size 3 1 [.int .i64 (s.lo + t.lo)] (g 51) wB0 := by simp only [hR]
  replace hL := hL.gain hb k1 k3
  simp only [k2]
  clear k1 k2 k3
  clear hR hb
  (with_reducible refine' loc_append (news := [.int .i64 (s.lo + t.lo)]) (ad := ⟨bx0, 0, none⟩) (m := 1) (c := 1) hA hL ?aw0 ?as0 (Split.mk 4 rfl) sInts bInt ?az0 ?ax0 ?an0 ?al0 ?a10 ?am0 ?ab0 ?ah0)
  case aw0 => exact want0
  case as0 => rfl
  case az0 => simp
  case ax0 => rfl
  case an0 => exact news_of hL (b := bx0) (by repeat (first | exact InL.head | apply InL.tail))
  case al0 => rfl
  case a10 => simp [Value.oneCell']
  case am0 => unfold maxLen; omega
  case ab0 => omega
  clear hL hA
  intro vA RA wC0 hA hL
  simp only [Nat.zero_add, List.nil_append, List.cons_append, Nat.reduceAdd, List.take_succ_cons, List.take_zero] at hA hL
  go_wp2_with (first | (with_reducible refine lld hL ?_) | ((with_reducible first | refine lbx hL ?_ | refine lal hL ?_ | refine lbs hL ?_); clear hL; intro bl w1 hL) | ((with_reducible refine lst' hL ?_); clear hL; intro w1 hL) | ((with_reducible refine wp_loop_rounds 5 ?_)) | (with_reducible refine rounds_go ?_))
  refine draw_begin [41, 42, 43, 44, 45, 46, 47, 48, 49, 50, 51] ?_
  iterate 10 (refine' draw_val ?_ ?_; rotate_left; (focus (intro g w hb hdep; replace hL := hL.grow hb; (try simp [depsOf, List.filter_cons, Region.binds, AllR, RAt] at hdep); simp only [fillD, List.foldl_cons, List.foldl_nil, List.set_cons_succ, List.set_cons_zero]; (try simp only [hdep]); go_wp2_with (first | (with_reducible refine lld hL ?_) | (with_reducible refine ldD hL ?_)); exact ⟨rfl, _, rfl, Below.refl _ _, rfl⟩)); simp only [List.nil_append, List.cons_append])
  refine draw_next (RowP wC0.heap.size 3 1 [.int .i64 (s.lo + t.hi)]) RowP.stable ?_ ?_
  · intro g w hb hdep; replace hL := hL.grow hb; (try simp [depsOf, List.filter_cons, Region.binds, AllR, RAt] at hdep); simp only [fillD, List.foldl_cons, List.foldl_nil, List.set_cons_succ, List.set_cons_zero]
    (try simp only [hdep])
    go_wp2
    exact ⟨rfl, _, rfl, (Below.refl _ _).alloc (Nat.le_refl _) _, _, hb.size, rfl, heap_new _ _⟩
  simp only [apN, apC]
  refine draw_end hL (by kernel_rfl) (by kernel_rfl) ?_; intro g wB1 hb hR; simp [AllR, RAt, List.range, List.range.loop] at hR; simp only [fillD, List.foldl_cons, List.foldl_nil, List.set_cons_succ, List.set_cons_zero, hR]
  obtain ⟨bx1, k1, k2, k3⟩ : RowP wC0.heap.size 3 1 [.int .i64 (s.lo + t.hi)] (g 51) wB1 := by simp only [hR]
  replace hL := hL.gain hb k1 k3
  simp only [k2]
  clear k1 k2 k3
  clear hR hb
  (with_reducible refine' loc_append (news := [.int .i64 (s.lo + t.hi)]) (ad := ⟨bx1, 0, none⟩) (m := 1) (c := 1) hA hL ?aw1 ?as1 (Split.mk 5 rfl) sInts bInt ?az1 ?ax1 ?an1 ?al1 ?a11 ?am1 ?ab1 ?ah1)
  case aw1 => exact want0
  case as1 => rfl
  case az1 => simp
  case ax1 => rfl
  case an1 => exact news_of hL (b := bx1) (by repeat (first | exact InL.head | apply InL.tail))
  case al1 => rfl
  case a11 => simp [Value.oneCell']
  case am1 => unfold maxLen; omega
  case ab1 => omega
  clear hL hA
  intro vA RA wC1 hA hL
  simp only [Nat.zero_add, List.nil_append, List.cons_append, Nat.reduceAdd, List.take_succ_cons, List.take_zero] at hA hL
  go_wp2_with (first | (with_reducible refine lld hL ?_) | ((with_reducible first | refine lbx hL ?_ | refine lal hL ?_ | refine lbs hL ?_); clear hL; intro bl w1 hL) | ((with_reducible refine lst' hL ?_); clear hL; intro w1 hL) | ((with_reducible refine wp_loop_rounds 5 ?_)) | (with_reducible refine rounds_go ?_))
  refine draw_begin [41, 42, 43, 44, 45, 46, 47, 48, 49, 50, 51] ?_
  iterate 10 (refine' draw_val ?_ ?_; rotate_left; (focus (intro g w hb hdep; replace hL := hL.grow hb; (try simp [depsOf, List.filter_cons, Region.binds, AllR, RAt] at hdep); simp only [fillD, List.foldl_cons, List.foldl_nil, List.set_cons_succ, List.set_cons_zero]; (try simp only [hdep]); go_wp2_with (first | (with_reducible refine lld hL ?_) | (with_reducible refine ldD hL ?_)); exact ⟨rfl, _, rfl, Below.refl _ _, rfl⟩)); simp only [List.nil_append, List.cons_append])
  refine draw_next (RowP wC1.heap.size 3 1 [.int .i64 (s.hi + t.lo)]) RowP.stable ?_ ?_
  · intro g w hb hdep; replace hL := hL.grow hb; (try simp [depsOf, List.filter_cons, Region.binds, AllR, RAt] at hdep); simp only [fillD, List.foldl_cons, List.foldl_nil, List.set_cons_succ, List.set_cons_zero]
    (try simp only [hdep])
    go_wp2
    exact ⟨rfl, _, rfl, (Below.refl _ _).alloc (Nat.le_refl _) _, _, hb.size, rfl, heap_new _ _⟩
  simp only [apN, apC]
  refine draw_end hL (by kernel_rfl) (by kernel_rfl) ?_; intro g wB2 hb hR; simp [AllR, RAt, List.range, List.range.loop] at hR; simp only [fillD, List.foldl_cons, List.foldl_nil, List.set_cons_succ, List.set_cons_zero, hR]
  obtain ⟨bx2, k1, k2, k3⟩ : RowP wC1.heap.size 3 1 [.int .i64 (s.hi + t.lo)] (g 51) wB2 := by simp only [hR]
  replace hL := hL.gain hb k1 k3
  simp only [k2]
  clear k1 k2 k3
  clear hR hb
  (with_reducible refine' loc_append (news := [.int .i64 (s.hi + t.lo)]) (ad := ⟨bx2, 0, none⟩) (m := 1) (c := 1) hA hL ?aw2 ?as2 (Split.mk 6 rfl) sInts bInt ?az2 ?ax2 ?an2 ?al2 ?a12 ?am2 ?ab2 ?ah2)
  case aw2 => exact want0
  case as2 => rfl
  case az2 => simp
  case ax2 => rfl
  case an2 => exact news_of hL (b := bx2) (by repeat (first | exact InL.head | apply InL.tail))
  case al2 => rfl
  case a12 => simp [Value.oneCell']
  case am2 => unfold maxLen; omega
  case ab2 => omega
  clear hL hA
  intro vA RA wC2 hA hL
  simp only [Nat.zero_add, List.nil_append, List.cons_append, Nat.reduceAdd, List.take_succ_cons, List.take_zero] at hA hL
  go_wp2_with (first | (with_reducible refine lld hL ?_) | ((with_reducible first | refine lbx hL ?_ | refine lal hL ?_ | refine lbs hL ?_); clear hL; intro bl w1 hL) | ((with_reducible refine lst' hL ?_); clear hL; intro w1 hL) | ((with_reducible refine wp_loop_rounds 5 ?_)) | (with_reducible refine rounds_go ?_))
  refine draw_begin [41, 42, 43, 44, 45, 46, 47, 48, 49, 50, 51] ?_
  iterate 10 (refine' draw_val ?_ ?_; rotate_left; (focus (intro g w hb hdep; replace hL := hL.grow hb; (try simp [depsOf, List.filter_cons, Region.binds, AllR, RAt] at hdep); simp only [fillD, List.foldl_cons, List.foldl_nil, List.set_cons_succ, List.set_cons_zero]; (try simp only [hdep]); go_wp2_with (first | (with_reducible refine lld hL ?_) | (with_reducible refine ldD hL ?_)); exact ⟨rfl, _, rfl, Below.refl _ _, rfl⟩)); simp only [List.nil_append, List.cons_append])
  refine draw_next (RowP wC2.heap.size 3 1 [.int .i64 (s.hi + t.hi)]) RowP.stable ?_ ?_
  · intro g w hb hdep; replace hL := hL.grow hb; (try simp [depsOf, List.filter_cons, Region.binds, AllR, RAt] at hdep); simp only [fillD, List.foldl_cons, List.foldl_nil, List.set_cons_succ, List.set_cons_zero]
    (try simp only [hdep])
    go_wp2
    exact ⟨rfl, _, rfl, (Below.refl _ _).alloc (Nat.le_refl _) _, _, hb.size, rfl, heap_new _ _⟩
  simp only [apN, apC]
  refine draw_end hL (by kernel_rfl) (by kernel_rfl) ?_; intro g wB3 hb hR; simp [AllR, RAt, List.range, List.range.loop] at hR; simp only [fillD, List.foldl_cons, List.foldl_nil, List.set_cons_succ, List.set_cons_zero, hR]
  obtain ⟨bx3, k1, k2, k3⟩ : RowP wC2.heap.size 3 1 [.int .i64 (s.hi + t.hi)] (g 51) wB3 := by simp only [hR]
  replace hL := hL.gain hb k1 k3
  simp only [k2]
  clear k1 k2 k3
  clear hR hb
  (with_reducible refine' loc_append (news := [.int .i64 (s.hi + t.hi)]) (ad := ⟨bx3, 0, none⟩) (m := 1) (c := 1) hA hL ?aw3 ?as3 (Split.mk 7 rfl) sInts bInt ?az3 ?ax3 ?an3 ?al3 ?a13 ?am3 ?ab3 ?ah3)
  case aw3 => exact want0
  case as3 => rfl
  case az3 => simp
  case ax3 => rfl
  case an3 => exact news_of hL (b := bx3) (by repeat (first | exact InL.head | apply InL.tail))
  case al3 => rfl
  case a13 => simp [Value.oneCell']
  case am3 => unfold maxLen; omega
  case ab3 => omega
  clear hL hA
  intro vA RA wC3 hA hL
  simp only [Nat.zero_add, List.nil_append, List.cons_append, Nat.reduceAdd, List.take_succ_cons, List.take_zero] at hA hL
  go_wp2_with (first | (with_reducible refine lld hL ?_) | ((with_reducible first | refine lbx hL ?_ | refine lal hL ?_ | refine lbs hL ?_); clear hL; intro bl w1 hL) | ((with_reducible refine lst' hL ?_); clear hL; intro w1 hL) | ((with_reducible refine wp_loop_rounds 5 ?_)) | (with_reducible refine rounds_go ?_))
  obtain ⟨gA, capA, rfl, y0, y1, y2, y3⟩ := row4 hA hL (Split.mk 7 rfl)
  obtain ⟨hmn, hmx, hF⟩ := Hmm.out
  have hle := least4 gA 0 capA _ _ _ _ wC3 y0 y1 y2 y3
  have hmo := most4 gA 0 capA _ _ _ _ wC3 y0 y1 y2 y3
  rw [hmn] at hle
  rw [hmx] at hmo
  have HLE := Lib.hid hle
  have HMO := Lib.hid hmo
  clear hle hmo y0 y1 y2 y3 hmn hmx
  refine HLE.out.mono ?_
  rintro e w' ⟨rfl, rfl⟩; dsimp only
  have HF := Lib.hid hF
  by_cases hck : checkSpan ⟨false, mn, mx⟩ = 0
  · have HC := Lib.hid (fun w => (by have h := rCheck_any ⟨false, mn, mx⟩ w; rw [hck] at h; exact h : Calls Tryz.prog 53 #[Span.v ⟨false, mn, mx⟩] w fun e w' => e = .returned (.int .i64 0) ∧ Below w.heap.size w w'))
    have HK := Lib.hid hck
    clear hck hF
    go_wp2_with (first | (with_reducible refine lld hL ?_) | ((with_reducible first | refine lbx hL ?_ | refine lal hL ?_ | refine lbs hL ?_); clear hL; intro bl w1 hL) | ((with_reducible refine lst' hL ?_); clear hL; intro w1 hL) | (go_at_call 55; refine HMO.out.mono ?_; rintro e w' ⟨rfl, rfl⟩; dsimp only) | (go_at_call 53; refine (HC.out _).mono ?_; rintro e w1 ⟨rfl, hb⟩; replace hL := hL.grow hb; clear hb; dsimp only))
    (try simp only [Exit.inBlock, Exit.then]); refine' ret1 rfl ?_ rfl ?_; (case refine'_2 => exact cRes)
    exact ⟨by rw [HF.out, if_pos HK.out], hL.below⟩
  · have hne : (checkSpan ⟨false, mn, mx⟩ != 0) = true := by simp [hck]
    have hc := rCheck_any ⟨false, mn, mx⟩
    have HK := Lib.hid hck
    generalize checkSpan ⟨false, mn, mx⟩ = ck at hne hc
    have HC := Lib.hid hc
    clear hck hF hc
    go_wp2_with (first | (with_reducible refine lld hL ?_) | ((with_reducible first | refine lbx hL ?_ | refine lal hL ?_ | refine lbs hL ?_); clear hL; intro bl w1 hL) | ((with_reducible refine lst' hL ?_); clear hL; intro w1 hL) | (go_at_call 55; refine HMO.out.mono ?_; rintro e w' ⟨rfl, rfl⟩; dsimp only) | (go_at_call 53; refine (HC.out _).mono ?_; rintro e w1 ⟨rfl, hb⟩; replace hL := hL.grow hb; clear hb; dsimp only))
    (try simp only [Exit.inBlock, Exit.then]); refine' ret1 rfl ?_ rfl ?_; (case refine'_2 => exact cRes)
    exact ⟨by rw [HF.out, if_neg HK.out], hL.below⟩

set_option maxRecDepth 100000 in
set_option maxHeartbeats 4000000 in
theorem rDo_6 (s t : Span) (hs : checkSpan s = 0) (ht : checkSpan t = 0) (h1 : s.none = false) (h2 : t.none = false) (w : World) :
    Calls Tryz.prog 31 #[.int .i64 6, s.v, t.v] w fun e w' => e = .returned ((made 6 s t).v) ∧ Below w.heap.size w w' := by
  have hL := Loc.start w
  obtain ⟨⟨s1, s2, s3, s4⟩, hls, _⟩ := checkSpan_zero hs
  obtain ⟨⟨t1, t2, t3, t4⟩, hlt, _⟩ := checkSpan_zero ht
  have hF := do_eq (k := 6) (by omega) hls hlt h1 h2 rfl rfl
  simp only [opOf, if_true] at hF
  obtain ⟨mn, hmn⟩ : ∃ mn, min4 (s.lo - t.lo) (s.lo - t.hi) (s.hi - t.lo) (s.hi - t.hi) = mn := ⟨_, rfl⟩
  obtain ⟨mx, hmx⟩ : ∃ mx, max4 (s.lo - t.lo) (s.lo - t.hi) (s.hi - t.lo) (s.hi - t.hi) = mx := ⟨_, rfl⟩
  rw [hmn, hmx] at hF
  clear hs ht
  have Hmm := Lib.hid (And.intro hmn (And.intro hmx hF))
  clear hmn hmx hF
  have hL := Loc.start w
  go_enter Tryz.func31, Tryz.ntmps31
  go_wp2_with (first | (with_reducible refine lld hL ?_) | ((with_reducible first | refine lbx hL ?_ | refine lal hL ?_ | refine lbs hL ?_); clear hL; intro bl w1 hL) | ((with_reducible refine lst' hL ?_); clear hL; intro w1 hL))
  refine draw_begin [20, 21, 22, 23, 24, 25, 26, 27, 28, 29, 8, 9] ?_
  iterate 4 (refine' draw_val ?_ ?_; rotate_left; (focus (intro g w hb hdep; replace hL := hL.grow hb; (try simp [depsOf, List.filter_cons, Region.binds, AllR, RAt] at hdep); simp only [fillD, List.foldl_cons, List.foldl_nil, List.set_cons_succ, List.set_cons_zero]; (try simp only [hdep]); go_wp2_with (first | (with_reducible refine lld hL ?_) | (with_reducible refine ldD hL ?_)); exact ⟨rfl, _, rfl, Below.refl _ _, rfl⟩)); simp only [List.nil_append, List.cons_append])
  refine draw_next (RowP w1.heap.size 3 2 [.int .i64 s.lo, .int .i64 s.hi]) RowP.stable ?_ ?_
  · intro g w hb hdep; replace hL := hL.grow hb; (try simp [depsOf, List.filter_cons, Region.binds, AllR, RAt] at hdep); simp only [fillD, List.foldl_cons, List.foldl_nil, List.set_cons_succ, List.set_cons_zero]
    (try simp only [hdep])
    go_wp2
    exact ⟨rfl, _, rfl, (Below.refl _ _).alloc (Nat.le_refl _) _, _, hb.size, rfl, heap_new _ _⟩
  simp only [apN, apC]
  iterate 4 (refine' draw_val ?_ ?_; rotate_left; (focus (intro g w hb hdep; replace hL := hL.grow hb; (try simp [depsOf, List.filter_cons, Region.binds, AllR, RAt] at hdep); simp only [fillD, List.foldl_cons, List.foldl_nil, List.set_cons_succ, List.set_cons_zero]; (try simp only [hdep]); go_wp2_with (first | (with_reducible refine lld hL ?_) | (with_reducible refine ldD hL ?_)); exact ⟨rfl, _, rfl, Below.refl _ _, rfl⟩)); simp only [List.nil_append, List.cons_append])
  refine draw_next (RowP w1.heap.size 3 2 [.int .i64 t.lo, .int .i64 t.hi]) RowP.stable ?_ ?_
  · intro g w hb hdep; replace hL := hL.grow hb; (try simp [depsOf, List.filter_cons, Region.binds, AllR, RAt] at hdep); simp only [fillD, List.foldl_cons, List.foldl_nil, List.set_cons_succ, List.set_cons_zero]
    (try simp only [hdep])
    go_wp2
    exact ⟨rfl, _, rfl, (Below.refl _ _).alloc (Nat.le_refl _) _, _, hb.size, rfl, heap_new _ _⟩
  simp only [apN, apC]
  refine draw_next (RowP w1.heap.size 3 2 [.int .i64 s.lo, .int .i64 s.hi]) RowP.stable ?_ ?_
  · intro g w hb hdep
    have hd : RowP w1.heap.size 3 2 [.int .i64 s.lo, .int .i64 s.hi] (g 24) w := allR_get (j := 4) hdep (by simp [depsOf, List.filter_cons, Region.binds])
    obtain ⟨b, e0, e1, e2⟩ := hd
    simp only [fillD, List.foldl_cons, List.foldl_nil, List.set_cons_succ, List.set_cons_zero]
    simp only [e1]
    go_wp2
    exact ⟨rfl, _, rfl, Below.refl _ _, b, e0, rfl, e2⟩
  simp only [apN, apC]
  refine draw_next (RowP w1.heap.size 3 2 [.int .i64 t.lo, .int .i64 t.hi]) RowP.stable ?_ ?_
  · intro g w hb hdep
    have hd : RowP w1.heap.size 3 2 [.int .i64 t.lo, .int .i64 t.hi] (g 29) w := allR_get (j := 9) hdep (by simp [depsOf, List.filter_cons, Region.binds])
    obtain ⟨b, e0, e1, e2⟩ := hd
    simp only [fillD, List.foldl_cons, List.foldl_nil, List.set_cons_succ, List.set_cons_zero]
    simp only [e1]
    go_wp2
    exact ⟨rfl, _, rfl, Below.refl _ _, b, e0, rfl, e2⟩
  simp only [apN, apC]
  refine draw_end hL (by kernel_rfl) (by kernel_rfl) ?_; intro g wA hb hR; simp [AllR, RAt, List.range, List.range.loop] at hR; simp only [fillD, List.foldl_cons, List.foldl_nil, List.set_cons_succ, List.set_cons_zero, hR]
  obtain ⟨ba, k10, k20, k30⟩ : RowP w1.heap.size 3 2 [.int .i64 s.lo, .int .i64 s.hi] (g 8) wA := by simp only [hR]
  obtain ⟨bb, k11, k21, k31⟩ : RowP w1.heap.size 3 2 [.int .i64 t.lo, .int .i64 t.hi] (g 9) wA := by simp only [hR]
  replace hL := hL.moreAll hb (Ds := [HeapAt ba 3 [.int .i64 s.lo, .int .i64 s.hi], HeapAt bb 3 [.int .i64 t.lo, .int .i64 t.hi]]) (by
    intro S hS
    simp only [List.mem_cons, List.not_mem_nil, or_false] at hS
    rcases hS with rfl | rfl
    · exact HeapAt.fresh k10 k30
    · exact HeapAt.fresh k11 k31)
  simp only [List.cons_append, List.nil_append] at hL
  simp only [k20, k21]
  clear k10 k20 k30 k11 k21 k31
  clear hR hb
  have hA : RowL 3 1 (.slice none 0 0) 0 [] [] := RowL.nil
  go_wp2_with (first | (with_reducible refine lld hL ?_) | ((with_reducible first | refine lbx hL ?_ | refine lal hL ?_ | refine lbs hL ?_); clear hL; intro bl w1 hL) | ((with_reducible refine lst' hL ?_); clear hL; intro w1 hL) | ((with_reducible refine wp_loop_rounds 5 ?_)) | (with_reducible refine rounds_go ?_))
  refine draw_begin [55, 56, 57, 58, 59, 60, 61, 62, 63, 64, 65] ?_
  iterate 10 (refine' draw_val ?_ ?_; rotate_left; (focus (intro g w hb hdep; replace hL := hL.grow hb; (try simp [depsOf, List.filter_cons, Region.binds, AllR, RAt] at hdep); simp only [fillD, List.foldl_cons, List.foldl_nil, List.set_cons_succ, List.set_cons_zero]; (try simp only [hdep]); go_wp2_with (first | (with_reducible refine lld hL ?_) | (with_reducible refine ldD hL ?_)); exact ⟨rfl, _, rfl, Below.refl _ _, rfl⟩)); simp only [List.nil_append, List.cons_append])
  refine draw_next (RowP wA.heap.size 3 1 [.int .i64 (s.lo - t.lo)]) RowP.stable ?_ ?_
  · intro g w hb hdep; replace hL := hL.grow hb; (try simp [depsOf, List.filter_cons, Region.binds, AllR, RAt] at hdep); simp only [fillD, List.foldl_cons, List.foldl_nil, List.set_cons_succ, List.set_cons_zero]
    (try simp only [hdep])
    go_wp2
    exact ⟨rfl, _, rfl, (Below.refl _ _).alloc (Nat.le_refl _) _, _, hb.size, rfl, heap_new _ _⟩
  simp only [apN, apC]
  refine draw_end hL (by kernel_rfl) (by kernel_rfl) ?_; intro g wB0 hb hR; simp [AllR, RAt, List.range, List.range.loop] at hR; simp only [fillD, List.foldl_cons, List.foldl_nil, List.set_cons_succ, List.set_cons_zero, hR]
  obtain ⟨bx0, k1, k2, k3⟩ : RowP wA.heap.size 3 1 [.int .i64 (s.lo - t.lo)] (g 65) wB0 := by simp only [hR]
  replace hL := hL.gain hb k1 k3
  simp only [k2]
  clear k1 k2 k3
  clear hR hb
  (with_reducible refine' loc_append (news := [.int .i64 (s.lo - t.lo)]) (ad := ⟨bx0, 0, none⟩) (m := 1) (c := 1) hA hL ?aw0 ?as0 (Split.mk 4 rfl) sInts bInt ?az0 ?ax0 ?an0 ?al0 ?a10 ?am0 ?ab0 ?ah0)
  case aw0 => exact want0
  case as0 => rfl
  case az0 => simp
  case ax0 => rfl
  case an0 => exact news_of hL (b := bx0) (by repeat (first | exact InL.head | apply InL.tail))
  case al0 => rfl
  case a10 => simp [Value.oneCell']
  case am0 => unfold maxLen; omega
  case ab0 => omega
  clear hL hA
  intro vA RA wC0 hA hL
  simp only [Nat.zero_add, List.nil_append, List.cons_append, Nat.reduceAdd, List.take_succ_cons, List.take_zero] at hA hL
  go_wp2_with (first | (with_reducible refine lld hL ?_) | ((with_reducible first | refine lbx hL ?_ | refine lal hL ?_ | refine lbs hL ?_); clear hL; intro bl w1 hL) | ((with_reducible refine lst' hL ?_); clear hL; intro w1 hL) | ((with_reducible refine wp_loop_rounds 5 ?_)) | (with_reducible refine rounds_go ?_))
  refine draw_begin [55, 56, 57, 58, 59, 60, 61, 62, 63, 64, 65] ?_
  iterate 10 (refine' draw_val ?_ ?_; rotate_left; (focus (intro g w hb hdep; replace hL := hL.grow hb; (try simp [depsOf, List.filter_cons, Region.binds, AllR, RAt] at hdep); simp only [fillD, List.foldl_cons, List.foldl_nil, List.set_cons_succ, List.set_cons_zero]; (try simp only [hdep]); go_wp2_with (first | (with_reducible refine lld hL ?_) | (with_reducible refine ldD hL ?_)); exact ⟨rfl, _, rfl, Below.refl _ _, rfl⟩)); simp only [List.nil_append, List.cons_append])
  refine draw_next (RowP wC0.heap.size 3 1 [.int .i64 (s.lo - t.hi)]) RowP.stable ?_ ?_
  · intro g w hb hdep; replace hL := hL.grow hb; (try simp [depsOf, List.filter_cons, Region.binds, AllR, RAt] at hdep); simp only [fillD, List.foldl_cons, List.foldl_nil, List.set_cons_succ, List.set_cons_zero]
    (try simp only [hdep])
    go_wp2
    exact ⟨rfl, _, rfl, (Below.refl _ _).alloc (Nat.le_refl _) _, _, hb.size, rfl, heap_new _ _⟩
  simp only [apN, apC]
  refine draw_end hL (by kernel_rfl) (by kernel_rfl) ?_; intro g wB1 hb hR; simp [AllR, RAt, List.range, List.range.loop] at hR; simp only [fillD, List.foldl_cons, List.foldl_nil, List.set_cons_succ, List.set_cons_zero, hR]
  obtain ⟨bx1, k1, k2, k3⟩ : RowP wC0.heap.size 3 1 [.int .i64 (s.lo - t.hi)] (g 65) wB1 := by simp only [hR]
  replace hL := hL.gain hb k1 k3
  simp only [k2]
  clear k1 k2 k3
  clear hR hb
  (with_reducible refine' loc_append (news := [.int .i64 (s.lo - t.hi)]) (ad := ⟨bx1, 0, none⟩) (m := 1) (c := 1) hA hL ?aw1 ?as1 (Split.mk 5 rfl) sInts bInt ?az1 ?ax1 ?an1 ?al1 ?a11 ?am1 ?ab1 ?ah1)
  case aw1 => exact want0
  case as1 => rfl
  case az1 => simp
  case ax1 => rfl
  case an1 => exact news_of hL (b := bx1) (by repeat (first | exact InL.head | apply InL.tail))
  case al1 => rfl
  case a11 => simp [Value.oneCell']
  case am1 => unfold maxLen; omega
  case ab1 => omega
  clear hL hA
  intro vA RA wC1 hA hL
  simp only [Nat.zero_add, List.nil_append, List.cons_append, Nat.reduceAdd, List.take_succ_cons, List.take_zero] at hA hL
  go_wp2_with (first | (with_reducible refine lld hL ?_) | ((with_reducible first | refine lbx hL ?_ | refine lal hL ?_ | refine lbs hL ?_); clear hL; intro bl w1 hL) | ((with_reducible refine lst' hL ?_); clear hL; intro w1 hL) | ((with_reducible refine wp_loop_rounds 5 ?_)) | (with_reducible refine rounds_go ?_))
  refine draw_begin [55, 56, 57, 58, 59, 60, 61, 62, 63, 64, 65] ?_
  iterate 10 (refine' draw_val ?_ ?_; rotate_left; (focus (intro g w hb hdep; replace hL := hL.grow hb; (try simp [depsOf, List.filter_cons, Region.binds, AllR, RAt] at hdep); simp only [fillD, List.foldl_cons, List.foldl_nil, List.set_cons_succ, List.set_cons_zero]; (try simp only [hdep]); go_wp2_with (first | (with_reducible refine lld hL ?_) | (with_reducible refine ldD hL ?_)); exact ⟨rfl, _, rfl, Below.refl _ _, rfl⟩)); simp only [List.nil_append, List.cons_append])
  refine draw_next (RowP wC1.heap.size 3 1 [.int .i64 (s.hi - t.lo)]) RowP.stable ?_ ?_
  · intro g w hb hdep; replace hL := hL.grow hb; (try simp [depsOf, List.filter_cons, Region.binds, AllR, RAt] at hdep); simp only [fillD, List.foldl_cons, List.foldl_nil, List.set_cons_succ, List.set_cons_zero]
    (try simp only [hdep])
    go_wp2
    exact ⟨rfl, _, rfl, (Below.refl _ _).alloc (Nat.le_refl _) _, _, hb.size, rfl, heap_new _ _⟩
  simp only [apN, apC]
  refine draw_end hL (by kernel_rfl) (by kernel_rfl) ?_; intro g wB2 hb hR; simp [AllR, RAt, List.range, List.range.loop] at hR; simp only [fillD, List.foldl_cons, List.foldl_nil, List.set_cons_succ, List.set_cons_zero, hR]
  obtain ⟨bx2, k1, k2, k3⟩ : RowP wC1.heap.size 3 1 [.int .i64 (s.hi - t.lo)] (g 65) wB2 := by simp only [hR]
  replace hL := hL.gain hb k1 k3
  simp only [k2]
  clear k1 k2 k3
  clear hR hb
  (with_reducible refine' loc_append (news := [.int .i64 (s.hi - t.lo)]) (ad := ⟨bx2, 0, none⟩) (m := 1) (c := 1) hA hL ?aw2 ?as2 (Split.mk 6 rfl) sInts bInt ?az2 ?ax2 ?an2 ?al2 ?a12 ?am2 ?ab2 ?ah2)
  case aw2 => exact want0
  case as2 => rfl
  case az2 => simp
  case ax2 => rfl
  case an2 => exact news_of hL (b := bx2) (by repeat (first | exact InL.head | apply InL.tail))
  case al2 => rfl
  case a12 => simp [Value.oneCell']
  case am2 => unfold maxLen; omega
  case ab2 => omega
  clear hL hA
  intro vA RA wC2 hA hL
  simp only [Nat.zero_add, List.nil_append, List.cons_append, Nat.reduceAdd, List.take_succ_cons, List.take_zero] at hA hL
  go_wp2_with (first | (with_reducible refine lld hL ?_) | ((with_reducible first | refine lbx hL ?_ | refine lal hL ?_ | refine lbs hL ?_); clear hL; intro bl w1 hL) | ((with_reducible refine lst' hL ?_); clear hL; intro w1 hL) | ((with_reducible refine wp_loop_rounds 5 ?_)) | (with_reducible refine rounds_go ?_))
  refine draw_begin [55, 56, 57, 58, 59, 60, 61, 62, 63, 64, 65] ?_
  iterate 10 (refine' draw_val ?_ ?_; rotate_left; (focus (intro g w hb hdep; replace hL := hL.grow hb; (try simp [depsOf, List.filter_cons, Region.binds, AllR, RAt] at hdep); simp only [fillD, List.foldl_cons, List.foldl_nil, List.set_cons_succ, List.set_cons_zero]; (try simp only [hdep]); go_wp2_with (first | (with_reducible refine lld hL ?_) | (with_reducible refine ldD hL ?_)); exact ⟨rfl, _, rfl, Below.refl _ _, rfl⟩)); simp only [List.nil_append, List.cons_append])
  refine draw_next (RowP wC2.heap.size 3 1 [.int .i64 (s.hi - t.hi)]) RowP.stable ?_ ?_
  · intro g w hb hdep; replace hL := hL.grow hb; (try simp [depsOf, List.filter_cons, Region.binds, AllR, RAt] at hdep); simp only [fillD, List.foldl_cons, List.foldl_nil, List.set_cons_succ, List.set_cons_zero]
    (try simp only [hdep])
    go_wp2
    exact ⟨rfl, _, rfl, (Below.refl _ _).alloc (Nat.le_refl _) _, _, hb.size, rfl, heap_new _ _⟩
  simp only [apN, apC]
  refine draw_end hL (by kernel_rfl) (by kernel_rfl) ?_; intro g wB3 hb hR; simp [AllR, RAt, List.range, List.range.loop] at hR; simp only [fillD, List.foldl_cons, List.foldl_nil, List.set_cons_succ, List.set_cons_zero, hR]
  obtain ⟨bx3, k1, k2, k3⟩ : RowP wC2.heap.size 3 1 [.int .i64 (s.hi - t.hi)] (g 65) wB3 := by simp only [hR]
  replace hL := hL.gain hb k1 k3
  simp only [k2]
  clear k1 k2 k3
  clear hR hb
  (with_reducible refine' loc_append (news := [.int .i64 (s.hi - t.hi)]) (ad := ⟨bx3, 0, none⟩) (m := 1) (c := 1) hA hL ?aw3 ?as3 (Split.mk 7 rfl) sInts bInt ?az3 ?ax3 ?an3 ?al3 ?a13 ?am3 ?ab3 ?ah3)
  case aw3 => exact want0
  case as3 => rfl
  case az3 => simp
  case ax3 => rfl
  case an3 => exact news_of hL (b := bx3) (by repeat (first | exact InL.head | apply InL.tail))
  case al3 => rfl
  case a13 => simp [Value.oneCell']
  case am3 => unfold maxLen; omega
  case ab3 => omega
  clear hL hA
  intro vA RA wC3 hA hL
  simp only [Nat.zero_add, List.nil_append, List.cons_append, Nat.reduceAdd, List.take_succ_cons, List.take_zero] at hA hL
  go_wp2_with (first | (with_reducible refine lld hL ?_) | ((with_reducible first | refine lbx hL ?_ | refine lal hL ?_ | refine lbs hL ?_); clear hL; intro bl w1 hL) | ((with_reducible refine lst' hL ?_); clear hL; intro w1 hL) | ((with_reducible refine wp_loop_rounds 5 ?_)) | (with_reducible refine rounds_go ?_))
  obtain ⟨gA, capA, rfl, y0, y1, y2, y3⟩ := row4 hA hL (Split.mk 7 rfl)
  obtain ⟨hmn, hmx, hF⟩ := Hmm.out
  have hle := least4 gA 0 capA _ _ _ _ wC3 y0 y1 y2 y3
  have hmo := most4 gA 0 capA _ _ _ _ wC3 y0 y1 y2 y3
  rw [hmn] at hle
  rw [hmx] at hmo
  have HLE := Lib.hid hle
  have HMO := Lib.hid hmo
  clear hle hmo y0 y1 y2 y3 hmn hmx
  refine HLE.out.mono ?_
  rintro e w' ⟨rfl, rfl⟩; dsimp only
  have HF := Lib.hid hF
  by_cases hck : checkSpan ⟨false, mn, mx⟩ = 0
  · have HC := Lib.hid (fun w => (by have h := rCheck_any ⟨false, mn, mx⟩ w; rw [hck] at h; exact h : Calls Tryz.prog 53 #[Span.v ⟨false, mn, mx⟩] w fun e w' => e = .returned (.int .i64 0) ∧ Below w.heap.size w w'))
    have HK := Lib.hid hck
    clear hck hF
    go_wp2_with (first | (with_reducible refine lld hL ?_) | ((with_reducible first | refine lbx hL ?_ | refine lal hL ?_ | refine lbs hL ?_); clear hL; intro bl w1 hL) | ((with_reducible refine lst' hL ?_); clear hL; intro w1 hL) | (go_at_call 55; refine HMO.out.mono ?_; rintro e w' ⟨rfl, rfl⟩; dsimp only) | (go_at_call 53; refine (HC.out _).mono ?_; rintro e w1 ⟨rfl, hb⟩; replace hL := hL.grow hb; clear hb; dsimp only))
    (try simp only [Exit.inBlock, Exit.then]); refine' ret1 rfl ?_ rfl ?_; (case refine'_2 => exact cRes)
    exact ⟨by rw [HF.out, if_pos HK.out], hL.below⟩
  · have hne : (checkSpan ⟨false, mn, mx⟩ != 0) = true := by simp [hck]
    have hc := rCheck_any ⟨false, mn, mx⟩
    have HK := Lib.hid hck
    generalize checkSpan ⟨false, mn, mx⟩ = ck at hne hc
    have HC := Lib.hid hc
    clear hck hF hc
    go_wp2_with (first | (with_reducible refine lld hL ?_) | ((with_reducible first | refine lbx hL ?_ | refine lal hL ?_ | refine lbs hL ?_); clear hL; intro bl w1 hL) | ((with_reducible refine lst' hL ?_); clear hL; intro w1 hL) | (go_at_call 55; refine HMO.out.mono ?_; rintro e w' ⟨rfl, rfl⟩; dsimp only) | (go_at_call 53; refine (HC.out _).mono ?_; rintro e w1 ⟨rfl, hb⟩; replace hL := hL.grow hb; clear hb; dsimp only))
    (try simp only [Exit.inBlock, Exit.then]); refine' ret1 rfl ?_ rfl ?_; (case refine'_2 => exact cRes)
    exact ⟨by rw [HF.out, if_neg HK.out], hL.below⟩

set_option maxRecDepth 100000 in
set_option maxHeartbeats 4000000 in
theorem rDo_7 (s t : Span) (hs : checkSpan s = 0) (ht : checkSpan t = 0) (h1 : s.none = false) (h2 : t.none = false) (w : World) :
    Calls Tryz.prog 31 #[.int .i64 7, s.v, t.v] w fun e w' => e = .returned ((made 7 s t).v) ∧ Below w.heap.size w w' := by
  have hL := Loc.start w
  obtain ⟨⟨s1, s2, s3, s4⟩, hls, _⟩ := checkSpan_zero hs
  obtain ⟨⟨t1, t2, t3, t4⟩, hlt, _⟩ := checkSpan_zero ht
  have hF := do_eq (k := 7) (by omega) hls hlt h1 h2 rfl rfl
  simp only [opOf, if_neg (show ¬ (7 : Int) = 6 by decide), if_true] at hF
  obtain ⟨mn, hmn⟩ : ∃ mn, min4 (s.lo * t.lo) (s.lo * t.hi) (s.hi * t.lo) (s.hi * t.hi) = mn := ⟨_, rfl⟩
  obtain ⟨mx, hmx⟩ : ∃ mx, max4 (s.lo * t.lo) (s.lo * t.hi) (s.hi * t.lo) (s.hi * t.hi) = mx := ⟨_, rfl⟩
  rw [hmn, hmx] at hF
  obtain ⟨m1, m2⟩ := mul_small s1 s2 t1 t2
  obtain ⟨m3, m4⟩ := mul_small s1 s2 t3 t4
  obtain ⟨m5, m6⟩ := mul_small s3 s4 t1 t2
  obtain ⟨m7, m8⟩ := mul_small s3 s4 t3 t4
  clear hs ht
  have Hmm := Lib.hid (And.intro hmn (And.intro hmx hF))
  clear hmn hmx hF
  have hL := Loc.start w
  go_enter Tryz.func31, Tryz.ntmps31
  go_wp2_with (first | (with_reducible refine lld hL ?_) | ((with_reducible first | refine lbx hL ?_ | refine lal hL ?_ | refine lbs hL ?_); clear hL; intro bl w1 hL) | ((with_reducible refine lst' hL ?_); clear hL; intro w1 hL))
  refine draw_begin [20, 21, 22, 23, 24, 25, 26, 27, 28, 29, 8, 9] ?_
  iterate 4 (refine' draw_val ?_ ?_; rotate_left; (focus (intro g w hb hdep; replace hL := hL.grow hb; (try simp [depsOf, List.filter_cons, Region.binds, AllR, RAt] at hdep); simp only [fillD, List.foldl_cons, List.foldl_nil, List.set_cons_succ, List.set_cons_zero]; (try simp only [hdep]); go_wp2_with (first | (with_reducible refine lld hL ?_) | (with_reducible refine ldD hL ?_)); exact ⟨rfl, _, rfl, Below.refl _ _, rfl⟩)); simp only [List.nil_append, List.cons_append])
  refine draw_next (RowP w1.heap.size 3 2 [.int .i64 s.lo, .int .i64 s.hi]) RowP.stable ?_ ?_
  · intro g w hb hdep; replace hL := hL.grow hb; (try simp [depsOf, List.filter_cons, Region.binds, AllR, RAt] at hdep); simp only [fillD, List.foldl_cons, List.foldl_nil, List.set_cons_succ, List.set_cons_zero]
    (try simp only [hdep])
    go_wp2
    exact ⟨rfl, _, rfl, (Below.refl _ _).alloc (Nat.le_refl _) _, _, hb.size, rfl, heap_new _ _⟩
  simp only [apN, apC]
  iterate 4 (refine' draw_val ?_ ?_; rotate_left; (focus (intro g w hb hdep; replace hL := hL.grow hb; (try simp [depsOf, List.filter_cons, Region.binds, AllR, RAt] at hdep); simp only [fillD, List.foldl_cons, List.foldl_nil, List.set_cons_succ, List.set_cons_zero]; (try simp only [hdep]); go_wp2_with (first | (with_reducible refine lld hL ?_) | (with_reducible refine ldD hL ?_)); exact ⟨rfl, _, rfl, Below.refl _ _, rfl⟩)); simp only [List.nil_append, List.cons_append])
  refine draw_next (RowP w1.heap.size 3 2 [.int .i64 t.lo, .int .i64 t.hi]) RowP.stable ?_ ?_
  · intro g w hb hdep; replace hL := hL.grow hb; (try simp [depsOf, List.filter_cons, Region.binds, AllR, RAt] at hdep); simp only [fillD, List.foldl_cons, List.foldl_nil, List.set_cons_succ, List.set_cons_zero]
    (try simp only [hdep])
    go_wp2
    exact ⟨rfl, _, rfl, (Below.refl _ _).alloc (Nat.le_refl _) _, _, hb.size, rfl, heap_new _ _⟩
  simp only [apN, apC]
  refine draw_next (RowP w1.heap.size 3 2 [.int .i64 s.lo, .int .i64 s.hi]) RowP.stable ?_ ?_
  · intro g w hb hdep
    have hd : RowP w1.heap.size 3 2 [.int .i64 s.lo, .int .i64 s.hi] (g 24) w := allR_get (j := 4) hdep (by simp [depsOf, List.filter_cons, Region.binds])
    obtain ⟨b, e0, e1, e2⟩ := hd
    simp only [fillD, List.foldl_cons, List.foldl_nil, List.set_cons_succ, List.set_cons_zero]
    simp only [e1]
    go_wp2
    exact ⟨rfl, _, rfl, Below.refl _ _, b, e0, rfl, e2⟩
  simp only [apN, apC]
  refine draw_next (RowP w1.heap.size 3 2 [.int .i64 t.lo, .int .i64 t.hi]) RowP.stable ?_ ?_
  · intro g w hb hdep
    have hd : RowP w1.heap.size 3 2 [.int .i64 t.lo, .int .i64 t.hi] (g 29) w := allR_get (j := 9) hdep (by simp [depsOf, List.filter_cons, Region.binds])
    obtain ⟨b, e0, e1, e2⟩ := hd
    simp only [fillD, List.foldl_cons, List.foldl_nil, List.set_cons_succ, List.set_cons_zero]
    simp only [e1]
    go_wp2
    exact ⟨rfl, _, rfl, Below.refl _ _, b, e0, rfl, e2⟩
  simp only [apN, apC]
  refine draw_end hL (by kernel_rfl) (by kernel_rfl) ?_; intro g wA hb hR; simp [AllR, RAt, List.range, List.range.loop] at hR; simp only [fillD, List.foldl_cons, List.foldl_nil, List.set_cons_succ, List.set_cons_zero, hR]
  obtain ⟨ba, k10, k20, k30⟩ : RowP w1.heap.size 3 2 [.int .i64 s.lo, .int .i64 s.hi] (g 8) wA := by simp only [hR]
  obtain ⟨bb, k11, k21, k31⟩ : RowP w1.heap.size 3 2 [.int .i64 t.lo, .int .i64 t.hi] (g 9) wA := by simp only [hR]
  replace hL := hL.moreAll hb (Ds := [HeapAt ba 3 [.int .i64 s.lo, .int .i64 s.hi], HeapAt bb 3 [.int .i64 t.lo, .int .i64 t.hi]]) (by
    intro S hS
    simp only [List.mem_cons, List.not_mem_nil, or_false] at hS
    rcases hS with rfl | rfl
    · exact HeapAt.fresh k10 k30
    · exact HeapAt.fresh k11 k31)
  simp only [List.cons_append, List.nil_append] at hL
  simp only [k20, k21]
  clear k10 k20 k30 k11 k21 k31
  clear hR hb
  have hA : RowL 3 1 (.slice none 0 0) 0 [] [] := RowL.nil
  go_wp2_with (first | (with_reducible refine lld hL ?_) | ((with_reducible first | refine lbx hL ?_ | refine lal hL ?_ | refine lbs hL ?_); clear hL; intro bl w1 hL) | ((with_reducible refine lst' hL ?_); clear hL; intro w1 hL) | ((with_reducible refine wp_loop_rounds 5 ?_)) | (with_reducible refine rounds_go ?_))
  refine draw_begin [69, 70, 71, 72, 73, 74, 75, 76, 77, 78, 79] ?_
  iterate 10 (refine' draw_val ?_ ?_; rotate_left; (focus (intro g w hb hdep; replace hL := hL.grow hb; (try simp [depsOf, List.filter_cons, Region.binds, AllR, RAt] at hdep); simp only [fillD, List.foldl_cons, List.foldl_nil, List.set_cons_succ, List.set_cons_zero]; (try simp only [hdep]); go_wp2_with (first | (with_reducible refine lld hL ?_) | (with_reducible refine ldD hL ?_)); exact ⟨rfl, _, rfl, Below.refl _ _, rfl⟩)); simp only [List.nil_append, List.cons_append])
  refine draw_next (RowP wA.heap.size 3 1 [.int .i64 (s.lo * t.lo)]) RowP.stable ?_ ?_
  · intro g w hb hdep; replace hL := hL.grow hb; (try simp [depsOf, List.filter_cons, Region.binds, AllR, RAt] at hdep); simp only [fillD, List.foldl_cons, List.foldl_nil, List.set_cons_succ, List.set_cons_zero]
    (try simp only [hdep])
    go_wp2
    exact ⟨rfl, _, rfl, (Below.refl _ _).alloc (Nat.le_refl _) _, _, hb.size, rfl, heap_new _ _⟩
  simp only [apN, apC]
  refine draw_end hL (by kernel_rfl) (by kernel_rfl) ?_; intro g wB0 hb hR; simp [AllR, RAt, List.range, List.range.loop] at hR; simp only [fillD, List.foldl_cons, List.foldl_nil, List.set_cons_succ, List.set_cons_zero, hR]
  obtain ⟨bx0, k1, k2, k3⟩ : RowP wA.heap.size 3 1 [.int .i64 (s.lo * t.lo)] (g 79) wB0 := by simp only [hR]
  replace hL := hL.gain hb k1 k3
  simp only [k2]
  clear k1 k2 k3
  clear hR hb
  (with_reducible refine' loc_append (news := [.int .i64 (s.lo * t.lo)]) (ad := ⟨bx0, 0, none⟩) (m := 1) (c := 1) hA hL ?aw0 ?as0 (Split.mk 4 rfl) sInts bInt ?az0 ?ax0 ?an0 ?al0 ?a10 ?am0 ?ab0 ?ah0)
  case aw0 => exact want0
  case as0 => rfl
  case az0 => simp
  case ax0 => rfl
  case an0 => exact news_of hL (b := bx0) (by repeat (first | exact InL.head | apply InL.tail))
  case al0 => rfl
  case a10 => simp [Value.oneCell']
  case am0 => unfold maxLen; omega
  case ab0 => omega
  clear hL hA
  intro vA RA wC0 hA hL
  simp only [Nat.zero_add, List.nil_append, List.cons_append, Nat.reduceAdd, List.take_succ_cons, List.take_zero] at hA hL
  go_wp2_with (first | (with_reducible refine lld hL ?_) | ((with_reducible first | refine lbx hL ?_ | refine lal hL ?_ | refine lbs hL ?_); clear hL; intro bl w1 hL) | ((with_reducible refine lst' hL ?_); clear hL; intro w1 hL) | ((with_reducible refine wp_loop_rounds 5 ?_)) | (with_reducible refine rounds_go ?_))
  refine draw_begin [69, 70, 71, 72, 73, 74, 75, 76, 77, 78, 79] ?_
  iterate 10 (refine' draw_val ?_ ?_; rotate_left; (focus (intro g w hb hdep; replace hL := hL.grow hb; (try simp [depsOf, List.filter_cons, Region.binds, AllR, RAt] at hdep); simp only [fillD, List.foldl_cons, List.foldl_nil, List.set_cons_succ, List.set_cons_zero]; (try simp only [hdep]); go_wp2_with (first | (with_reducible refine lld hL ?_) | (with_reducible refine ldD hL ?_)); exact ⟨rfl, _, rfl, Below.refl _ _, rfl⟩)); simp only [List.nil_append, List.cons_append])
  refine draw_next (RowP wC0.heap.size 3 1 [.int .i64 (s.lo * t.hi)]) RowP.stable ?_ ?_
  · intro g w hb hdep; replace hL := hL.grow hb; (try simp [depsOf, List.filter_cons, Region.binds, AllR, RAt] at hdep); simp only [fillD, List.foldl_cons, List.foldl_nil, List.set_cons_succ, List.set_cons_zero]
    (try simp only [hdep])
    go_wp2
    exact ⟨rfl, _, rfl, (Below.refl _ _).alloc (Nat.le_refl _) _, _, hb.size, rfl, heap_new _ _⟩
  simp only [apN, apC]
  refine draw_end hL (by kernel_rfl) (by kernel_rfl) ?_; intro g wB1 hb hR; simp [AllR, RAt, List.range, List.range.loop] at hR; simp only [fillD, List.foldl_cons, List.foldl_nil, List.set_cons_succ, List.set_cons_zero, hR]
  obtain ⟨bx1, k1, k2, k3⟩ : RowP wC0.heap.size 3 1 [.int .i64 (s.lo * t.hi)] (g 79) wB1 := by simp only [hR]
  replace hL := hL.gain hb k1 k3
  simp only [k2]
  clear k1 k2 k3
  clear hR hb
  (with_reducible refine' loc_append (news := [.int .i64 (s.lo * t.hi)]) (ad := ⟨bx1, 0, none⟩) (m := 1) (c := 1) hA hL ?aw1 ?as1 (Split.mk 5 rfl) sInts bInt ?az1 ?ax1 ?an1 ?al1 ?a11 ?am1 ?ab1 ?ah1)
  case aw1 => exact want0
  case as1 => rfl
  case az1 => simp
  case ax1 => rfl
  case an1 => exact news_of hL (b := bx1) (by repeat (first | exact InL.head | apply InL.tail))
  case al1 => rfl
  case a11 => simp [Value.oneCell']
  case am1 => unfold maxLen; omega
  case ab1 => omega
  clear hL hA
  intro vA RA wC1 hA hL
  simp only [Nat.zero_add, List.nil_append, List.cons_append, Nat.reduceAdd, List.take_succ_cons, List.take_zero] at hA hL
  go_wp2_with (first | (with_reducible refine lld hL ?_) | ((with_reducible first | refine lbx hL ?_ | refine lal hL ?_ | refine lbs hL ?_); clear hL; intro bl w1 hL) | ((with_reducible refine lst' hL ?_); clear hL; intro w1 hL) | ((with_reducible refine wp_loop_rounds 5 ?_)) | (with_reducible refine rounds_go ?_))
  refine draw_begin [69, 70, 71, 72, 73, 74, 75, 76, 77, 78, 79] ?_
  iterate 10 (refine' draw_val ?_ ?_; rotate_left; (focus (intro g w hb hdep; replace hL := hL.grow hb; (try simp [depsOf, List.filter_cons, Region.binds, AllR, RAt] at hdep); simp only [fillD, List.foldl_cons, List.foldl_nil, List.set_cons_succ, List.set_cons_zero]; (try simp only [hdep]); go_wp2_with (first | (with_reducible refine lld hL ?_) | (with_reducible refine ldD hL ?_)); exact ⟨rfl, _, rfl, Below.refl _ _, rfl⟩)); simp only [List.nil_append, List.cons_append])
  refine draw_next (RowP wC1.heap.size 3 1 [.int .i64 (s.hi * t.lo)]) RowP.stable ?_ ?_
  · intro g w hb hdep; replace hL := hL.grow hb; (try simp [depsOf, List.filter_cons, Region.binds, AllR, RAt] at hdep); simp only [fillD, List.foldl_cons, List.foldl_nil, List.set_cons_succ, List.set_cons_zero]
    (try simp only [hdep])
    go_wp2
    exact ⟨rfl, _, rfl, (Below.refl _ _).alloc (Nat.le_refl _) _, _, hb.size, rfl, heap_new _ _⟩
  simp only [apN, apC]
  refine draw_end hL (by kernel_rfl) (by kernel_rfl) ?_; intro g wB2 hb hR; simp [AllR, RAt, List.range, List.range.loop] at hR; simp only [fillD, List.foldl_cons, List.foldl_nil, List.set_cons_succ, List.set_cons_zero, hR]
  obtain ⟨bx2, k1, k2, k3⟩ : RowP wC1.heap.size 3 1 [.int .i64 (s.hi * t.lo)] (g 79) wB2 := by simp only [hR]
  replace hL := hL.gain hb k1 k3
  simp only [k2]
  clear k1 k2 k3
  clear hR hb
  (with_reducible refine' loc_append (news := [.int .i64 (s.hi * t.lo)]) (ad := ⟨bx2, 0, none⟩) (m := 1) (c := 1) hA hL ?aw2 ?as2 (Split.mk 6 rfl) sInts bInt ?az2 ?ax2 ?an2 ?al2 ?a12 ?am2 ?ab2 ?ah2)
  case aw2 => exact want0
  case as2 => rfl
  case az2 => simp
  case ax2 => rfl
  case an2 => exact news_of hL (b := bx2) (by repeat (first | exact InL.head | apply InL.tail))
  case al2 => rfl
  case a12 => simp [Value.oneCell']
  case am2 => unfold maxLen; omega
  case ab2 => omega
  clear hL hA
  intro vA RA wC2 hA hL
  simp only [Nat.zero_add, List.nil_append, List.cons_append, Nat.reduceAdd, List.take_succ_cons, List.take_zero] at hA hL
  go_wp2_with (first | (with_reducible refine lld hL ?_) | ((with_reducible first | refine lbx hL ?_ | refine lal hL ?_ | refine lbs hL ?_); clear hL; intro bl w1 hL) | ((with_reducible refine lst' hL ?_); clear hL; intro w1 hL) | ((with_reducible refine wp_loop_rounds 5 ?_)) | (with_reducible refine rounds_go ?_))
  refine draw_begin [69, 70, 71, 72, 73, 74, 75, 76, 77, 78, 79] ?_
  iterate 10 (refine' draw_val ?_ ?_; rotate_left; (focus (intro g w hb hdep; replace hL := hL.grow hb; (try simp [depsOf, List.filter_cons, Region.binds, AllR, RAt] at hdep); simp only [fillD, List.foldl_cons, List.foldl_nil, List.set_cons_succ, List.set_cons_zero]; (try simp only [hdep]); go_wp2_with (first | (with_reducible refine lld hL ?_) | (with_reducible refine ldD hL ?_)); exact ⟨rfl, _, rfl, Below.refl _ _, rfl⟩)); simp only [List.nil_append, List.cons_append])
  refine draw_next (RowP wC2.heap.size 3 1 [.int .i64 (s.hi * t.hi)]) RowP.stable ?_ ?_
  · intro g w hb hdep; replace hL := hL.grow hb; (try simp [depsOf, List.filter_cons, Region.binds, AllR, RAt] at hdep); simp only [fillD, List.foldl_cons, List.foldl_nil, List.set_cons_succ, List.set_cons_zero]
    (try simp only [hdep])
    go_wp2
    exact ⟨rfl, _, rfl, (Below.refl _ _).alloc (Nat.le_refl _) _, _, hb.size, rfl, heap_new _ _⟩
  simp only [apN, apC]
  refine draw_end hL (by kernel_rfl) (by kernel_rfl) ?_; intro g wB3 hb hR; simp [AllR, RAt, List.range, List.range.loop] at hR; simp only [fillD, List.foldl_cons, List.foldl_nil, List.set_cons_succ, List.set_cons_zero, hR]
  obtain ⟨bx3, k1, k2, k3⟩ : RowP wC2.heap.size 3 1 [.int .i64 (s.hi * t.hi)] (g 79) wB3 := by simp only [hR]
  replace hL := hL.gain hb k1 k3
  simp only [k2]
  clear k1 k2 k3
  clear hR hb
  (with_reducible refine' loc_append (news := [.int .i64 (s.hi * t.hi)]) (ad := ⟨bx3, 0, none⟩) (m := 1) (c := 1) hA hL ?aw3 ?as3 (Split.mk 7 rfl) sInts bInt ?az3 ?ax3 ?an3 ?al3 ?a13 ?am3 ?ab3 ?ah3)
  case aw3 => exact want0
  case as3 => rfl
  case az3 => simp
  case ax3 => rfl
  case an3 => exact news_of hL (b := bx3) (by repeat (first | exact InL.head | apply InL.tail))
  case al3 => rfl
  case a13 => simp [Value.oneCell']
  case am3 => unfold maxLen; omega
  case ab3 => omega
  clear hL hA
  intro vA RA wC3 hA hL
  simp only [Nat.zero_add, List.nil_append, List.cons_append, Nat.reduceAdd, List.take_succ_cons, List.take_zero] at hA hL
  go_wp2_with (first | (with_reducible refine lld hL ?_) | ((with_reducible first | refine lbx hL ?_ | refine lal hL ?_ | refine lbs hL ?_); clear hL; intro bl w1 hL) | ((with_reducible refine lst' hL ?_); clear hL; intro w1 hL) | ((with_reducible refine wp_loop_rounds 5 ?_)) | (with_reducible refine rounds_go ?_))
  obtain ⟨gA, capA, rfl, y0, y1, y2, y3⟩ := row4 hA hL (Split.mk 7 rfl)
  obtain ⟨hmn, hmx, hF⟩ := Hmm.out
  have hle := least4 gA 0 capA _ _ _ _ wC3 y0 y1 y2 y3
  have hmo := most4 gA 0 capA _ _ _ _ wC3 y0 y1 y2 y3
  rw [hmn] at hle
  rw [hmx] at hmo
  have HLE := Lib.hid hle
  have HMO := Lib.hid hmo
  clear hle hmo y0 y1 y2 y3 hmn hmx
  refine HLE.out.mono ?_
  rintro e w' ⟨rfl, rfl⟩; dsimp only
  have HF := Lib.hid hF
  by_cases hck : checkSpan ⟨false, mn, mx⟩ = 0
  · have HC := Lib.hid (fun w => (by have h := rCheck_any ⟨false, mn, mx⟩ w; rw [hck] at h; exact h : Calls Tryz.prog 53 #[Span.v ⟨false, mn, mx⟩] w fun e w' => e = .returned (.int .i64 0) ∧ Below w.heap.size w w'))
    have HK := Lib.hid hck
    clear hck hF
    go_wp2_with (first | (with_reducible refine lld hL ?_) | ((with_reducible first | refine lbx hL ?_ | refine lal hL ?_ | refine lbs hL ?_); clear hL; intro bl w1 hL) | ((with_reducible refine lst' hL ?_); clear hL; intro w1 hL) | (go_at_call 55; refine HMO.out.mono ?_; rintro e w' ⟨rfl, rfl⟩; dsimp only) | (go_at_call 53; refine (HC.out _).mono ?_; rintro e w1 ⟨rfl, hb⟩; replace hL := hL.grow hb; clear hb; dsimp only))
    (try simp only [Exit.inBlock, Exit.then]); refine' ret1 rfl ?_ rfl ?_; (case refine'_2 => exact cRes)
    exact ⟨by rw [HF.out, if_pos HK.out], hL.below⟩
  · have hne : (checkSpan ⟨false, mn, mx⟩ != 0) = true := by simp [hck]
    have hc := rCheck_any ⟨false, mn, mx⟩
    have HK := Lib.hid hck
    generalize checkSpan ⟨false, mn, mx⟩ = ck at hne hc
    have HC := Lib.hid hc
    clear hck hF hc
    go_wp2_with (first | (with_reducible refine lld hL ?_) | ((with_reducible first | refine lbx hL ?_ | refine lal hL ?_ | refine lbs hL ?_); clear hL; intro bl w1 hL) | ((with_reducible refine lst' hL ?_); clear hL; intro w1 hL) | (go_at_call 55; refine HMO.out.mono ?_; rintro e w' ⟨rfl, rfl⟩; dsimp only) | (go_at_call 53; refine (HC.out _).mono ?_; rintro e w1 ⟨rfl, hb⟩; replace hL := hL.grow hb; clear hb; dsimp only))
    (try simp only [Exit.inBlock, Exit.then]); refine' ret1 rfl ?_ rfl ?_; (case refine'_2 => exact cRes)
    exact ⟨by rw [HF.out, if_neg HK.out], hL.below⟩
end Go.Proofs.YteimpfplgdhclaaGreat
