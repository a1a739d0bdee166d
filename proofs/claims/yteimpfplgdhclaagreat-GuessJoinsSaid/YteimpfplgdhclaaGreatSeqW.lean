/- The walks over slices.Collect, slices.Sorted, slices.Compact at ints, and over guess.sites: both lists' members, ascending. Conditions: the ints lie in memory that was there; as many as the model's memory bears. -/
import Derived.Test.YteimpfplgdhclaaGreatSeqV
import Derived.Test.YteimpfplgdhclaaGreatSeqC
import Derived.Test.YteimpfplgdhclaaGreatSitesP
set_option linter.unusedSimpArgs false
set_option linter.unusedVariables false
namespace Go.Proofs.YteimpfplgdhclaaGreat
open Go.RowKit Go.Sort

theorem appendSeq_any (Bs : Nat) (s : Sl) (zs : List Int) (hreach : zs.length * 8 ≤ 140737488351232) (w : World) (hBs : Bs < w.heap.size) (hc : w.cell? ⟨Bs, 0, none⟩ = some s.v) (hI : IntsAt w s zs) :
    Calls Tryz.prog 96 #[.slice none 0 0, .func (.func 94) #[] #[.pointer (some ⟨Bs, 0, none⟩)]] w fun e W' =>
      ∃ v, e = .returned v ∧ W'.ownsRow w.heap.size 3 1 v zs.length (zs.map (Value.int .i64)) ∧ Below w.heap.size w W' :=
  (callsIn_wide (n := 3)).1 (appendSeq_in 3 (Nat.le_refl _) Bs s zs hreach w hBs hc hI)
theorem values_any (p : Option Addr) (len cap : Nat) (w : World) :
    Calls Tryz.prog 83 #[.slice p len cap] w fun e w' => e = .returned (.func (.func 94) #[] #[.pointer (some ⟨w.heap.size, 0, none⟩)]) ∧ w' = w.alloc (.cells #[.slice p len cap] 27) :=
  (callsIn_wide (n := 1)).1 (values_in Fence.wide 1 trivial rfl p len cap w)
set_option maxRecDepth 100000 in
set_option maxHeartbeats 1000000 in
theorem collect_any (Bs : Nat) (s : Sl) (zs : List Int) (hreach : zs.length * 8 ≤ 140737488351232) (w : World) (hBs : Bs < w.heap.size) (hc : w.cell? ⟨Bs, 0, none⟩ = some s.v) (hI : IntsAt w s zs) :
    Calls Tryz.prog 92 #[.func (.func 94) #[] #[.pointer (some ⟨Bs, 0, none⟩)]] w fun e W' =>
      ∃ v, e = .returned v ∧ W'.ownsRow w.heap.size 3 1 v zs.length (zs.map (Value.int .i64)) ∧ Below w.heap.size w W' := by
  have HA := Lib.hid (appendSeq_any Bs s zs hreach w hBs hc hI)
  clear hc hI
  go_enter Tryz.func92, Tryz.ntmps92
  go_wp2_with (go_at_call 96; refine HA.out.mono ?_; rintro e w1 ⟨v, rfl, hrow, hb⟩; dsimp only)
  go_ret
  exact ⟨v, rfl, hrow, hb⟩
set_option maxRecDepth 100000 in
set_option maxHeartbeats 1000000 in
theorem sorted_any (Bs : Nat) (s : Sl) (zs : List Int) (hreach : zs.length * 8 ≤ 140737488351232) (w : World) (hBs : Bs < w.heap.size) (hc : w.cell? ⟨Bs, 0, none⟩ = some s.v) (hI : IntsAt w s zs) :
    Calls Tryz.prog 82 #[.func (.func 94) #[] #[.pointer (some ⟨Bs, 0, none⟩)]] w fun e W' =>
      ∃ v, e = .returned v ∧ W'.ownsRow w.heap.size 3 1 v zs.length ((zs.mergeSort fun x y => decide (x ≤ y)).map (Value.int .i64)) ∧ Below w.heap.size w W' := by
  have HA := Lib.hid (collect_any Bs s zs hreach w hBs hc hI)
  clear hc hI
  have hlm : (zs.mergeSort fun x y => decide (x ≤ y)).length = zs.length := by simp
  have HLM := Lib.hid hlm
  clear hlm
  go_enter Tryz.func82, Tryz.ntmps82
  go_wp2_with (go_at_call 92; refine HA.out.mono ?_; rintro e w1 ⟨v, rfl, hrow, hb⟩; dsimp only)
  rcases hrow.2 with ⟨rfl, hz⟩ | ⟨gb, cap, cur, rfl, hbase, hgb, r1, r2, r3, r4⟩
  · have hss : zs = [] := List.eq_nil_of_length_eq_zero hz
    subst hss
    go_wp2_with (go_at_call 93; refine (zSort_none none 0 w1).mono ?_; rintro e w2 ⟨rfl, rfl⟩; dsimp only)
    go_ret
    exact ⟨.slice none 0 0, rfl, by simpa using hrow, hb⟩
  · have hH : Holds (Value.int .i64) w1 gb 0 zs.toArray := holds_of_blockI hgb (by simpa using r4)
    have hgl : gb < w1.heap.size := heap_lt hgb
    have HS := Lib.hid (zSort gb 0 cap zs w1 hH hgl (by omega))
    go_wp2_with (go_at_call 93; refine HS.out.mono ?_; rintro e w2 ⟨rfl, nn, os, rfl⟩; dsimp only)
    go_ret
    exact ⟨_, rfl, ownsRow_sortedI (by simp) hbase hgb r1 r2 r3, hb.grown (grownBy_sortedI _) hb.size (fun j hj => by cases hj; exact hbase)⟩
/-- What slices.Compact leaves of a slice of the call's own. -/
theorem compact_any (base : Nat) (v : Value) (n : Nat) (zs : List Int) (w0 w : World) (h0 : base = w0.heap.size) (hn : zs.length = n) (hrow : w.ownsRow base 3 1 v n (zs.map (Value.int .i64))) (hb : Below w0.heap.size w0 w) :
    Calls Tryz.prog 81 #[v] w fun e W' => ∃ (s : Sl) (R : List LBlk), e = .returned s.v ∧ RowS 3 1 s.p s.n s.cap ((Lib.compact zs).map (Value.int .i64)) R ∧ Own w0.heap.size W' R ∧ Below w0.heap.size w0 W' := by
  subst h0 hn
  rcases hrow.2 with ⟨rfl, hz⟩ | ⟨gb, cap, cur, rfl, hbase, hgb, r1, r2, r3, r4⟩
  · have hss : zs = [] := List.eq_nil_of_length_eq_zero hz
    subst hss
    refine (zCompact_empty none 0 w).mono ?_
    rintro e W' ⟨rfl, rfl⟩
    exact ⟨nilSl, [], rfl, RowS.nil, Own.nil, hb⟩
  · have hH : Holds (Value.int .i64) w gb 0 zs.toArray := holds_of_blockI hgb (by simpa using r4)
    have hmx : maxLen = 9223372036854775807 := rfl
    refine (zCompact gb 0 cap zs w hH (by omega) r1).mono ?_
    rintro e W' ⟨rfl, q, rfl⟩
    have hle : (Lib.compact zs).length ≤ zs.length := by
      unfold Lib.compact Lib.compactUpTo
      rw [List.length_map]
      exact Nat.le_trans (List.length_filter_le _ _) (by simp)
    have hg := grownBy_sortedI (w := w) (g := gb) (n := q) (os := #[]) (Lib.compact zs ++ List.replicate (zs.length - (Lib.compact zs).length) 0).toArray
    have hh := heap_sortedI (n := q) (os := #[]) (Lib.compact zs ++ List.replicate (zs.length - (Lib.compact zs).length) 0).toArray hgb
    rw [grow_empty] at hg hh
    have ht := take_putCellsI cur (Lib.compact zs ++ List.replicate (zs.length - (Lib.compact zs).length) 0) (by simp; omega)
    have hlen : (Lib.compact zs ++ List.replicate (zs.length - (Lib.compact zs).length) 0).length = zs.length := by simp; omega
    rw [hlen] at ht
    refine ⟨⟨some ⟨gb, 0, none⟩, (Lib.compact zs).length, cap⟩, [(gb, 3, (putCells (Value.int .i64) 0 (Lib.compact zs ++ List.replicate (zs.length - (Lib.compact zs).length) 0).toArray cur).toList)], rfl, ⟨by simp, .inr ⟨gb, _, rfl, rfl, Nat.le_trans hle r1, r2, ?_, ?_⟩⟩, ⟨by simp, fun e he => ?_⟩, hb.grown hg hb.size (fun j hj => by cases hj; exact hbase)⟩
    · simp [putCells, r3]
    · have h6 := congrArg (fun l => l.take (Lib.compact zs).length) ht
      simp only [List.take_take, Nat.min_eq_left hle] at h6
      rw [Nat.mul_one, h6, List.map_append, List.take_append_of_le_length (by simp)]
      exact List.take_of_length_le (by simp)
    · rw [List.mem_singleton.1 he]
      refine ⟨hbase, ?_⟩
      dsimp only
      rw [Array.toArray_toList]
      exact hh

theorem sIntss : SliceT Tryz.prog 107 27 [.slice none 0 0] := ⟨by kernel_rfl, ⟨by kernel_rfl⟩, ⟨by kernel_rfl⟩⟩
set_option maxRecDepth 100000 in
set_option maxHeartbeats 2000000 in
theorem gsites_any (s t : Sl) (l m : List Int) (w : World) (hl : IntsAt w s l) (hm : IntsAt w t m) (hlen : (l.length + m.length) * 8 ≤ 140737488351232) :
    Calls Tryz.prog 58 #[s.v, t.v] w fun e w' => ∃ (r : Sl) (R : List LBlk), e = .returned r.v ∧ RowS 3 1 r.p r.n r.cap ((mixS l m).map (Value.int .i64)) R ∧ Own w.heap.size w' R ∧ Below w.heap.size w w' := by
  have HL := Lib.hid hl
  have HM := Lib.hid hm
  have HLN := Lib.hid hlen
  have HLS := Lib.hid (show (l ++ m).length * 8 ≤ 140737488351232 by rw [List.length_append]; exact hlen)
  have HMS := Lib.hid (show ((l ++ m).mergeSort fun x y => decide (x ≤ y)).length = (l ++ m).length by simp)
  clear hl hm hlen
  have hL := Loc.start w
  go_enter Tryz.func58, Tryz.ntmps58
  go_wp2_with (first | (with_reducible refine lbs (z := [.slice none 0 0]) (hT := sIntss) hL ?_; clear hL; intro bb w1 hL) | (go_at_call 84; refine (concat_any bb s t l m _ (hL.heap (by repeat (first | exact InL.head | apply InL.tail))) (HL.out.grow hL.below) (HM.out.grow hL.below) HLN.out).mono ?_; rintro e w2 ⟨p1, n1, c1, R1, rfl, hr1, ho1, hb1⟩; replace hL := hL.grow hb1; have I1 := hr1.ints ho1; clear hr1 ho1 hb1; dsimp only) | (go_at_call 83; refine (values_any p1 n1 c1 _).mono ?_; rintro e w3 ⟨rfl, hw3⟩; have hb3 : Below w2.heap.size w2 w3 := (by rw [hw3]; exact (Below.refl _ _).alloc (Nat.le_refl _) _); have hc3 : w3.cell? ⟨w2.heap.size, 0, none⟩ = some (Sl.v ⟨p1, n1, c1⟩) := (by rw [hw3]; exact cell_one_new _ _ _ 0 _ rfl); have hs3 : w2.heap.size < w3.heap.size := (by rw [hw3]; simp); replace hL := hL.grow hb3; replace I1 := I1.grow hb3; clear hb3 hw3; dsimp only) | (go_at_call 82; refine (sorted_any _ ⟨p1, n1, c1⟩ (l ++ m) HLS.out _ hs3 hc3 I1).mono ?_; rintro e w4 ⟨v4, rfl, hrow, hb4⟩; clear hs3 hc3 I1; dsimp only) | (go_at_call 81; refine (compact_any _ v4 _ _ w3 w4 rfl HMS.out hrow hb4).mono ?_; rintro e w5 ⟨s5, R5, rfl, I5, O5, hb5⟩; replace O5 := O5.mono hL.below.size; replace hL := hL.grow hb5; clear hrow hb4 hb5; dsimp only))
  go_ret
  exact ⟨s5, R5, rfl, I5, O5, hL.below⟩
end Go.Proofs.YteimpfplgdhclaaGreat
