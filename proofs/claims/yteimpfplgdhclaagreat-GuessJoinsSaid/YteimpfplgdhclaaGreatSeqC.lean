/- The walks over slices.Grow of nil and slices.Concat of two slices of ints. Conditions: the ints lie in memory that was there; as many as the model's memory bears. -/
import Derived.Lib.AppendZeros
import Derived.Test.YteimpfplgdhclaaGreatCod
import Derived.Test.YteimpfplgdhclaaGreatLib
set_option linter.unusedSimpArgs false
set_option linter.unusedVariables false
namespace Go.Proofs.YteimpfplgdhclaaGreat
open Go.RowKit
theorem infoG : (Tryz.prog.info? 3).map (fun i => (i.zero, i.size, i.bytes)) = some (some (.int .i64 0), 1, 8) := by kernel_rfl
theorem undG : Tryz.prog.underlying 27 = some (.slice 3) := by kernel_rfl

set_option maxRecDepth 100000 in
set_option maxHeartbeats 1000000 in
theorem grow_any (n : Nat) (hn : n * 8 ≤ 140737488355328) (w : World) :
    Calls Tryz.prog 95 #[.slice none 0 0, .int .i64 n] w fun e w' => ∃ p cap R, e = .returned (.slice p 0 cap) ∧ RowS 3 1 p 0 cap [] R ∧ Own w.heap.size w' R ∧ Below w.heap.size w w' := by
  rcases Nat.eq_zero_or_pos n with rfl | h0
  · go_enter Tryz.func95, Tryz.ntmps95
    go_wp2
    go_ret
    exact ⟨none, 0, [], rfl, RowS.nil, Own.nil, Below.refl _ _⟩
  · obtain ⟨i0, hi, hz0, hz1, hz2⟩ := info_parts infoG
    have hmx : maxLen = 9223372036854775807 := rfl
    have undk : Tryz.prog.underlying 3 = some (.int .i64) := by kernel_rfl
    have HR := Lib.hid (fun ty => Lib.run_append_nil_zeros (P := Tryz.prog) w 27 3 ty 3 i0 (.int .i64 0) .i64 .i64 undG undk hi hz0 n h0 (by omega) (by omega) (by rw [hz2]; omega))
    have hc1 := grownCap_ge w n 0 3
    have hc2 := grownCap_le_maxLen w n 0 3 (by omega)
    generalize grownCap w n 0 3 = cap at HR hc1 hc2
    have HC := Lib.hid (And.intro hc1 hc2)
    clear hc2
    go_enter Tryz.func95, Tryz.ntmps95
    go_wp2_with (at_builtin; refine Lib.wpList_append_run _ rfl _ _ _ _ rfl _ _ rfl rfl _ _ (HR.out _) ?_)
    go_ret
    refine ⟨some ⟨w.heap.size, 0, none⟩, cap, [(w.heap.size, 3, (Builtin.zeroCells (Value.int .i64 0).cells n ++ Builtin.zeroCells (Value.int .i64 0).cells (cap - n)).toList)], rfl, ⟨by simp, .inr ⟨w.heap.size, _, rfl, rfl, Nat.zero_le _, HC.out.2, ?_, by simp⟩⟩, ⟨by simp, fun e he => ?_⟩, ?_⟩
    · have := HC.out.1
      simp [Builtin.zeroCells, Value.cells]
      omega
    · rw [List.mem_singleton.1 he]
      refine ⟨Nat.le_refl _, ?_⟩
      dsimp only
      rw [Array.toArray_toList]
      exact heap_new w.drew _
    · exact ((Below.refl _ w).drew).alloc (by simp) _
theorem oneI (l : List Int) : ∀ u ∈ l.map (Value.int .i64), u.oneCell' = true := fun u hu => by
  obtain ⟨x, _, rfl⟩ := List.mem_map.1 hu
  rfl
theorem IntsAt.news {w : World} {s : Sl} {l : List Int} (h : IntsAt w s l) : 0 < s.n → ∃ ad, s.p = some ad ∧ ∀ j u, (l.map (Value.int .i64))[j]? = some u → w.cell? (ad.add j) = some u := by
  obtain ⟨b, o, hp, hr⟩ := h.at'.ex
  refine fun h0 => ⟨⟨b, o, none⟩, hp h0, fun j u hj => ?_⟩
  have hn := h.n
  have hj' : j < l.length := by
    have := (List.getElem?_eq_some_iff.1 hj).1
    simpa using this
  have h1 := (hr j (by omega)).2 0 _ rfl
  rw [List.getElem?_map, List.getElem?_eq_getElem hj'] at hj
  have hu : u = .int .i64 (l.getD j 0) := by
    rw [List.getD_eq_getElem?_getD, List.getElem?_eq_getElem hj']
    simpa using hj.symm
  rw [hu, add_addr]
  simpa using h1

set_option maxRecDepth 100000 in
set_option maxHeartbeats 2000000 in
theorem concat_any (bb : Nat) (s t : Sl) (l m : List Int) (w : World) (hh : w.heap[bb]? = some (.cells #[s.v, t.v] 27 (0, 0))) (hl : IntsAt w s l) (hm : IntsAt w t m) (hlen : (l.length + m.length) * 8 ≤ 140737488351232) :
    Calls Tryz.prog 84 #[.slice (some ⟨bb, 0, none⟩) 2 2] w fun e w' => ∃ p n cap R, e = .returned (.slice p n cap) ∧ RowS 3 1 p n cap ((l ++ m).map (Value.int .i64)) R ∧ Own w.heap.size w' R ∧ Below w.heap.size w w' := by
  have hmx : maxLen = 9223372036854775807 := rfl
  have hsn := hl.n
  have htn := hm.n
  have HL := Lib.hid hl
  have HM := Lib.hid hm
  have R0 := Lib.hid (ReadsAt.cell (P := Tryz.prog) (T := 27) (v := s.v) (off := 0) tInts (heap_lt hh) (by simp [World.cell?, hh]))
  have R1 := Lib.hid (ReadsAt.cell (P := Tryz.prog) (T := 27) (v := t.v) (off := 1) tInts (heap_lt hh) (by simp [World.cell?, hh]))
  have hg := fun w' => grow_any (l.length + m.length) (by omega) w'
  rw [show (((l.length + m.length : Nat)) : Int) = (l.length : Int) + (m.length : Int) by omega] at hg
  have HG := Lib.hid hg
  obtain ⟨sp, sn, sc⟩ := s
  obtain ⟨tp, tn, tc⟩ := t
  dsimp only at hsn htn
  subst hsn
  subst htn
  clear hl hm hh hg
  have HLN := Lib.hid hlen
  have hp1 : ¬ ((l.length : Int) < 0) := by omega
  have hp2 : ¬ ((l.length : Int) + (m.length : Int) < 0) := by omega
  clear hlen
  have hb1 : l.length ≤ 140737488355328 := by have := HLN.out; omega
  have hb2 : m.length ≤ 140737488355328 := by have := HLN.out; omega
  have HNL := Lib.hid (fun (w' : World) (hb : Below w.heap.size w w') => (show 0 < l.length → ∃ ad, sp = some ad ∧ ∀ j u, (l.map (Value.int .i64))[j]? = some u → w'.cell? (ad.add j) = some u from (HL.out.grow hb).news))
  have HNM := Lib.hid (fun (w' : World) (hb : Below w.heap.size w w') => (show 0 < m.length → ∃ ad, tp = some ad ∧ ∀ j u, (m.map (Value.int .i64))[j]? = some u → w'.cell? (ad.add j) = some u from (HM.out.grow hb).news))
  clear HL HM
  have hL := Loc.start w
  go_enter Tryz.func84, Tryz.ntmps84
  go_upto_region 10 with (first | (refine loc_loadB R0.out hL rfl rfl ?_) | (refine loc_loadB R1.out hL rfl rfl ?_) | ((with_reducible refine wp_loop_rounds 3 ?_)) | (with_reducible refine rounds_go ?_) | (go_at_call 95; refine (HG.out _).mono ?_; rintro e w1 ⟨p1, c1, N1, rfl, hN1, ho1, hb⟩; replace hL := hL.gainTail hb ho1; simp only [List.nil_append] at hL; clear hb ho1; dsimp only))
  go_upto_region 13 with (first | (refine loc_loadB R0.out hL rfl rfl ?_) | (refine loc_loadB R1.out hL rfl rfl ?_) | ((with_reducible refine wp_loop_rounds 3 ?_)) | (with_reducible refine rounds_go ?_))
  go_upto_region 14 with (at_builtin; refine loc_appendS (K := []) (R := N1) (q := sp) (m := l.length) (c := sc) (news := l.map (Value.int .i64)) hN1 hL rfl rfl rfl sInts bInt (by decide) rfl ?_ ?_ (oneI l) ?_ ?_ ?_; (case refine_1 => exact HNL.out _ hL.below); (case refine_2 => simp); (case refine_3 => (have := HLN.out; omega)); (case refine_4 => (have := HLN.out; omega)); clear hL hN1; intro p2 c2 N2 w2 hN2 hL; simp only [List.nil_append, Nat.zero_add] at hL hN2 ⊢)
  go_upto_region 13 with (first | (refine loc_loadB R0.out hL rfl rfl ?_) | (refine loc_loadB R1.out hL rfl rfl ?_) | ((with_reducible refine wp_loop_rounds 3 ?_)) | (with_reducible refine rounds_go ?_))
  go_upto_region 14 with (at_builtin; refine loc_appendS (K := []) (R := N2) (q := tp) (m := m.length) (c := tc) (news := m.map (Value.int .i64)) hN2 hL rfl rfl rfl sInts bInt (by decide) rfl ?_ ?_ (oneI m) ?_ ?_ ?_; (case refine_1 => exact HNM.out _ hL.below); (case refine_2 => simp); (case refine_3 => (have := HLN.out; omega)); (case refine_4 => (have := HLN.out; omega)); clear hL hN2; intro p3 c3 N3 w3 hN3 hL; simp only [List.nil_append] at hL)
  go_wp2_with (first | ((with_reducible refine wp_loop_rounds 3 ?_)) | (with_reducible refine rounds_go ?_))
  go_ret
  exact ⟨p3, l.length + m.length, c3, rfl, N3, hN3, hL.own, hL.below⟩
end Go.Proofs.YteimpfplgdhclaaGreat
