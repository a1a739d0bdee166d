/- The walk over guess.two at 'less'. Conditions: none. -/
import Derived.Test.YteimpfplgdhclaaGreatGuessC
set_option linter.unusedSimpArgs false
set_option linter.unusedVariables false
namespace Go.Proofs.YteimpfplgdhclaaGreat
open Go.RowKit
set_option maxRecDepth 100000 in
set_option maxHeartbeats 8000000 in
theorem two_less (g h : Gu) (hn : (g.span.none || h.span.none) = false) (w : World) : Calls Tryz.prog 49 #[.int .i64 8, g.v, h.v] w fun e w' => e = .returned (Gu.v ⟨false, noSpan, decide (g.span.lo < h.span.hi), decide (h.span.lo ≤ g.span.hi), nilSl⟩) ∧ Below w.heap.size w w' := by
  obtain ⟨nl, ⟨gn, glo, ghi⟩, gt, gf, ⟨gp, gc, gcap⟩⟩ := g
  obtain ⟨hl, ⟨hn', hlo, hhi⟩, ht, hf, ⟨hp, hc, hcap⟩⟩ := h
  obtain ⟨rfl, rfl⟩ : gn = false ∧ hn' = false := by simpa using hn
  clear hn
  have hL := Loc.start w
  go_enter Tryz.func49, Tryz.ntmps49
  go_step
  go_step
  go_step
  ((with_reducible refine lbx hL ?_); clear hL; intro b4 w1 hL)
  ((with_reducible refine lbx hL ?_); clear hL; intro b5 w1 hL)
  ((with_reducible refine lal hL ?_); clear hL; intro b6 w1 hL)
  go_upto_region 1 with (first | (with_reducible refine lld hL ?_) | ((with_reducible first | refine lbx hL ?_ | refine lal hL ?_ | refine lbs hL ?_); clear hL; intro bl w1 hL) | ((with_reducible refine lst' hL ?_); clear hL; intro w1 hL))
  go_upto_region 3 with (first | ((with_reducible refine lal hL ?_); clear hL; intro b7 w1 hL) | (with_reducible refine lld hL ?_) | ((with_reducible first | refine lbx hL ?_ | refine lal hL ?_ | refine lbs hL ?_); clear hL; intro bl w1 hL) | ((with_reducible refine lst' hL ?_); clear hL; intro w1 hL) | (go_at_call 46; refine (nothing_any _).mono ?_; rintro e w1 ⟨rfl, hb⟩; replace hL := hL.grow hb; clear hb; dsimp only))
  go_upto_region 5 with (first | (with_reducible refine lld hL ?_) | ((with_reducible first | refine lbx hL ?_ | refine lal hL ?_ | refine lbs hL ?_); clear hL; intro bl w1 hL) | ((with_reducible refine lst' hL ?_); clear hL; intro w1 hL))
  have h0 := hL.conv (L' := (fun l => [(b7, 29, [.bool false, .bool true, .int .i64 0, .int .i64 0, bif lst l 15 then .bool (decide (glo < hhi)) else .bool false, bif lst l 17 then .bool (decide (hlo ≤ ghi)) else .bool false, .slice none 0 0]), (b6, 29, [.bool false, .bool false, .int .i64 0, .int .i64 0, .bool false, .bool false, .slice none 0 0]), (b5, 29, [.bool hl, .bool false, .int .i64 hlo, .int .i64 hhi, .bool ht, .bool hf, .slice hp hc hcap]), (b4, 29, [.bool nl, .bool false, .int .i64 glo, .int .i64 ghi, .bool gt, .bool gf, .slice gp gc gcap])]) (Array.replicate 18 false)) (by simp only [lst_rep, cond_false])
  refine draw_cells (w0 := _) [28, 29, 30, 31, 32, 33, 34, 35, 36, 37, 38, 39, 40, 41, 42, 43] [(0, 28, .pointer (some ⟨b4, 1, none⟩)), (1, 29, .pointer (some ⟨b4, 2, none⟩)), (2, 30, .int .i64 glo), (3, 31, .pointer (some ⟨b5, 1, none⟩)), (4, 32, .pointer (some ⟨b5, 3, none⟩)), (5, 33, .int .i64 hhi), (6, 34, .bool (decide (glo < hhi))), (7, 35, .pointer (some ⟨b4, 1, none⟩)), (8, 36, .pointer (some ⟨b4, 3, none⟩)), (9, 37, .int .i64 ghi), (10, 38, .pointer (some ⟨b5, 1, none⟩)), (11, 39, .pointer (some ⟨b5, 2, none⟩)), (12, 40, .int .i64 hlo), (13, 41, .bool (decide (hlo ≤ ghi))), (14, 42, .pointer (some ⟨b7, 4, none⟩)), (16, 43, .pointer (some ⟨b7, 5, none⟩))] (fun l => [(b7, 29, [.bool false, .bool true, .int .i64 0, .int .i64 0, bif lst l 15 then .bool (decide (glo < hhi)) else .bool false, bif lst l 17 then .bool (decide (hlo ≤ ghi)) else .bool false, .slice none 0 0]), (b6, 29, [.bool false, .bool false, .int .i64 0, .int .i64 0, .bool false, .bool false, .slice none 0 0]), (b5, 29, [.bool hl, .bool false, .int .i64 hlo, .int .i64 hhi, .bool ht, .bool hf, .slice hp hc hcap]), (b4, 29, [.bool nl, .bool false, .int .i64 glo, .int .i64 ghi, .bool gt, .bool gf, .slice gp gc gcap])]) (by kernel_rfl) (by kernel_rfl) h0 ⟨?_, ?_, ?_, ?_, ?_, ?_, ?_, ?_, ?_, ?_, ?_, ?_, ?_, ?_, ?_, ?_, ?_, ?_, trivial⟩ ?_
  all_goals clear hL h0
  · intro l g w hi hI hdep
    have hL := hI.loc
    try dsimp only at hL
    refine inv_valC (d := 28) (x := .pointer (some ⟨b4, 1, none⟩)) (by kernel_rfl) (by repeat (first | exact List.mem_cons_self | apply List.mem_cons_of_mem)) hI (by simp only [lst_set_ne (show (15 : Nat) ≠ 0 by decide), lst_set_ne (show (17 : Nat) ≠ 0 by decide)]) ?_
    clear hdep
    simp only [fillD, fLa, fLb, sTa, sTb]
    go_wp2
    exact cY
  · intro l g w hi hI hdep
    have hL := hI.loc
    try dsimp only at hL
    have d0 := hI.vals (0, 28, .pointer (some ⟨b4, 1, none⟩)) (by repeat (first | exact List.mem_cons_self | apply List.mem_cons_of_mem)) (hdep 0 (by decide))
    try dsimp only at d0
    refine inv_valC (d := 29) (x := .pointer (some ⟨b4, 2, none⟩)) (by kernel_rfl) (by repeat (first | exact List.mem_cons_self | apply List.mem_cons_of_mem)) hI (by simp only [lst_set_ne (show (15 : Nat) ≠ 1 by decide), lst_set_ne (show (17 : Nat) ≠ 1 by decide)]) ?_
    clear hdep
    simp only [fillD, fLa, fLb, sTa, sTb]
    simp only [d0]
    go_wp2
    exact cY
  · intro l g w hi hI hdep
    have hL := hI.loc
    try dsimp only at hL
    have d1 := hI.vals (1, 29, .pointer (some ⟨b4, 2, none⟩)) (by repeat (first | exact List.mem_cons_self | apply List.mem_cons_of_mem)) (hdep 1 (by decide))
    try dsimp only at d1
    refine inv_valC (d := 30) (x := .int .i64 glo) (by kernel_rfl) (by repeat (first | exact List.mem_cons_self | apply List.mem_cons_of_mem)) hI (by simp only [lst_set_ne (show (15 : Nat) ≠ 2 by decide), lst_set_ne (show (17 : Nat) ≠ 2 by decide)]) ?_
    clear hdep
    simp only [fillD, fLa, fLb, sTa, sTb]
    simp only [d1]
    go_wp2_with (first | (with_reducible refine lld hL ?_) | (with_reducible refine ldD hL ?_))
    exact cY
  · intro l g w hi hI hdep
    have hL := hI.loc
    try dsimp only at hL
    refine inv_valC (d := 31) (x := .pointer (some ⟨b5, 1, none⟩)) (by kernel_rfl) (by repeat (first | exact List.mem_cons_self | apply List.mem_cons_of_mem)) hI (by simp only [lst_set_ne (show (15 : Nat) ≠ 3 by decide), lst_set_ne (show (17 : Nat) ≠ 3 by decide)]) ?_
    clear hdep
    simp only [fillD, fLa, fLb, sTa, sTb]
    go_wp2
    exact cY
  · intro l g w hi hI hdep
    have hL := hI.loc
    try dsimp only at hL
    have d3 := hI.vals (3, 31, .pointer (some ⟨b5, 1, none⟩)) (by repeat (first | exact List.mem_cons_self | apply List.mem_cons_of_mem)) (hdep 3 (by decide))
    try dsimp only at d3
    refine inv_valC (d := 32) (x := .pointer (some ⟨b5, 3, none⟩)) (by kernel_rfl) (by repeat (first | exact List.mem_cons_self | apply List.mem_cons_of_mem)) hI (by simp only [lst_set_ne (show (15 : Nat) ≠ 4 by decide), lst_set_ne (show (17 : Nat) ≠ 4 by decide)]) ?_
    clear hdep
    simp only [fillD, fLa, fLb, sTa, sTb]
    simp only [d3]
    go_wp2
    exact cY
  · intro l g w hi hI hdep
    have hL := hI.loc
    try dsimp only at hL
    have d4 := hI.vals (4, 32, .pointer (some ⟨b5, 3, none⟩)) (by repeat (first | exact List.mem_cons_self | apply List.mem_cons_of_mem)) (hdep 4 (by decide))
    try dsimp only at d4
    refine inv_valC (d := 33) (x := .int .i64 hhi) (by kernel_rfl) (by repeat (first | exact List.mem_cons_self | apply List.mem_cons_of_mem)) hI (by simp only [lst_set_ne (show (15 : Nat) ≠ 5 by decide), lst_set_ne (show (17 : Nat) ≠ 5 by decide)]) ?_
    clear hdep
    simp only [fillD, fLa, fLb, sTa, sTb]
    simp only [d4]
    go_wp2_with (first | (with_reducible refine lld hL ?_) | (with_reducible refine ldD hL ?_))
    exact cY
  · intro l g w hi hI hdep
    have hL := hI.loc
    try dsimp only at hL
    have d2 := hI.vals (2, 30, .int .i64 glo) (by repeat (first | exact List.mem_cons_self | apply List.mem_cons_of_mem)) (hdep 2 (by decide))
    try dsimp only at d2
    have d5 := hI.vals (5, 33, .int .i64 hhi) (by repeat (first | exact List.mem_cons_self | apply List.mem_cons_of_mem)) (hdep 5 (by decide))
    try dsimp only at d5
    refine inv_valC (d := 34) (x := .bool (decide (glo < hhi))) (by kernel_rfl) (by repeat (first | exact List.mem_cons_self | apply List.mem_cons_of_mem)) hI (by simp only [lst_set_ne (show (15 : Nat) ≠ 6 by decide), lst_set_ne (show (17 : Nat) ≠ 6 by decide)]) ?_
    clear hdep
    simp only [fillD, fLa, fLb, sTa, sTb]
    simp only [d2, d5]
    go_wp2
    exact cY
  · intro l g w hi hI hdep
    have hL := hI.loc
    try dsimp only at hL
    refine inv_valC (d := 35) (x := .pointer (some ⟨b4, 1, none⟩)) (by kernel_rfl) (by repeat (first | exact List.mem_cons_self | apply List.mem_cons_of_mem)) hI (by simp only [lst_set_ne (show (15 : Nat) ≠ 7 by decide), lst_set_ne (show (17 : Nat) ≠ 7 by decide)]) ?_
    clear hdep
    simp only [fillD, fLa, fLb, sTa, sTb]
    go_wp2
    exact cY
  · intro l g w hi hI hdep
    have hL := hI.loc
    try dsimp only at hL
    have d7 := hI.vals (7, 35, .pointer (some ⟨b4, 1, none⟩)) (by repeat (first | exact List.mem_cons_self | apply List.mem_cons_of_mem)) (hdep 7 (by decide))
    try dsimp only at d7
    refine inv_valC (d := 36) (x := .pointer (some ⟨b4, 3, none⟩)) (by kernel_rfl) (by repeat (first | exact List.mem_cons_self | apply List.mem_cons_of_mem)) hI (by simp only [lst_set_ne (show (15 : Nat) ≠ 8 by decide), lst_set_ne (show (17 : Nat) ≠ 8 by decide)]) ?_
    clear hdep
    simp only [fillD, fLa, fLb, sTa, sTb]
    simp only [d7]
    go_wp2
    exact cY
  · intro l g w hi hI hdep
    have hL := hI.loc
    try dsimp only at hL
    have d8 := hI.vals (8, 36, .pointer (some ⟨b4, 3, none⟩)) (by repeat (first | exact List.mem_cons_self | apply List.mem_cons_of_mem)) (hdep 8 (by decide))
    try dsimp only at d8
    refine inv_valC (d := 37) (x := .int .i64 ghi) (by kernel_rfl) (by repeat (first | exact List.mem_cons_self | apply List.mem_cons_of_mem)) hI (by simp only [lst_set_ne (show (15 : Nat) ≠ 9 by decide), lst_set_ne (show (17 : Nat) ≠ 9 by decide)]) ?_
    clear hdep
    simp only [fillD, fLa, fLb, sTa, sTb]
    simp only [d8]
    go_wp2_with (first | (with_reducible refine lld hL ?_) | (with_reducible refine ldD hL ?_))
    exact cY
  · intro l g w hi hI hdep
    have hL := hI.loc
    try dsimp only at hL
    refine inv_valC (d := 38) (x := .pointer (some ⟨b5, 1, none⟩)) (by kernel_rfl) (by repeat (first | exact List.mem_cons_self | apply List.mem_cons_of_mem)) hI (by simp only [lst_set_ne (show (15 : Nat) ≠ 10 by decide), lst_set_ne (show (17 : Nat) ≠ 10 by decide)]) ?_
    clear hdep
    simp only [fillD, fLa, fLb, sTa, sTb]
    go_wp2
    exact cY
  · intro l g w hi hI hdep
    have hL := hI.loc
    try dsimp only at hL
    have d10 := hI.vals (10, 38, .pointer (some ⟨b5, 1, none⟩)) (by repeat (first | exact List.mem_cons_self | apply List.mem_cons_of_mem)) (hdep 10 (by decide))
    try dsimp only at d10
    refine inv_valC (d := 39) (x := .pointer (some ⟨b5, 2, none⟩)) (by kernel_rfl) (by repeat (first | exact List.mem_cons_self | apply List.mem_cons_of_mem)) hI (by simp only [lst_set_ne (show (15 : Nat) ≠ 11 by decide), lst_set_ne (show (17 : Nat) ≠ 11 by decide)]) ?_
    clear hdep
    simp only [fillD, fLa, fLb, sTa, sTb]
    simp only [d10]
    go_wp2
    exact cY
  · intro l g w hi hI hdep
    have hL := hI.loc
    try dsimp only at hL
    have d11 := hI.vals (11, 39, .pointer (some ⟨b5, 2, none⟩)) (by repeat (first | exact List.mem_cons_self | apply List.mem_cons_of_mem)) (hdep 11 (by decide))
    try dsimp only at d11
    refine inv_valC (d := 40) (x := .int .i64 hlo) (by kernel_rfl) (by repeat (first | exact List.mem_cons_self | apply List.mem_cons_of_mem)) hI (by simp only [lst_set_ne (show (15 : Nat) ≠ 12 by decide), lst_set_ne (show (17 : Nat) ≠ 12 by decide)]) ?_
    clear hdep
    simp only [fillD, fLa, fLb, sTa, sTb]
    simp only [d11]
    go_wp2_with (first | (with_reducible refine lld hL ?_) | (with_reducible refine ldD hL ?_))
    exact cY
  · intro l g w hi hI hdep
    have hL := hI.loc
    try dsimp only at hL
    have d9 := hI.vals (9, 37, .int .i64 ghi) (by repeat (first | exact List.mem_cons_self | apply List.mem_cons_of_mem)) (hdep 9 (by decide))
    try dsimp only at d9
    have d12 := hI.vals (12, 40, .int .i64 hlo) (by repeat (first | exact List.mem_cons_self | apply List.mem_cons_of_mem)) (hdep 12 (by decide))
    try dsimp only at d12
    refine inv_valC (d := 41) (x := .bool (decide (hlo ≤ ghi))) (by kernel_rfl) (by repeat (first | exact List.mem_cons_self | apply List.mem_cons_of_mem)) hI (by simp only [lst_set_ne (show (15 : Nat) ≠ 13 by decide), lst_set_ne (show (17 : Nat) ≠ 13 by decide)]) ?_
    clear hdep
    simp only [fillD, fLa, fLb, sTa, sTb]
    simp only [d9, d12]
    go_wp2
    exact cY
  · intro l g w hi hI hdep
    have hL := hI.loc
    try dsimp only at hL
    refine inv_valC (d := 42) (x := .pointer (some ⟨b7, 4, none⟩)) (by kernel_rfl) (by repeat (first | exact List.mem_cons_self | apply List.mem_cons_of_mem)) hI (by simp only [lst_set_ne (show (15 : Nat) ≠ 14 by decide), lst_set_ne (show (17 : Nat) ≠ 14 by decide)]) ?_
    clear hdep
    simp only [fillD, fLa, fLb, sTa, sTb]
    go_wp2
    exact cY
  · intro l g w hi hI hdep
    have hL := hI.loc
    try dsimp only at hL
    have d14 := hI.vals (14, 42, .pointer (some ⟨b7, 4, none⟩)) (by repeat (first | exact List.mem_cons_self | apply List.mem_cons_of_mem)) (hdep 14 (by decide))
    try dsimp only at d14
    have d6 := hI.vals (6, 34, .bool (decide (glo < hhi))) (by repeat (first | exact List.mem_cons_self | apply List.mem_cons_of_mem)) (hdep 6 (by decide))
    try dsimp only at d6
    refine inv_stD (i := 15) (L := [(b7, 29, [.bool false, .bool true, .int .i64 0, .int .i64 0, .bool (decide (glo < hhi)), bif lst l 17 then .bool (decide (hlo ≤ ghi)) else .bool false, .slice none 0 0]), (b6, 29, [.bool false, .bool false, .int .i64 0, .int .i64 0, .bool false, .bool false, .slice none 0 0]), (b5, 29, [.bool hl, .bool false, .int .i64 hlo, .int .i64 hhi, .bool ht, .bool hf, .slice hp hc hcap]), (b4, 29, [.bool nl, .bool false, .int .i64 glo, .int .i64 ghi, .bool gt, .bool gf, .slice gp gc gcap])]) hI (by kernel_rfl) (by simp only [lst_set_self hi, lst_set_ne (show (17 : Nat) ≠ 15 by decide), cond_true]) ?_
    clear hdep
    simp only [fillD, fLa, fLb, sTa, sTb]
    simp only [d14, d6]
    ((with_reducible refine lst' hL ?_); clear hL; intro w1 hL)
    exact ⟨rfl, rfl, hL⟩
  · intro l g w hi hI hdep
    have hL := hI.loc
    try dsimp only at hL
    refine inv_valC (d := 43) (x := .pointer (some ⟨b7, 5, none⟩)) (by kernel_rfl) (by repeat (first | exact List.mem_cons_self | apply List.mem_cons_of_mem)) hI (by simp only [lst_set_ne (show (15 : Nat) ≠ 16 by decide), lst_set_ne (show (17 : Nat) ≠ 16 by decide)]) ?_
    clear hdep
    simp only [fillD, fLa, fLb, sTa, sTb]
    go_wp2
    exact cY
  · intro l g w hi hI hdep
    have hL := hI.loc
    try dsimp only at hL
    have d16 := hI.vals (16, 43, .pointer (some ⟨b7, 5, none⟩)) (by repeat (first | exact List.mem_cons_self | apply List.mem_cons_of_mem)) (hdep 16 (by decide))
    try dsimp only at d16
    have d13 := hI.vals (13, 41, .bool (decide (hlo ≤ ghi))) (by repeat (first | exact List.mem_cons_self | apply List.mem_cons_of_mem)) (hdep 13 (by decide))
    try dsimp only at d13
    refine inv_stD (i := 17) (L := [(b7, 29, [.bool false, .bool true, .int .i64 0, .int .i64 0, bif lst l 15 then .bool (decide (glo < hhi)) else .bool false, .bool (decide (hlo ≤ ghi)), .slice none 0 0]), (b6, 29, [.bool false, .bool false, .int .i64 0, .int .i64 0, .bool false, .bool false, .slice none 0 0]), (b5, 29, [.bool hl, .bool false, .int .i64 hlo, .int .i64 hhi, .bool ht, .bool hf, .slice hp hc hcap]), (b4, 29, [.bool nl, .bool false, .int .i64 glo, .int .i64 ghi, .bool gt, .bool gf, .slice gp gc gcap])]) hI (by kernel_rfl) (by simp only [lst_set_self hi, lst_set_ne (show (15 : Nat) ≠ 17 by decide), cond_true]) ?_
    clear hdep
    simp only [fillD, fLa, fLb, sTa, sTb]
    simp only [d16, d13]
    ((with_reducible refine lst' hL ?_); clear hL; intro w1 hL)
    exact ⟨rfl, rfl, hL⟩
  intro g w2 l hl hL hX
  simp only [hl 15 (by decide), hl 17 (by decide), cond_true] at hL
  have e0 := hX (0, 28, .pointer (some ⟨b4, 1, none⟩)) (by repeat (first | exact List.mem_cons_self | apply List.mem_cons_of_mem)) (show (0 : Nat) < 18 by decide)
  have e1 := hX (1, 29, .pointer (some ⟨b4, 2, none⟩)) (by repeat (first | exact List.mem_cons_self | apply List.mem_cons_of_mem)) (show (1 : Nat) < 18 by decide)
  have e2 := hX (2, 30, .int .i64 glo) (by repeat (first | exact List.mem_cons_self | apply List.mem_cons_of_mem)) (show (2 : Nat) < 18 by decide)
  have e3 := hX (3, 31, .pointer (some ⟨b5, 1, none⟩)) (by repeat (first | exact List.mem_cons_self | apply List.mem_cons_of_mem)) (show (3 : Nat) < 18 by decide)
  have e4 := hX (4, 32, .pointer (some ⟨b5, 3, none⟩)) (by repeat (first | exact List.mem_cons_self | apply List.mem_cons_of_mem)) (show (4 : Nat) < 18 by decide)
  have e5 := hX (5, 33, .int .i64 hhi) (by repeat (first | exact List.mem_cons_self | apply List.mem_cons_of_mem)) (show (5 : Nat) < 18 by decide)
  have e6 := hX (6, 34, .bool (decide (glo < hhi))) (by repeat (first | exact List.mem_cons_self | apply List.mem_cons_of_mem)) (show (6 : Nat) < 18 by decide)
  have e7 := hX (7, 35, .pointer (some ⟨b4, 1, none⟩)) (by repeat (first | exact List.mem_cons_self | apply List.mem_cons_of_mem)) (show (7 : Nat) < 18 by decide)
  have e8 := hX (8, 36, .pointer (some ⟨b4, 3, none⟩)) (by repeat (first | exact List.mem_cons_self | apply List.mem_cons_of_mem)) (show (8 : Nat) < 18 by decide)
  have e9 := hX (9, 37, .int .i64 ghi) (by repeat (first | exact List.mem_cons_self | apply List.mem_cons_of_mem)) (show (9 : Nat) < 18 by decide)
  have e10 := hX (10, 38, .pointer (some ⟨b5, 1, none⟩)) (by repeat (first | exact List.mem_cons_self | apply List.mem_cons_of_mem)) (show (10 : Nat) < 18 by decide)
  have e11 := hX (11, 39, .pointer (some ⟨b5, 2, none⟩)) (by repeat (first | exact List.mem_cons_self | apply List.mem_cons_of_mem)) (show (11 : Nat) < 18 by decide)
  have e12 := hX (12, 40, .int .i64 hlo) (by repeat (first | exact List.mem_cons_self | apply List.mem_cons_of_mem)) (show (12 : Nat) < 18 by decide)
  have e13 := hX (13, 41, .bool (decide (hlo ≤ ghi))) (by repeat (first | exact List.mem_cons_self | apply List.mem_cons_of_mem)) (show (13 : Nat) < 18 by decide)
  have e14 := hX (14, 42, .pointer (some ⟨b7, 4, none⟩)) (by repeat (first | exact List.mem_cons_self | apply List.mem_cons_of_mem)) (show (14 : Nat) < 18 by decide)
  have e16 := hX (16, 43, .pointer (some ⟨b7, 5, none⟩)) (by repeat (first | exact List.mem_cons_self | apply List.mem_cons_of_mem)) (show (16 : Nat) < 18 by decide)
  try dsimp only at e0 e1 e2 e3 e4 e5 e6 e7 e8 e9 e10 e11 e12 e13 e14 e16
  clear hX hl
  simp only [fillD, fLa, fLb, sTa, sTb]
  simp only [e0, e1, e2, e3, e4, e5, e6, e7, e8, e9, e10, e11, e12, e13, e14, e16]
  clear e0 e1 e2 e3 e4 e5 e6 e7 e8 e9 e10 e11 e12 e13 e14 e16
  go_wp2_with (first | (with_reducible refine lld hL ?_) | ((with_reducible first | refine lbx hL ?_ | refine lal hL ?_ | refine lbs hL ?_); clear hL; intro bl w1 hL) | ((with_reducible refine lst' hL ?_); clear hL; intro w1 hL))
  (try simp only [Exit.inBlock, Exit.then]); refine' ret1 rfl ?_ rfl ?_; (case refine'_2 => exact cRes)
  exact ⟨rfl, hL.below⟩
end Go.Proofs.YteimpfplgdhclaaGreat
