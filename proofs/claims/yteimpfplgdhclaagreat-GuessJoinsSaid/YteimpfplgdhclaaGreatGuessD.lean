/- The walks over Inside and GuessIn. Conditions: what they read lies in memory that was there. -/
import Derived.Test.YteimpfplgdhclaaGreatGuessD2
set_option linter.unusedSimpArgs false
set_option linter.unusedVariables false
namespace Go.Proofs.YteimpfplgdhclaaGreat
open Go.RowKit

/-! ### Inside -/
def lostI (l m : List Int) : Bool := anyN (fun k => !hasI m (l.getD k 0)) l.length
def insideG (g h : Gu) (l m : List Int) : Bool := (!g.null || h.null) && (!g.tr || h.tr) && (!g.fa || h.fa) && inside g.span h.span && !lostI l m
set_option maxRecDepth 100000 in
set_option maxHeartbeats 4000000 in
theorem ginside_any (g h : Gu) (l m : List Int) (w : World) (hl : IntsAt w g.s l) (hm : IntsAt w h.s m) :
    Calls Tryz.prog 37 #[g.v, h.v] w fun e w' => e = .returned (.bool (insideG g h l m)) ∧ Below w.heap.size w w' := by
  obtain ⟨gl, ⟨gn, glo, ghi⟩, gt, gf, gs⟩ := g
  obtain ⟨hl', ⟨hn, hlo, hhi⟩, ht, hf, hs⟩ := h
  dsimp only at hl hm
  have HS := Lib.hid (fun w' => inside_any ⟨gn, glo, ghi⟩ ⟨hn, hlo, hhi⟩ w')
  have HL := Lib.hid hl
  have HM := Lib.hid hm
  clear hl hm
  have hL := Loc.start w
  go_enter Tryz.func37, Tryz.ntmps37
  go_step
  go_step
  go_step
  ((with_reducible refine lbx hL ?_); clear hL; intro b2 w1 hL)
  ((with_reducible refine lbx hL ?_); clear hL; intro b3 w1 hL)
  go_upto_region 1 with (first | (with_reducible refine lld hL ?_) | ((with_reducible first | refine lbx hL ?_ | refine lal hL ?_ | refine lbs hL ?_); clear hL; intro bl w1 hL) | ((with_reducible refine lst' hL ?_); clear hL; intro w1 hL))
  have hcl := containsInts gs l (fun k => !hasI m (l.getD k 0)) 61 (.pointer (some ⟨b3, 0, none⟩)) _ (HL.out.grow hL.below) ⟨enterI, fun k _ w2 hb2 => inside1_any hs m (l.getD k 0) b3 w2 ((hL.readsG (b := b3) (Tv := 27) (off := 6) (v := hs.v) (by repeat (first | exact InL.head | apply InL.tail)) (Reads.cell tInts rfl)).grow hb2) ((HM.out.grow hL.below).grow hb2)⟩
  rw [show anyN (fun k => !hasI m (l.getD k 0)) l.length = lostI l m from rfl] at hcl
  have HF := Lib.hid (show insideG ⟨gl, ⟨gn, glo, ghi⟩, gt, gf, gs⟩ ⟨hl', ⟨hn, hlo, hhi⟩, ht, hf, hs⟩ l m = ((!gl || hl') && (!gt || ht) && (!gf || hf) && inside ⟨gn, glo, ghi⟩ ⟨hn, hlo, hhi⟩ && !lostI l m) from rfl)
  generalize lostI l m = lost at hcl HF
  generalize inside ⟨gn, glo, ghi⟩ ⟨hn, hlo, hhi⟩ = ins at HS HF
  have HCL := Lib.hid hcl
  clear hcl
  go_upto_region 2 with (first | (with_reducible refine lld hL ?_) | ((with_reducible first | refine lbx hL ?_ | refine lal hL ?_ | refine lbs hL ?_); clear hL; intro bl w1 hL) | ((with_reducible refine lst' hL ?_); clear hL; intro w1 hL) | (go_at_call 60; ((with_reducible refine (HCL.out).mono ?_); rintro e w1 ⟨rfl, hb⟩; replace hL := hL.grow hb; clear hb; dsimp only)))
  refine seq_begin [10, 11, 12, 13, 14, 15, 16, 17, 18, 19, 20, 21, 22, 23, 24, 25, 26, 27, 28, 29, 30, 31, 32, 33, 34, 35, 36, 37, 38, 39, 40, 41, 42, 43, 44, 45, 4] ?_
  apply draw_val
  · intro g w hb hdep; replace hL := hL.grow hb; clear hdep; simp only [fillD, fLa, fLb, sTa, sTb]
    go_wp2
    exact cY
  simp only [apN, apC]
  apply draw_val
  · intro g w hb hdep; replace hL := hL.grow hb; have d0 := yv hdep 0; clear hdep; simp only [fillD, fLa, fLb, sTa, sTb]; simp only [d0]
    go_wp2_with (first | (with_reducible refine lld hL ?_) | (with_reducible refine ldD hL ?_))
    exact cY
  simp only [apN, apC]
  apply draw_val
  · intro g w hb hdep; replace hL := hL.grow hb; have d1 := yv hdep 1; clear hdep; simp only [fillD, fLa, fLb, sTa, sTb]; simp only [d1]
    go_wp2
    exact cY
  simp only [apN, apC]
  apply draw_val
  · intro g w hb hdep; replace hL := hL.grow hb; have d2 := yv hdep 2; clear hdep; simp only [fillD, fLa, fLb, sTa, sTb]; simp only [d2]
    go_wp2
    exact cY
  simp only [apN, apC]
  refine' draw_guard (j := 3) rfl rfl rfl (by decide) (by simp) ?_ ?_; rotate_left
  · intro hcs; simp only [Bool.and_eq_true, beqT, beqF] at hcs; intro g w hb hdep; replace hL := hL.grow hb; clear hdep; simp only [fillD, fLa, fLb, sTa, sTb]
    go_wp2
    exact cY
  simp only [apN, apC]
  refine' draw_guard (j := 3) rfl rfl rfl (by decide) (by simp) ?_ ?_; rotate_left
  · intro hcs; simp only [Bool.and_eq_true, beqT, beqF] at hcs; intro g w hb hdep; replace hL := hL.grow hb; have d4 := yv hdep 4; simp only [hcs, beq_self_eq_true, Bool.and_self, Bool.true_and, Bool.and_true, cnd_true] at d4; clear hdep; simp only [fillD, fLa, fLb, sTa, sTb]; simp only [d4]
    go_wp2_with (first | (with_reducible refine lld hL ?_) | (with_reducible refine ldD hL ?_))
    exact cY
  simp only [apN, apC]
  apply draw_val
  · intro g w hb hdep; replace hL := hL.grow hb; have d3 := yv hdep 3; have d5 := yv hdep 5; clear hdep; simp only [fillD, fLa, fLb, sTa, sTb]; simp only [d3, d5]
    first | refine wp_pick_or rfl rfl ?_ | go_wp2
    exact cY
  simp only [apN, apC]
  apply draw_val
  · intro g w hb hdep; replace hL := hL.grow hb; have d6 := yv hdep 6; clear hdep; simp only [fillD, fLa, fLb, sTa, sTb]; simp only [d6]
    go_wp2
    exact cY
  simp only [apN, apC]
  refine' draw_guard (j := 7) rfl rfl rfl (by decide) (by simp) ?_ ?_; rotate_left
  · intro hcs; simp only [Bool.and_eq_true, beqT, beqF] at hcs; intro g w hb hdep; replace hL := hL.grow hb; clear hdep; simp only [fillD, fLa, fLb, sTa, sTb]
    go_wp2
    exact cY
  simp only [apN, apC]
  refine' draw_guard (j := 7) rfl rfl rfl (by decide) (by simp) ?_ ?_; rotate_left
  · intro hcs; simp only [Bool.and_eq_true, beqT, beqF] at hcs; intro g w hb hdep; replace hL := hL.grow hb; have d8 := yv hdep 8; simp only [hcs, beq_self_eq_true, Bool.and_self, Bool.true_and, Bool.and_true, cnd_true] at d8; clear hdep; simp only [fillD, fLa, fLb, sTa, sTb]; simp only [d8]
    go_wp2_with (first | (with_reducible refine lld hL ?_) | (with_reducible refine ldD hL ?_))
    exact cY
  simp only [apN, apC]
  refine' draw_guard (j := 7) rfl rfl rfl (by decide) (by simp) ?_ ?_; rotate_left
  · intro hcs; simp only [Bool.and_eq_true, beqT, beqF] at hcs; intro g w hb hdep; replace hL := hL.grow hb; have d9 := yv hdep 9; simp only [hcs, beq_self_eq_true, Bool.and_self, Bool.true_and, Bool.and_true, cnd_true] at d9; clear hdep; simp only [fillD, fLa, fLb, sTa, sTb]; simp only [d9]
    go_wp2
    exact cY
  simp only [apN, apC]
  refine' draw_guard (j := 7) rfl rfl rfl (by decide) (by simp) ?_ ?_; rotate_left
  · intro hcs; simp only [Bool.and_eq_true, beqT, beqF] at hcs; intro g w hb hdep; replace hL := hL.grow hb; have d10 := yv hdep 10; simp only [hcs, beq_self_eq_true, Bool.and_self, Bool.true_and, Bool.and_true, cnd_true] at d10; clear hdep; simp only [fillD, fLa, fLb, sTa, sTb]; simp only [d10]
    go_wp2
    exact cY
  simp only [apN, apC]
  refine' draw_guardC (j := 11) rfl rfl rfl (by decide) (by simp) ?_ ?_; rotate_left
  · intro hcs; simp only [Bool.and_eq_true, beqT, beqF] at hcs; intro g w hb hdep; replace hL := hL.grow hb; clear hdep; simp only [fillD, fLa, fLb, sTa, sTb]
    go_wp2
    exact cY
  simp only [apN, apC]
  refine' draw_guardC (j := 11) rfl rfl rfl (by decide) (by simp) ?_ ?_; rotate_left
  · intro hcs; simp only [Bool.and_eq_true, beqT, beqF] at hcs; intro g w hb hdep; replace hL := hL.grow hb; have d12 := yv hdep 12; simp only [hcs, beq_self_eq_true, Bool.and_self, Bool.true_and, Bool.and_true, cnd_true] at d12; clear hdep; simp only [fillD, fLa, fLb, sTa, sTb]; simp only [d12]
    go_wp2_with (first | (with_reducible refine lld hL ?_) | (with_reducible refine ldD hL ?_))
    exact cY
  simp only [apN, apC]
  refine' draw_guard (j := 7) rfl rfl rfl (by decide) (by simp) ?_ ?_; rotate_left
  · intro hcs; simp only [Bool.and_eq_true, beqT, beqF] at hcs; intro g w hb hdep; replace hL := hL.grow hb; have d11 := yv hdep 11; simp only [hcs, beq_self_eq_true, Bool.and_self, Bool.true_and, Bool.and_true, cnd_true] at d11; have d13 := yv hdep 13; simp only [hcs, beq_self_eq_true, Bool.and_self, Bool.true_and, Bool.and_true, cnd_true] at d13; clear hdep; simp only [fillD, fLa, fLb, sTa, sTb]; simp only [d11, d13]
    first | refine wp_pick_or rfl rfl ?_ | go_wp2
    exact cY
  simp only [apN, apC]
  apply draw_val
  · intro g w hb hdep; replace hL := hL.grow hb; have d7 := yv hdep 7; have d14 := yv hdep 14; clear hdep; simp only [fillD, fLa, fLb, sTa, sTb]; simp only [d7, d14]
    first | refine wp_pick_and rfl rfl ?_ | go_wp2
    exact cY
  simp only [apN, apC]
  apply draw_val
  · intro g w hb hdep; replace hL := hL.grow hb; have d15 := yv hdep 15; clear hdep; simp only [fillD, fLa, fLb, sTa, sTb]; simp only [d15]
    go_wp2
    exact cY
  simp only [apN, apC]
  refine' draw_guard (j := 16) rfl rfl rfl (by decide) (by simp) ?_ ?_; rotate_left
  · intro hcs; simp only [Bool.and_eq_true, beqT, beqF] at hcs; intro g w hb hdep; replace hL := hL.grow hb; clear hdep; simp only [fillD, fLa, fLb, sTa, sTb]
    go_wp2
    exact cY
  simp only [apN, apC]
  refine' draw_guard (j := 16) rfl rfl rfl (by decide) (by simp) ?_ ?_; rotate_left
  · intro hcs; simp only [Bool.and_eq_true, beqT, beqF] at hcs; intro g w hb hdep; replace hL := hL.grow hb; have d17 := yv hdep 17; simp only [hcs, beq_self_eq_true, Bool.and_self, Bool.true_and, Bool.and_true, cnd_true] at d17; clear hdep; simp only [fillD, fLa, fLb, sTa, sTb]; simp only [d17]
    go_wp2_with (first | (with_reducible refine lld hL ?_) | (with_reducible refine ldD hL ?_))
    exact cY
  simp only [apN, apC]
  refine' draw_guard (j := 16) rfl rfl rfl (by decide) (by simp) ?_ ?_; rotate_left
  · intro hcs; simp only [Bool.and_eq_true, beqT, beqF] at hcs; intro g w hb hdep; replace hL := hL.grow hb; have d18 := yv hdep 18; simp only [hcs, beq_self_eq_true, Bool.and_self, Bool.true_and, Bool.and_true, cnd_true] at d18; clear hdep; simp only [fillD, fLa, fLb, sTa, sTb]; simp only [d18]
    go_wp2
    exact cY
  simp only [apN, apC]
  refine' draw_guard (j := 16) rfl rfl rfl (by decide) (by simp) ?_ ?_; rotate_left
  · intro hcs; simp only [Bool.and_eq_true, beqT, beqF] at hcs; intro g w hb hdep; replace hL := hL.grow hb; have d19 := yv hdep 19; simp only [hcs, beq_self_eq_true, Bool.and_self, Bool.true_and, Bool.and_true, cnd_true] at d19; clear hdep; simp only [fillD, fLa, fLb, sTa, sTb]; simp only [d19]
    go_wp2
    exact cY
  simp only [apN, apC]
  refine' draw_guardC (j := 20) rfl rfl rfl (by decide) (by simp) ?_ ?_; rotate_left
  · intro hcs; simp only [Bool.and_eq_true, beqT, beqF] at hcs; intro g w hb hdep; replace hL := hL.grow hb; clear hdep; simp only [fillD, fLa, fLb, sTa, sTb]
    go_wp2
    exact cY
  simp only [apN, apC]
  refine' draw_guardC (j := 20) rfl rfl rfl (by decide) (by simp) ?_ ?_; rotate_left
  · intro hcs; simp only [Bool.and_eq_true, beqT, beqF] at hcs; intro g w hb hdep; replace hL := hL.grow hb; have d21 := yv hdep 21; simp only [hcs, beq_self_eq_true, Bool.and_self, Bool.true_and, Bool.and_true, cnd_true] at d21; clear hdep; simp only [fillD, fLa, fLb, sTa, sTb]; simp only [d21]
    go_wp2_with (first | (with_reducible refine lld hL ?_) | (with_reducible refine ldD hL ?_))
    exact cY
  simp only [apN, apC]
  refine' draw_guard (j := 16) rfl rfl rfl (by decide) (by simp) ?_ ?_; rotate_left
  · intro hcs; simp only [Bool.and_eq_true, beqT, beqF] at hcs; intro g w hb hdep; replace hL := hL.grow hb; have d20 := yv hdep 20; simp only [hcs, beq_self_eq_true, Bool.and_self, Bool.true_and, Bool.and_true, cnd_true] at d20; have d22 := yv hdep 22; simp only [hcs, beq_self_eq_true, Bool.and_self, Bool.true_and, Bool.and_true, cnd_true] at d22; clear hdep; simp only [fillD, fLa, fLb, sTa, sTb]; simp only [d20, d22]
    first | refine wp_pick_or rfl rfl ?_ | go_wp2
    exact cY
  simp only [apN, apC]
  apply draw_val
  · intro g w hb hdep; replace hL := hL.grow hb; have d16 := yv hdep 16; have d23 := yv hdep 23; clear hdep; simp only [fillD, fLa, fLb, sTa, sTb]; simp only [d16, d23]
    first | refine wp_pick_and rfl rfl ?_ | go_wp2
    exact cY
  simp only [apN, apC]
  apply draw_val
  · intro g w hb hdep; replace hL := hL.grow hb; have d24 := yv hdep 24; clear hdep; simp only [fillD, fLa, fLb, sTa, sTb]; simp only [d24]
    go_wp2
    exact cY
  simp only [apN, apC]
  refine' draw_guard (j := 25) rfl rfl rfl (by decide) (by simp) ?_ ?_; rotate_left
  · intro hcs; simp only [Bool.and_eq_true, beqT, beqF] at hcs; intro g w hb hdep; replace hL := hL.grow hb; clear hdep; simp only [fillD, fLa, fLb, sTa, sTb]
    go_wp2
    exact cY
  simp only [apN, apC]
  refine' draw_guard (j := 25) rfl rfl rfl (by decide) (by simp) ?_ ?_; rotate_left
  · intro hcs; simp only [Bool.and_eq_true, beqT, beqF] at hcs; intro g w hb hdep; replace hL := hL.grow hb; have d26 := yv hdep 26; simp only [hcs, beq_self_eq_true, Bool.and_self, Bool.true_and, Bool.and_true, cnd_true] at d26; clear hdep; simp only [fillD, fLa, fLb, sTa, sTb]; simp only [d26]
    go_wp2_with (first | (with_reducible refine lld hL ?_) | (with_reducible refine ldD hL ?_))
    exact cY
  simp only [apN, apC]
  refine' draw_guard (j := 25) rfl rfl rfl (by decide) (by simp) ?_ ?_; rotate_left
  · intro hcs; simp only [Bool.and_eq_true, beqT, beqF] at hcs; intro g w hb hdep; replace hL := hL.grow hb; clear hdep; simp only [fillD, fLa, fLb, sTa, sTb]
    go_wp2
    exact cY
  simp only [apN, apC]
  refine' draw_guard (j := 25) rfl rfl rfl (by decide) (by simp) ?_ ?_; rotate_left
  · intro hcs; simp only [Bool.and_eq_true, beqT, beqF] at hcs; intro g w hb hdep; replace hL := hL.grow hb; have d28 := yv hdep 28; simp only [hcs, beq_self_eq_true, Bool.and_self, Bool.true_and, Bool.and_true, cnd_true] at d28; clear hdep; simp only [fillD, fLa, fLb, sTa, sTb]; simp only [d28]
    go_wp2_with (first | (with_reducible refine lld hL ?_) | (with_reducible refine ldD hL ?_))
    exact cY
  simp only [apN, apC]
  refine' draw_guard (j := 25) rfl rfl rfl (by decide) (by simp) ?_ ?_; rotate_left
  · intro hcs; simp only [Bool.and_eq_true, beqT, beqF] at hcs; intro g w hb hdep; replace hL := hL.grow hb; have d27 := yv hdep 27; simp only [hcs, beq_self_eq_true, Bool.and_self, Bool.true_and, Bool.and_true, cnd_true] at d27; have d29 := yv hdep 29; simp only [hcs, beq_self_eq_true, Bool.and_self, Bool.true_and, Bool.and_true, cnd_true] at d29; clear hdep; simp only [fillD, fLa, fLb, sTa, sTb]; simp only [d27, d29]
    go_wp2_with (go_at_call 63; refine (HS.out _).mono ?_; rintro e w3 ⟨rfl, hb3⟩; dsimp only)
    exact ⟨rfl, _, rfl, (by assumption), rfl⟩
  simp only [apN, apC]
  apply draw_val
  · intro g w hb hdep; replace hL := hL.grow hb; have d25 := yv hdep 25; have d30 := yv hdep 30; clear hdep; simp only [fillD, fLa, fLb, sTa, sTb]; simp only [d25, d30]
    first | refine wp_pick_and rfl rfl ?_ | go_wp2
    exact cY
  simp only [apN, apC]
  apply draw_val
  · intro g w hb hdep; replace hL := hL.grow hb; have d31 := yv hdep 31; clear hdep; simp only [fillD, fLa, fLb, sTa, sTb]; simp only [d31]
    go_wp2
    exact cY
  simp only [apN, apC]
  refine' draw_guard (j := 32) rfl rfl rfl (by decide) (by simp) ?_ ?_; rotate_left
  · intro hcs; simp only [Bool.and_eq_true, beqT, beqF] at hcs; intro g w hb hdep; replace hL := hL.grow hb; clear hdep; simp only [fillD, fLa, fLb, sTa, sTb]
    go_wp2
    exact cY
  simp only [apN, apC]
  refine' draw_guard (j := 32) rfl rfl rfl (by decide) (by simp) ?_ ?_; rotate_left
  · intro hcs; simp only [Bool.and_eq_true, beqT, beqF] at hcs; intro g w hb hdep; replace hL := hL.grow hb; have d33 := yv hdep 33; simp only [hcs, beq_self_eq_true, Bool.and_self, Bool.true_and, Bool.and_true, cnd_true] at d33; clear hdep; simp only [fillD, fLa, fLb, sTa, sTb]; simp only [d33]
    go_wp2
    exact cY
  simp only [apN, apC]
  apply draw_val
  · intro g w hb hdep; replace hL := hL.grow hb; have d32 := yv hdep 32; have d34 := yv hdep 34; clear hdep; simp only [fillD, fLa, fLb, sTa, sTb]; simp only [d32, d34]
    first | refine wp_pick_and rfl rfl ?_ | go_wp2
    exact cY
  simp only [apN, apC]
  apply draw_val
  · intro g w hb hdep; replace hL := hL.grow hb; have d35 := yv hdep 35; clear hdep; simp only [fillD, fLa, fLb, sTa, sTb]; simp only [d35]
    go_wp2
    exact cY
  simp only [apN, apC]
  refine seq_end hL (by kernel_rfl) ?_
  intro g w2 hb hR; simp only [List.length_cons, List.length_nil, Nat.reduceAdd] at hR
  have e0 := yv hR 0
  have e1 := yv hR 1
  have e2 := yv hR 2
  have e3 := yv hR 3
  have e4 := yv hR 4
  have e5 := yv hR 5
  have e6 := yv hR 6
  have e7 := yv hR 7
  have e8 := yv hR 8
  have e9 := yv hR 9
  have e10 := yv hR 10
  have e11 := yv hR 11
  have e12 := yv hR 12
  have e13 := yv hR 13
  have e14 := yv hR 14
  have e15 := yv hR 15
  have e16 := yv hR 16
  have e17 := yv hR 17
  have e18 := yv hR 18
  have e19 := yv hR 19
  have e20 := yv hR 20
  have e21 := yv hR 21
  have e22 := yv hR 22
  have e23 := yv hR 23
  have e24 := yv hR 24
  have e25 := yv hR 25
  have e26 := yv hR 26
  have e27 := yv hR 27
  have e28 := yv hR 28
  have e29 := yv hR 29
  have e30 := yv hR 30
  have e31 := yv hR 31
  have e32 := yv hR 32
  have e33 := yv hR 33
  have e34 := yv hR 34
  have e35 := yv hR 35
  have e36 := yv hR 36
  clear hR; simp only [fillD, fLa, fLb, sTa, sTb]
  simp only [e0, e1, e2, e3, e4, e5, e6, e7, e8, e9, e10, e11, e12, e13, e14, e15, e16, e17, e18, e19, e20, e21, e22, e23, e24, e25, e26, e27, e28, e29, e30, e31, e32, e33, e34, e35, e36]
  clear e0 e1 e2 e3 e4 e5 e6 e7 e8 e9 e10 e11 e12 e13 e14 e15 e16 e17 e18 e19 e20 e21 e22 e23 e24 e25 e26 e27 e28 e29 e30 e31 e32 e33 e34 e35 e36
  replace hL := hL.grow hb
  clear hb
  go_wp2_with (first | (with_reducible refine lld hL ?_) | ((with_reducible first | refine lbx hL ?_ | refine lal hL ?_ | refine lbs hL ?_); clear hL; intro bl w1 hL) | ((with_reducible refine lst' hL ?_); clear hL; intro w1 hL))
  (try simp only [Exit.inBlock, Exit.then]); refine' ret1 rfl ?_ rfl ?_; (case refine'_2 => exact cRes)
  exact ⟨by rw [HF.out]; rfl, hL.below⟩

def headIn (g h : Gu) : Bool := g.null && !h.null || g.tr && !h.tr || g.fa && !h.fa || !inside g.span h.span
theorem insideG_eq (g h : Gu) (l m : List Int) : insideG g h l m = (!headIn g h && !lostI l m) := by
  unfold insideG headIn
  cases g.null <;> cases h.null <;> cases g.tr <;> cases h.tr <;> cases g.fa <;> cases h.fa <;> simp
set_option maxRecDepth 100000 in
set_option maxHeartbeats 4000000 in
theorem rGuessIn_any (g h : Gu) (l m : List Int) (w : World) (hcs : checkSpan g.span = 0) (hl : IntsAt w g.s l) (hm : IntsAt w h.s m) :
    Calls Tryz.prog 16 #[g.v, h.v] w fun e w' => e = .returned (.bool (insideG g h l m)) ∧ Below w.heap.size w w' := by
  have HF := Lib.hid (show insideG g h l m = (!(g.null && !h.null || g.tr && !h.tr || g.fa && !h.fa || !inside g.span h.span) && !lostI l m) from insideG_eq g h l m)
  obtain ⟨gl, ⟨gn, glo, ghi⟩, gt, gf, ⟨gp, gk, gc⟩⟩ := g
  obtain ⟨hl', ⟨hn, hlo, hhi⟩, ht, hf, ⟨hp, hk, hc⟩⟩ := h
  obtain ⟨b, o, hpp, hcc⟩ := hl.reads tInt
  have hnn := hl.n
  have hm64 := hl.m
  dsimp only at hnn hpp hcc hm64 HF
  subst hnn
  have HP := Lib.hid hpp
  have HC := Lib.hid hcc
  have HS := Lib.hid (fun w' => rWithin_any ⟨gn, glo, ghi⟩ ⟨hn, hlo, hhi⟩ hcs w')
  have HI := Lib.hid (fun x w' hb => rHas_any ⟨hp, hk, hc⟩ m x w' (hm.grow hb))
  generalize inside ⟨gn, glo, ghi⟩ ⟨hn, hlo, hhi⟩ = ins at HS HF
  clear hl hm hpp hcc hcs
  have hL := Loc.start w
  go_enter Tryz.func16, Tryz.ntmps16
  go_step
  go_step
  go_step
  ((with_reducible refine lbx hL ?_); clear hL; intro b2 w1 hL)
  ((with_reducible refine lbx hL ?_); clear hL; intro b3 w1 hL)
  go_upto_region 1 with (first | (with_reducible refine lld hL ?_) | ((with_reducible first | refine lbx hL ?_ | refine lal hL ?_ | refine lbs hL ?_); clear hL; intro bl w1 hL) | ((with_reducible refine lst' hL ?_); clear hL; intro w1 hL))
  refine seq_begin [6, 7, 8, 9, 10, 11, 12, 13, 14, 15, 16, 17, 18, 19, 20, 21, 22, 23, 24, 25, 26, 27, 28, 29, 30, 31, 32, 33, 34, 35, 36, 37, 38] ?_
  apply draw_val
  · intro g w hb hdep; replace hL := hL.grow hb; clear hdep; simp only [fillD, fLa, fLb, sTa, sTb]
    go_wp2
    exact cY
  simp only [apN, apC]
  apply draw_val
  · intro g w hb hdep; replace hL := hL.grow hb; have d0 := yv hdep 0; clear hdep; simp only [fillD, fLa, fLb, sTa, sTb]; simp only [d0]
    go_wp2_with (first | (with_reducible refine lld hL ?_) | (with_reducible refine ldD hL ?_))
    exact cY
  simp only [apN, apC]
  apply draw_val
  · intro g w hb hdep; replace hL := hL.grow hb; have d1 := yv hdep 1; clear hdep; simp only [fillD, fLa, fLb, sTa, sTb]; simp only [d1]
    go_wp2
    exact cY
  simp only [apN, apC]
  refine' draw_guard (j := 2) rfl rfl rfl (by decide) (by simp) ?_ ?_; rotate_left
  · intro hcs; simp only [Bool.and_eq_true, beqT, beqF] at hcs; intro g w hb hdep; replace hL := hL.grow hb; clear hdep; simp only [fillD, fLa, fLb, sTa, sTb]
    go_wp2
    exact cY
  simp only [apN, apC]
  refine' draw_guard (j := 2) rfl rfl rfl (by decide) (by simp) ?_ ?_; rotate_left
  · intro hcs; simp only [Bool.and_eq_true, beqT, beqF] at hcs; intro g w hb hdep; replace hL := hL.grow hb; have d3 := yv hdep 3; simp only [hcs, beq_self_eq_true, Bool.and_self, Bool.true_and, Bool.and_true, cnd_true] at d3; clear hdep; simp only [fillD, fLa, fLb, sTa, sTb]; simp only [d3]
    go_wp2_with (first | (with_reducible refine lld hL ?_) | (with_reducible refine ldD hL ?_))
    exact cY
  simp only [apN, apC]
  refine' draw_guard (j := 2) rfl rfl rfl (by decide) (by simp) ?_ ?_; rotate_left
  · intro hcs; simp only [Bool.and_eq_true, beqT, beqF] at hcs; intro g w hb hdep; replace hL := hL.grow hb; have d4 := yv hdep 4; simp only [hcs, beq_self_eq_true, Bool.and_self, Bool.true_and, Bool.and_true, cnd_true] at d4; clear hdep; simp only [fillD, fLa, fLb, sTa, sTb]; simp only [d4]
    go_wp2
    exact cY
  simp only [apN, apC]
  apply draw_val
  · intro g w hb hdep; replace hL := hL.grow hb; have d2 := yv hdep 2; have d5 := yv hdep 5; clear hdep; simp only [fillD, fLa, fLb, sTa, sTb]; simp only [d2, d5]
    first | refine wp_pick_and rfl rfl ?_ | go_wp2
    exact cY
  simp only [apN, apC]
  apply draw_val
  · intro g w hb hdep; replace hL := hL.grow hb; have d6 := yv hdep 6; clear hdep; simp only [fillD, fLa, fLb, sTa, sTb]; simp only [d6]
    go_wp2
    exact cY
  simp only [apN, apC]
  refine' draw_guard (j := 7) rfl rfl rfl (by decide) (by simp) ?_ ?_; rotate_left
  · intro hcs; simp only [Bool.and_eq_true, beqT, beqF] at hcs; intro g w hb hdep; replace hL := hL.grow hb; clear hdep; simp only [fillD, fLa, fLb, sTa, sTb]
    go_wp2
    exact cY
  simp only [apN, apC]
  refine' draw_guard (j := 7) rfl rfl rfl (by decide) (by simp) ?_ ?_; rotate_left
  · intro hcs; simp only [Bool.and_eq_true, beqT, beqF] at hcs; intro g w hb hdep; replace hL := hL.grow hb; have d8 := yv hdep 8; simp only [hcs, beq_self_eq_true, Bool.and_self, Bool.true_and, Bool.and_true, cnd_true] at d8; clear hdep; simp only [fillD, fLa, fLb, sTa, sTb]; simp only [d8]
    go_wp2_with (first | (with_reducible refine lld hL ?_) | (with_reducible refine ldD hL ?_))
    exact cY
  simp only [apN, apC]
  refine' draw_guard (j := 7) rfl rfl rfl (by decide) (by simp) ?_ ?_; rotate_left
  · intro hcs; simp only [Bool.and_eq_true, beqT, beqF] at hcs; intro g w hb hdep; replace hL := hL.grow hb; have d9 := yv hdep 9; simp only [hcs, beq_self_eq_true, Bool.and_self, Bool.true_and, Bool.and_true, cnd_true] at d9; clear hdep; simp only [fillD, fLa, fLb, sTa, sTb]; simp only [d9]
    go_wp2
    exact cY
  simp only [apN, apC]
  refine' draw_guardC (j := 10) rfl rfl rfl (by decide) (by simp) ?_ ?_; rotate_left
  · intro hcs; simp only [Bool.and_eq_true, beqT, beqF] at hcs; intro g w hb hdep; replace hL := hL.grow hb; clear hdep; simp only [fillD, fLa, fLb, sTa, sTb]
    go_wp2
    exact cY
  simp only [apN, apC]
  refine' draw_guardC (j := 10) rfl rfl rfl (by decide) (by simp) ?_ ?_; rotate_left
  · intro hcs; simp only [Bool.and_eq_true, beqT, beqF] at hcs; intro g w hb hdep; replace hL := hL.grow hb; have d11 := yv hdep 11; simp only [hcs, beq_self_eq_true, Bool.and_self, Bool.true_and, Bool.and_true, cnd_true] at d11; clear hdep; simp only [fillD, fLa, fLb, sTa, sTb]; simp only [d11]
    go_wp2_with (first | (with_reducible refine lld hL ?_) | (with_reducible refine ldD hL ?_))
    exact cY
  simp only [apN, apC]
  refine' draw_guardC (j := 10) rfl rfl rfl (by decide) (by simp) ?_ ?_; rotate_left
  · intro hcs; simp only [Bool.and_eq_true, beqT, beqF] at hcs; intro g w hb hdep; replace hL := hL.grow hb; have d12 := yv hdep 12; simp only [hcs, beq_self_eq_true, Bool.and_self, Bool.true_and, Bool.and_true, cnd_true] at d12; clear hdep; simp only [fillD, fLa, fLb, sTa, sTb]; simp only [d12]
    go_wp2
    exact cY
  simp only [apN, apC]
  refine' draw_guard (j := 7) rfl rfl rfl (by decide) (by simp) ?_ ?_; rotate_left
  · intro hcs; simp only [Bool.and_eq_true, beqT, beqF] at hcs; intro g w hb hdep; replace hL := hL.grow hb; have d10 := yv hdep 10; simp only [hcs, beq_self_eq_true, Bool.and_self, Bool.true_and, Bool.and_true, cnd_true] at d10; have d13 := yv hdep 13; simp only [hcs, beq_self_eq_true, Bool.and_self, Bool.true_and, Bool.and_true, cnd_true] at d13; clear hdep; simp only [fillD, fLa, fLb, sTa, sTb]; simp only [d10, d13]
    first | refine wp_pick_and rfl rfl ?_ | go_wp2
    exact cY
  simp only [apN, apC]
  apply draw_val
  · intro g w hb hdep; replace hL := hL.grow hb; have d7 := yv hdep 7; have d14 := yv hdep 14; clear hdep; simp only [fillD, fLa, fLb, sTa, sTb]; simp only [d7, d14]
    first | refine wp_pick_or rfl rfl ?_ | go_wp2
    exact cY
  simp only [apN, apC]
  apply draw_val
  · intro g w hb hdep; replace hL := hL.grow hb; have d15 := yv hdep 15; clear hdep; simp only [fillD, fLa, fLb, sTa, sTb]; simp only [d15]
    go_wp2
    exact cY
  simp only [apN, apC]
  refine' draw_guard (j := 16) rfl rfl rfl (by decide) (by simp) ?_ ?_; rotate_left
  · intro hcs; simp only [Bool.and_eq_true, beqT, beqF] at hcs; intro g w hb hdep; replace hL := hL.grow hb; clear hdep; simp only [fillD, fLa, fLb, sTa, sTb]
    go_wp2
    exact cY
  simp only [apN, apC]
  refine' draw_guard (j := 16) rfl rfl rfl (by decide) (by simp) ?_ ?_; rotate_left
  · intro hcs; simp only [Bool.and_eq_true, beqT, beqF] at hcs; intro g w hb hdep; replace hL := hL.grow hb; have d17 := yv hdep 17; simp only [hcs, beq_self_eq_true, Bool.and_self, Bool.true_and, Bool.and_true, cnd_true] at d17; clear hdep; simp only [fillD, fLa, fLb, sTa, sTb]; simp only [d17]
    go_wp2_with (first | (with_reducible refine lld hL ?_) | (with_reducible refine ldD hL ?_))
    exact cY
  simp only [apN, apC]
  refine' draw_guard (j := 16) rfl rfl rfl (by decide) (by simp) ?_ ?_; rotate_left
  · intro hcs; simp only [Bool.and_eq_true, beqT, beqF] at hcs; intro g w hb hdep; replace hL := hL.grow hb; have d18 := yv hdep 18; simp only [hcs, beq_self_eq_true, Bool.and_self, Bool.true_and, Bool.and_true, cnd_true] at d18; clear hdep; simp only [fillD, fLa, fLb, sTa, sTb]; simp only [d18]
    go_wp2
    exact cY
  simp only [apN, apC]
  refine' draw_guardC (j := 19) rfl rfl rfl (by decide) (by simp) ?_ ?_; rotate_left
  · intro hcs; simp only [Bool.and_eq_true, beqT, beqF] at hcs; intro g w hb hdep; replace hL := hL.grow hb; clear hdep; simp only [fillD, fLa, fLb, sTa, sTb]
    go_wp2
    exact cY
  simp only [apN, apC]
  refine' draw_guardC (j := 19) rfl rfl rfl (by decide) (by simp) ?_ ?_; rotate_left
  · intro hcs; simp only [Bool.and_eq_true, beqT, beqF] at hcs; intro g w hb hdep; replace hL := hL.grow hb; have d20 := yv hdep 20; simp only [hcs, beq_self_eq_true, Bool.and_self, Bool.true_and, Bool.and_true, cnd_true] at d20; clear hdep; simp only [fillD, fLa, fLb, sTa, sTb]; simp only [d20]
    go_wp2_with (first | (with_reducible refine lld hL ?_) | (with_reducible refine ldD hL ?_))
    exact cY
  simp only [apN, apC]
  refine' draw_guardC (j := 19) rfl rfl rfl (by decide) (by simp) ?_ ?_; rotate_left
  · intro hcs; simp only [Bool.and_eq_true, beqT, beqF] at hcs; intro g w hb hdep; replace hL := hL.grow hb; have d21 := yv hdep 21; simp only [hcs, beq_self_eq_true, Bool.and_self, Bool.true_and, Bool.and_true, cnd_true] at d21; clear hdep; simp only [fillD, fLa, fLb, sTa, sTb]; simp only [d21]
    go_wp2
    exact cY
  simp only [apN, apC]
  refine' draw_guard (j := 16) rfl rfl rfl (by decide) (by simp) ?_ ?_; rotate_left
  · intro hcs; simp only [Bool.and_eq_true, beqT, beqF] at hcs; intro g w hb hdep; replace hL := hL.grow hb; have d19 := yv hdep 19; simp only [hcs, beq_self_eq_true, Bool.and_self, Bool.true_and, Bool.and_true, cnd_true] at d19; have d22 := yv hdep 22; simp only [hcs, beq_self_eq_true, Bool.and_self, Bool.true_and, Bool.and_true, cnd_true] at d22; clear hdep; simp only [fillD, fLa, fLb, sTa, sTb]; simp only [d19, d22]
    first | refine wp_pick_and rfl rfl ?_ | go_wp2
    exact cY
  simp only [apN, apC]
  apply draw_val
  · intro g w hb hdep; replace hL := hL.grow hb; have d16 := yv hdep 16; have d23 := yv hdep 23; clear hdep; simp only [fillD, fLa, fLb, sTa, sTb]; simp only [d16, d23]
    first | refine wp_pick_or rfl rfl ?_ | go_wp2
    exact cY
  simp only [apN, apC]
  apply draw_val
  · intro g w hb hdep; replace hL := hL.grow hb; have d24 := yv hdep 24; clear hdep; simp only [fillD, fLa, fLb, sTa, sTb]; simp only [d24]
    go_wp2
    exact cY
  simp only [apN, apC]
  refine' draw_guard (j := 25) rfl rfl rfl (by decide) (by simp) ?_ ?_; rotate_left
  · intro hcs; simp only [Bool.and_eq_true, beqT, beqF] at hcs; intro g w hb hdep; replace hL := hL.grow hb; clear hdep; simp only [fillD, fLa, fLb, sTa, sTb]
    go_wp2
    exact cY
  simp only [apN, apC]
  refine' draw_guard (j := 25) rfl rfl rfl (by decide) (by simp) ?_ ?_; rotate_left
  · intro hcs; simp only [Bool.and_eq_true, beqT, beqF] at hcs; intro g w hb hdep; replace hL := hL.grow hb; have d26 := yv hdep 26; simp only [hcs, beq_self_eq_true, Bool.and_self, Bool.true_and, Bool.and_true, cnd_true] at d26; clear hdep; simp only [fillD, fLa, fLb, sTa, sTb]; simp only [d26]
    go_wp2_with (first | (with_reducible refine lld hL ?_) | (with_reducible refine ldD hL ?_))
    exact cY
  simp only [apN, apC]
  refine' draw_guard (j := 25) rfl rfl rfl (by decide) (by simp) ?_ ?_; rotate_left
  · intro hcs; simp only [Bool.and_eq_true, beqT, beqF] at hcs; intro g w hb hdep; replace hL := hL.grow hb; clear hdep; simp only [fillD, fLa, fLb, sTa, sTb]
    go_wp2
    exact cY
  simp only [apN, apC]
  refine' draw_guard (j := 25) rfl rfl rfl (by decide) (by simp) ?_ ?_; rotate_left
  · intro hcs; simp only [Bool.and_eq_true, beqT, beqF] at hcs; intro g w hb hdep; replace hL := hL.grow hb; have d28 := yv hdep 28; simp only [hcs, beq_self_eq_true, Bool.and_self, Bool.true_and, Bool.and_true, cnd_true] at d28; clear hdep; simp only [fillD, fLa, fLb, sTa, sTb]; simp only [d28]
    go_wp2_with (first | (with_reducible refine lld hL ?_) | (with_reducible refine ldD hL ?_))
    exact cY
  simp only [apN, apC]
  refine' draw_guard (j := 25) rfl rfl rfl (by decide) (by simp) ?_ ?_; rotate_left
  · intro hcs; simp only [Bool.and_eq_true, beqT, beqF] at hcs; intro g w hb hdep; replace hL := hL.grow hb; have d27 := yv hdep 27; simp only [hcs, beq_self_eq_true, Bool.and_self, Bool.true_and, Bool.and_true, cnd_true] at d27; have d29 := yv hdep 29; simp only [hcs, beq_self_eq_true, Bool.and_self, Bool.true_and, Bool.and_true, cnd_true] at d29; clear hdep; simp only [fillD, fLa, fLb, sTa, sTb]; simp only [d27, d29]
    go_wp2_with (go_at_call 41; refine (HS.out _).mono ?_; rintro e w3 ⟨rfl, hb3⟩; dsimp only)
    exact ⟨rfl, _, rfl, (by assumption), rfl⟩
  simp only [apN, apC]
  refine' draw_guard (j := 25) rfl rfl rfl (by decide) (by simp) ?_ ?_; rotate_left
  · intro hcs; simp only [Bool.and_eq_true, beqT, beqF] at hcs; intro g w hb hdep; replace hL := hL.grow hb; have d30 := yv hdep 30; simp only [hcs, beq_self_eq_true, Bool.and_self, Bool.true_and, Bool.and_true, cnd_true] at d30; clear hdep; simp only [fillD, fLa, fLb, sTa, sTb]; simp only [d30]
    go_wp2
    exact cY
  simp only [apN, apC]
  apply draw_val
  · intro g w hb hdep; replace hL := hL.grow hb; have d25 := yv hdep 25; have d31 := yv hdep 31; clear hdep; simp only [fillD, fLa, fLb, sTa, sTb]; simp only [d25, d31]
    first | refine wp_pick_or rfl rfl ?_ | go_wp2
    exact cY
  simp only [apN, apC]
  refine seq_end hL (by kernel_rfl) ?_
  intro g w2 hb hR; simp only [List.length_cons, List.length_nil, Nat.reduceAdd] at hR
  have e0 := yv hR 0
  have e1 := yv hR 1
  have e2 := yv hR 2
  have e3 := yv hR 3
  have e4 := yv hR 4
  have e5 := yv hR 5
  have e6 := yv hR 6
  have e7 := yv hR 7
  have e8 := yv hR 8
  have e9 := yv hR 9
  have e10 := yv hR 10
  have e11 := yv hR 11
  have e12 := yv hR 12
  have e13 := yv hR 13
  have e14 := yv hR 14
  have e15 := yv hR 15
  have e16 := yv hR 16
  have e17 := yv hR 17
  have e18 := yv hR 18
  have e19 := yv hR 19
  have e20 := yv hR 20
  have e21 := yv hR 21
  have e22 := yv hR 22
  have e23 := yv hR 23
  have e24 := yv hR 24
  have e25 := yv hR 25
  have e26 := yv hR 26
  have e27 := yv hR 27
  have e28 := yv hR 28
  have e29 := yv hR 29
  have e30 := yv hR 30
  have e31 := yv hR 31
  have e32 := yv hR 32
  clear hR; simp only [fillD, fLa, fLb, sTa, sTb]
  simp only [e0, e1, e2, e3, e4, e5, e6, e7, e8, e9, e10, e11, e12, e13, e14, e15, e16, e17, e18, e19, e20, e21, e22, e23, e24, e25, e26, e27, e28, e29, e30, e31, e32]
  clear e0 e1 e2 e3 e4 e5 e6 e7 e8 e9 e10 e11 e12 e13 e14 e15 e16 e17 e18 e19 e20 e21 e22 e23 e24 e25 e26 e27 e28 e29 e30 e31 e32
  replace hL := hL.grow hb
  clear hb
  generalize (gl && !hl' || gt && !ht || gf && !hf || !ins) = hd at HF ⊢
  simp only [beq_true, beq_false, Bool.not_and, Bool.not_or, Bool.not_not]
  cases hd with
  | true =>
    go_wp2_with (first | (with_reducible refine lld hL ?_) | ((with_reducible first | refine lbx hL ?_ | refine lal hL ?_ | refine lbs hL ?_); clear hL; intro bl w1 hL) | ((with_reducible refine lst' hL ?_); clear hL; intro w1 hL))
    (try simp only [Exit.inBlock, Exit.then]); refine' ret1 rfl ?_ rfl ?_; (case refine'_2 => exact cRes)
    exact ⟨by rw [HF.out]; rfl, hL.below⟩
  | false =>
    go_wp2_with (first | (with_reducible refine lld hL ?_) | ((with_reducible first | refine lbx hL ?_ | refine lal hL ?_ | refine lbs hL ?_); clear hL; intro bl w1 hL) | ((with_reducible refine lst' hL ?_); clear hL; intro w1 hL))
    go_loopw [5] (fun c wr => ∃ k : Nat, k ≤ l.length ∧ c = .int .i64 k ∧ (∀ j, j < k → (!hasI m (l.getD j 0)) = false) ∧ Loc w wr [(b3, 29, [.bool hl', .bool hn, .int .i64 hlo, .int .i64 hhi, .bool ht, .bool hf, .slice hp hk hc]), (b2, 29, [.bool gl, .bool gn, .int .i64 glo, .int .i64 ghi, .bool gt, .bool gf, .slice gp l.length gc])] []) (fun c _ => l.length - (intOf c).toNat)
    case atStart => exact ⟨0, Nat.zero_le _, rfl, fun j hj => absurd hj (by omega), hL⟩
    case round =>
      obtain ⟨k, hk, rfl, hq, hL⟩ := hrel
      have HQ := Lib.hid hq
      clear hq
      by_cases hlt : k < l.length
      · have HP2 := Lib.hid (HP.out (by omega))
        have hr := HC.out k hlt
        generalize hx : l.getD k 0 = x at hr
        have HX := Lib.hid hx
        have HR1 := Lib.hid hr
        clear hx hr
        go_upto_region 6 with (first | (with_reducible refine lld hL ?_) | ((with_reducible first | refine lbx hL ?_ | refine lal hL ?_ | refine lbs hL ?_); clear hL; intro bl w1 hL) | ((with_reducible refine lst' hL ?_); clear hL; intro w1 hL))
        refine draw_begin [46, 47, 48, 49, 50, 51, 52, 53, 54] ?_
        apply draw_val
        · intro g w hb hdep; replace hL := hL.grow hb; clear hdep; simp only [fillD, fLa, fLb, sTa, sTb]
          go_wp2
          exact cY
        simp only [apN, apC]
        apply draw_val
        · intro g w hb hdep; replace hL := hL.grow hb; have d0 := yv hdep 0; clear hdep; simp only [fillD, fLa, fLb, sTa, sTb]; simp only [d0]
          go_wp2_with (first | (with_reducible refine lld hL ?_) | (with_reducible refine ldD hL ?_))
          exact cY
        simp only [apN, apC]
        apply draw_val
        · intro g w hb hdep; replace hL := hL.grow hb; clear hdep; simp only [fillD, fLa, fLb, sTa, sTb]
          go_wp2
          exact cY
        simp only [apN, apC]
        apply draw_val
        · intro g w hb hdep; replace hL := hL.grow hb; have d2 := yv hdep 2; clear hdep; simp only [fillD, fLa, fLb, sTa, sTb]; simp only [d2]
          go_wp2_with (first | (with_reducible refine lld hL ?_) | (with_reducible refine ldD hL ?_))
          exact cY
        simp only [apN, apC]
        apply draw_val
        · intro g w hb hdep; replace hL := hL.grow hb; clear hdep; simp only [fillD, fLa, fLb, sTa, sTb]
          go_wp2
          exact cY
        simp only [apN, apC]
        apply draw_val
        · intro g w hb hdep; replace hL := hL.grow hb; have d3 := yv hdep 3; have d4 := yv hdep 4; clear hdep; simp only [fillD, fLa, fLb, sTa, sTb]; simp only [d3, d4]
          (simp only [HP2.out]; go_wp2)
          exact cY
        simp only [apN, apC]
        apply draw_val
        · intro g w hb hdep; replace hL := hL.grow hb; have d5 := yv hdep 5; clear hdep; simp only [fillD, fLa, fLb, sTa, sTb]; simp only [d5]
          refine loc_loadB HR1.out hL rfl rfl ?_
          exact cY
        simp only [apN, apC]
        apply draw_val
        · intro g w hb hdep; replace hL := hL.grow hb; have d1 := yv hdep 1; have d6 := yv hdep 6; clear hdep; simp only [fillD, fLa, fLb, sTa, sTb]; simp only [d1, d6]
          go_wp2_with (go_at_call 27; refine (HI.out _ _ hL.below).mono ?_; rintro e w3 ⟨rfl, hb3⟩; dsimp only)
          exact ⟨rfl, _, rfl, hb3, rfl⟩
        simp only [apN, apC]
        apply draw_val
        · intro g w hb hdep; replace hL := hL.grow hb; have d7 := yv hdep 7; clear hdep; simp only [fillD, fLa, fLb, sTa, sTb]; simp only [d7]
          go_wp2
          exact cY
        simp only [apN, apC]
        refine draw_end hL (by kernel_rfl) (by kernel_rfl) ?_
        intro g w2 hb hR; simp only [List.length_cons, List.length_nil, Nat.reduceAdd] at hR
        have e0 := yv hR 0
        have e1 := yv hR 1
        have e2 := yv hR 2
        have e3 := yv hR 3
        have e4 := yv hR 4
        have e5 := yv hR 5
        have e6 := yv hR 6
        have e7 := yv hR 7
        have e8 := yv hR 8
        clear hR; simp only [fillD, fLa, fLb, sTa, sTb]
        simp only [e0, e1, e2, e3, e4, e5, e6, e7, e8]
        clear e0 e1 e2 e3 e4 e5 e6 e7 e8
        replace hL := hL.grow hb
        clear hb
        cases hd : hasI m x with
        | false =>
          have HAN := Lib.hid (anyN_yes (q := fun k => !hasI m (l.getD k 0)) hlt (by show (!hasI m (l.getD k 0)) = true; rw [HX.out, hd]; rfl))
          clear hd
          go_wp2_with (first | (with_reducible refine lld hL ?_) | ((with_reducible first | refine lbx hL ?_ | refine lal hL ?_ | refine lbs hL ?_); clear hL; intro bl w1 hL) | ((with_reducible refine lst' hL ?_); clear hL; intro w1 hL))
          (try simp only [Exit.inBlock, Exit.then]); refine' ret1 rfl ?_ rfl ?_; (case refine'_2 => exact cRes)
          exact ⟨by rw [HF.out, show lostI l m = true from HAN.out]; rfl, hL.below⟩
        | true =>
          have HD := Lib.hid hd
          clear hd
          simp only [Bool.not_true]
          go_wp2_with (first | (with_reducible refine lld hL ?_) | ((with_reducible first | refine lbx hL ?_ | refine lal hL ?_ | refine lbs hL ?_); clear hL; intro bl w1 hL) | ((with_reducible refine lst' hL ?_); clear hL; intro w1 hL))
          go_roundw
          case rel =>
            refine ⟨k + 1, by omega, by go_num, fun j hj => ?_, hL⟩
            rcases Nat.lt_or_ge j k with h | h
            · exact HQ.out j h
            · obtain rfl : j = k := by omega
              rw [HX.out, HD.out]; rfl
          case measure => simp [intOf]; omega
      · obtain rfl : k = l.length := by omega
        have HAN := Lib.hid (show lostI l m = false from anyN_no HQ.out)
        clear HQ
        go_wp2_with (first | (with_reducible refine lld hL ?_) | ((with_reducible first | refine lbx hL ?_ | refine lal hL ?_ | refine lbs hL ?_); clear hL; intro bl w1 hL) | ((with_reducible refine lst' hL ?_); clear hL; intro w1 hL))
        (try simp only [Exit.inBlock, Exit.then]); refine' ret1 rfl ?_ rfl ?_; (case refine'_2 => exact cRes)
        exact ⟨by rw [HF.out, HAN.out]; rfl, hL.below⟩
end Go.Proofs.YteimpfplgdhclaaGreat
