/- The walk over the reference's JoinGuess. Conditions: the sites lie in memory that was there. -/
import Derived.Test.YteimpfplgdhclaaGreatGuessC
import Derived.Test.YteimpfplgdhclaaGreatSitesP
import Derived.Test.YteimpfplgdhclaaGreatOwnI
import Derived.Test.YteimpfplgdhclaaGreatRefSpanB
set_option linter.unusedSimpArgs false
set_option linter.unusedVariables false
namespace Go.Proofs.YteimpfplgdhclaaGreat
open Go.RowKit

def unionTo (l m : List Int) (k : Nat) : List Int := ((List.range k).map fun k : Nat => (k : Int)).filter fun s => hasI l s || hasI m s
theorem unionTo_next (l m : List Int) (k : Nat) : unionTo l m (k + 1) = unionTo l m k ++ (bif hasI l (k : Int) || hasI m (k : Int) then [(k : Int)] else []) := by
  unfold unionTo
  rw [List.range_succ, List.map_append, List.filter_append]
  cases h : hasI l (k : Int) || hasI m (k : Int) <;> simp [h]
theorem unionTo_le (l m : List Int) (k : Nat) : (unionTo l m k).length ≤ k := by
  unfold unionTo
  exact Nat.le_trans (List.length_filter_le _ _) (by simp)
theorem unionTo_60 (l m : List Int) : unionTo l m 60 = unionS l m := rfl
theorem unionTo_0 (l m : List Int) : unionTo l m 0 = [] := rfl

set_option maxRecDepth 100000 in
set_option maxHeartbeats 4000000 in
theorem rJoinGuess_any (wd : Bool) (f : Span → Span → Span) (hf : ∀ (s t : Span) (w : World), Calls Tryz.prog 40 #[s.v, t.v, .bool wd] w fun e w' => e = .returned (f s t).v ∧ Below w.heap.size w w')
    (g h : Gu) (l m : List Int) (w : World) (hl : IntsAt w g.s l) (hm : IntsAt w h.s m) :
    Calls Tryz.prog 15 #[g.v, h.v, .bool wd] w fun e w' => ∃ r : Sl, e = .returned (Gu.v ⟨g.null || h.null, f g.span h.span, g.tr || h.tr, g.fa || h.fa, r⟩) ∧ OwnI w.heap.size w' r (unionS l m) ∧ Below w.heap.size w w' := by
  have HA := Lib.hid (fun (x : Int) w' (hb : Below w.heap.size w w') => rHas_any g.s l x w' (hl.grow hb))
  have HB := Lib.hid (fun (x : Int) w' (hb : Below w.heap.size w w') => rHas_any h.s m x w' (hm.grow hb))
  have HK := Lib.hid (fun w' => hf g.span h.span w')
  clear hl hm hf
  obtain ⟨gl, ⟨gn, glo, ghi⟩, gt, gf, ⟨gp, gk, gc⟩⟩ := g
  obtain ⟨hl', ⟨hn, hlo, hhi⟩, ht, hf, ⟨hp, hk, hc⟩⟩ := h
  dsimp only at HA HB HK
  generalize hfs : f ⟨gn, glo, ghi⟩ ⟨hn, hlo, hhi⟩ = fs at HK ⊢
  obtain ⟨fn, flo, fhi⟩ := fs
  clear hfs
  have HN := Lib.hid (unionTo_next l m)
  have HLE := Lib.hid (unionTo_le l m)
  have H0 := unionTo_0 l m
  rw [← unionTo_60]
  generalize unionTo l m = U at HN HLE H0 ⊢
  have H0' := Lib.hid H0
  clear H0
  have hL := Loc.start w
  go_enter Tryz.func15, Tryz.ntmps15
  go_step
  go_step
  go_step
  ((with_reducible refine lbx hL ?_); clear hL; intro b3 w1 hL)
  ((with_reducible refine lbx hL ?_); clear hL; intro b4 w1 hL)
  ((with_reducible refine lal hL ?_); clear hL; intro b6 w1 hL)
  go_upto_region 1 with (first | (with_reducible refine lld hL ?_) | ((with_reducible first | refine lbx hL ?_ | refine lal hL ?_ | refine lbs hL ?_); clear hL; intro bl w1 hL) | ((with_reducible refine lst' hL ?_); clear hL; intro w1 hL))
  simp only [Act.put, List.setIfInBounds_toArray, List.set_cons_zero, List.set_cons_succ]
  refine draw_begin [9, 10, 11, 12, 13, 14, 15, 16, 17, 18, 19, 20, 21, 22, 23, 24, 25, 26, 27, 28, 29, 30, 31, 32, 33, 7] ?_
  apply draw_val
  · intro g w hb hdep; replace hL := hL.grow hb; clear hdep; simp only [fillD, fLa, fLb, sTa, sTb]
    go_wp2
    exact cY
  simp only [apN, apC]
  apply draw_val
  · intro g w hb hdep; replace hL := hL.grow hb; have d0 := yv hdep 0; clear hdep; simp only [fillD, fLa, fLb, sTa, sTb]; simp only [d0]
    go_wp2_with (first | (with_reducible refine lld hL ?_) | (with_reducible refine ldD hL ?_))
    exact cY
  simp only [apN, apC]
  apply draw_val
  · intro g w hb hdep; replace hL := hL.grow hb; have d1 := yv hdep 1; clear hdep; simp only [fillD, fLa, fLb, sTa, sTb]; simp only [d1]
    go_wp2
    exact cY
  simp only [apN, apC]
  refine' draw_guard (j := 2) rfl rfl rfl (by decide) (by simp) ?_ ?_; rotate_left
  · intro hcs; simp only [Bool.and_eq_true, beqT, beqF] at hcs; intro g w hb hdep; replace hL := hL.grow hb; clear hdep; simp only [fillD, fLa, fLb, sTa, sTb]
    go_wp2
    exact cY
  simp only [apN, apC]
  refine' draw_guard (j := 2) rfl rfl rfl (by decide) (by simp) ?_ ?_; rotate_left
  · intro hcs; simp only [Bool.and_eq_true, beqT, beqF] at hcs; intro g w hb hdep; replace hL := hL.grow hb; have d3 := yv hdep 3; simp only [hcs, beq_self_eq_true, Bool.and_self, Bool.true_and, Bool.and_true, cnd_true] at d3; clear hdep; simp only [fillD, fLa, fLb, sTa, sTb]; simp only [d3]
    go_wp2_with (first | (with_reducible refine lld hL ?_) | (with_reducible refine ldD hL ?_))
    exact cY
  simp only [apN, apC]
  apply draw_val
  · intro g w hb hdep; replace hL := hL.grow hb; have d2 := yv hdep 2; have d4 := yv hdep 4; clear hdep; simp only [fillD, fLa, fLb, sTa, sTb]; simp only [d2, d4]
    first | refine wp_pick_or rfl rfl ?_ | go_wp2
    exact cY
  simp only [apN, apC]
  apply draw_val
  · intro g w hb hdep; replace hL := hL.grow hb; clear hdep; simp only [fillD, fLa, fLb, sTa, sTb]
    go_wp2
    exact cY
  simp only [apN, apC]
  apply draw_val
  · intro g w hb hdep; replace hL := hL.grow hb; have d6 := yv hdep 6; clear hdep; simp only [fillD, fLa, fLb, sTa, sTb]; simp only [d6]
    go_wp2_with (first | (with_reducible refine lld hL ?_) | (with_reducible refine ldD hL ?_))
    exact cY
  simp only [apN, apC]
  apply draw_val
  · intro g w hb hdep; replace hL := hL.grow hb; clear hdep; simp only [fillD, fLa, fLb, sTa, sTb]
    go_wp2
    exact cY
  simp only [apN, apC]
  apply draw_val
  · intro g w hb hdep; replace hL := hL.grow hb; have d8 := yv hdep 8; clear hdep; simp only [fillD, fLa, fLb, sTa, sTb]; simp only [d8]
    go_wp2_with (first | (with_reducible refine lld hL ?_) | (with_reducible refine ldD hL ?_))
    exact cY
  simp only [apN, apC]
  apply draw_val
  · intro g w hb hdep; replace hL := hL.grow hb; clear hdep; simp only [fillD, fLa, fLb, sTa, sTb]
    go_wp2
    exact cY
  simp only [apN, apC]
  apply draw_val
  · intro g w hb hdep; replace hL := hL.grow hb; have d7 := yv hdep 7; have d9 := yv hdep 9; have d10 := yv hdep 10; clear hdep; simp only [fillD, fLa, fLb, sTa, sTb]; simp only [d7, d9, d10]
    go_wp2_with (go_at_call 40; ((with_reducible refine (HK.out _).mono ?_); rintro e w3 ⟨rfl, hb3⟩; dsimp only))
    exact ⟨rfl, _, rfl, hb3, rfl⟩
  simp only [apN, apC]
  apply draw_val
  · intro g w hb hdep; replace hL := hL.grow hb; clear hdep; simp only [fillD, fLa, fLb, sTa, sTb]
    go_wp2
    exact cY
  simp only [apN, apC]
  apply draw_val
  · intro g w hb hdep; replace hL := hL.grow hb; have d12 := yv hdep 12; clear hdep; simp only [fillD, fLa, fLb, sTa, sTb]; simp only [d12]
    go_wp2_with (first | (with_reducible refine lld hL ?_) | (with_reducible refine ldD hL ?_))
    exact cY
  simp only [apN, apC]
  apply draw_val
  · intro g w hb hdep; replace hL := hL.grow hb; have d13 := yv hdep 13; clear hdep; simp only [fillD, fLa, fLb, sTa, sTb]; simp only [d13]
    go_wp2
    exact cY
  simp only [apN, apC]
  refine' draw_guard (j := 14) rfl rfl rfl (by decide) (by simp) ?_ ?_; rotate_left
  · intro hcs; simp only [Bool.and_eq_true, beqT, beqF] at hcs; intro g w hb hdep; replace hL := hL.grow hb; clear hdep; simp only [fillD, fLa, fLb, sTa, sTb]
    go_wp2
    exact cY
  simp only [apN, apC]
  refine' draw_guard (j := 14) rfl rfl rfl (by decide) (by simp) ?_ ?_; rotate_left
  · intro hcs; simp only [Bool.and_eq_true, beqT, beqF] at hcs; intro g w hb hdep; replace hL := hL.grow hb; have d15 := yv hdep 15; simp only [hcs, beq_self_eq_true, Bool.and_self, Bool.true_and, Bool.and_true, cnd_true] at d15; clear hdep; simp only [fillD, fLa, fLb, sTa, sTb]; simp only [d15]
    go_wp2_with (first | (with_reducible refine lld hL ?_) | (with_reducible refine ldD hL ?_))
    exact cY
  simp only [apN, apC]
  apply draw_val
  · intro g w hb hdep; replace hL := hL.grow hb; have d14 := yv hdep 14; have d16 := yv hdep 16; clear hdep; simp only [fillD, fLa, fLb, sTa, sTb]; simp only [d14, d16]
    first | refine wp_pick_or rfl rfl ?_ | go_wp2
    exact cY
  simp only [apN, apC]
  apply draw_val
  · intro g w hb hdep; replace hL := hL.grow hb; clear hdep; simp only [fillD, fLa, fLb, sTa, sTb]
    go_wp2
    exact cY
  simp only [apN, apC]
  apply draw_val
  · intro g w hb hdep; replace hL := hL.grow hb; have d18 := yv hdep 18; clear hdep; simp only [fillD, fLa, fLb, sTa, sTb]; simp only [d18]
    go_wp2_with (first | (with_reducible refine lld hL ?_) | (with_reducible refine ldD hL ?_))
    exact cY
  simp only [apN, apC]
  apply draw_val
  · intro g w hb hdep; replace hL := hL.grow hb; have d19 := yv hdep 19; clear hdep; simp only [fillD, fLa, fLb, sTa, sTb]; simp only [d19]
    go_wp2
    exact cY
  simp only [apN, apC]
  refine' draw_guard (j := 20) rfl rfl rfl (by decide) (by simp) ?_ ?_; rotate_left
  · intro hcs; simp only [Bool.and_eq_true, beqT, beqF] at hcs; intro g w hb hdep; replace hL := hL.grow hb; clear hdep; simp only [fillD, fLa, fLb, sTa, sTb]
    go_wp2
    exact cY
  simp only [apN, apC]
  refine' draw_guard (j := 20) rfl rfl rfl (by decide) (by simp) ?_ ?_; rotate_left
  · intro hcs; simp only [Bool.and_eq_true, beqT, beqF] at hcs; intro g w hb hdep; replace hL := hL.grow hb; have d21 := yv hdep 21; simp only [hcs, beq_self_eq_true, Bool.and_self, Bool.true_and, Bool.and_true, cnd_true] at d21; clear hdep; simp only [fillD, fLa, fLb, sTa, sTb]; simp only [d21]
    go_wp2_with (first | (with_reducible refine lld hL ?_) | (with_reducible refine ldD hL ?_))
    exact cY
  simp only [apN, apC]
  apply draw_val
  · intro g w hb hdep; replace hL := hL.grow hb; have d20 := yv hdep 20; have d22 := yv hdep 22; clear hdep; simp only [fillD, fLa, fLb, sTa, sTb]; simp only [d20, d22]
    first | refine wp_pick_or rfl rfl ?_ | go_wp2
    exact cY
  simp only [apN, apC]
  apply draw_val
  · intro g w hb hdep; replace hL := hL.grow hb; have d5 := yv hdep 5; have d11 := yv hdep 11; have d17 := yv hdep 17; have d23 := yv hdep 23; clear hdep; simp only [fillD, fLa, fLb, sTa, sTb]; simp only [d5, d11, d17, d23]
    go_wp2
    exact cY
  simp only [apN, apC]
  apply draw_ptr
  · intro g w hb hdep; replace hL := hL.grow hb; clear hdep; simp only [fillD, fLa, fLb, sTa, sTb]
    go_wp2
    exact ⟨rfl, _, rfl, (Below.refl _ _).alloc (Nat.le_refl _) _, _, hb.size, rfl, heap_new _ _⟩
  simp only [apN, apC]
  refine draw_end hL (by kernel_rfl) (by kernel_rfl) ?_
  intro g w2 hb hR; simp only [List.length_cons, List.length_nil, Nat.reduceAdd] at hR
  have e0 := yv hR 0
  have e1 := yv hR 1
  have e2 := yv hR 2
  have e3 := yv hR 3
  have e4 := yv hR 4
  have e5 := yv hR 5
  have e6 := yv hR 6
  have e7 := yv hR 7
  have e8 := yv hR 8
  have e9 := yv hR 9
  have e10 := yv hR 10
  have e11 := yv hR 11
  have e12 := yv hR 12
  have e13 := yv hR 13
  have e14 := yv hR 14
  have e15 := yv hR 15
  have e16 := yv hR 16
  have e17 := yv hR 17
  have e18 := yv hR 18
  have e19 := yv hR 19
  have e20 := yv hR 20
  have e21 := yv hR 21
  have e22 := yv hR 22
  have e23 := yv hR 23
  have e24 := yv hR 24
  obtain ⟨b25, p25, e25, c25⟩ := rat_ptr (allR_get hR (j := 25) (by decide)) rfl rfl
  clear hR; simp only [fillD, fLa, fLb, sTa, sTb]
  simp only [e0, e1, e2, e3, e4, e5, e6, e7, e8, e9, e10, e11, e12, e13, e14, e15, e16, e17, e18, e19, e20, e21, e22, e23, e24, e25]
  clear e0 e1 e2 e3 e4 e5 e6 e7 e8 e9 e10 e11 e12 e13 e14 e15 e16 e17 e18 e19 e20 e21 e22 e23 e24 e25
  replace hL := hL.gain hb p25 c25
  clear p25 c25
  clear hb
  simp only [beq_true, beq_false, Bool.not_and, Bool.not_or, Bool.not_not]
  generalize h_nl : (gl || hl') = nl
  have HNL := Lib.hid h_nl
  clear h_nl
  generalize h_tr : (gt || ht) = tr
  have HTR := Lib.hid h_tr
  clear h_tr
  generalize h_fa : (gf || hf) = fa
  have HFA := Lib.hid h_fa
  clear h_fa
  go_wp2_with (first | (with_reducible refine lld hL ?_) | ((with_reducible first | refine lbx hL ?_ | refine lal hL ?_ | refine lbs hL ?_); clear hL; intro bl w1 hL) | ((with_reducible refine lst' hL ?_); clear hL; intro w1 hL))
  go_loopw [8] (fun c wr => ∃ k : Nat, k ≤ 60 ∧ c = .int .i64 k ∧ ∃ (p : Option Addr) (n cap : Nat) (R : List LBlk), RowS 3 1 p n cap ((U k).map (Value.int .i64)) R ∧ Loc w wr ([(b25, 29, [.bool nl, .bool fn, .int .i64 flo, .int .i64 fhi, .bool tr, .bool fa, .slice p n cap]), (b6, 29, [.bool false, .bool false, .int .i64 0, .int .i64 0, .bool false, .bool false, .slice none 0 0]), (b4, 29, [.bool hl', .bool hn, .int .i64 hlo, .int .i64 hhi, .bool ht, .bool hf, .slice hp hk hc]), (b3, 29, [.bool gl, .bool gn, .int .i64 glo, .int .i64 ghi, .bool gt, .bool gf, .slice gp gk gc])] ++ R) []) (fun c _ => 60 - (intOf c).toNat)
  case atStart => exact ⟨0, Nat.zero_le _, rfl, none, 0, 0, [], by rw [H0'.out]; exact RowS.nil, hL⟩
  case round =>
    obtain ⟨k, hk, rfl, p, n, cap, R, hR, hL⟩ := hrel
    simp only [List.cons_append, List.nil_append] at hL
    rcases (show k = 60 ∨ k < 60 by omega) with rfl | hlt
    · go_wp2_with (first | (with_reducible refine lld hL ?_) | ((with_reducible first | refine lbx hL ?_ | refine lal hL ?_ | refine lbs hL ?_); clear hL; intro bl w1 hL) | ((with_reducible refine lst' hL ?_); clear hL; intro w1 hL))
      (try simp only [Exit.inBlock, Exit.then]); refine' ret1 rfl ?_ rfl ?_; (case refine'_2 => exact cRes)
      exact ⟨⟨p, n, cap⟩, by rw [HNL.out, HTR.out, HFA.out], ⟨R, hR, hL.ownOf (List.sublist_append_right [_, _, _, _] _)⟩, hL.below⟩
    · have HR := Lib.hid hR
      have hu := HN.out k
      have HLK := Lib.hid (show n ≤ 60 by
        have h1 := HLE.out k
        have h2 := HR.out.1
        simp at h2
        omega)
      clear hR
      go_upto_region 5 with (first | (with_reducible refine lld hL ?_) | ((with_reducible first | refine lbx hL ?_ | refine lal hL ?_ | refine lbs hL ?_); clear hL; intro bl w1 hL) | ((with_reducible refine lst' hL ?_); clear hL; intro w1 hL))
      generalize hA : hasI l (k : Int) = x at hu
      generalize hB : hasI m (k : Int) = y at hu
      have ha := HA.out (k : Int)
      have hb := HB.out (k : Int)
      rw [hA] at ha
      rw [hB] at hb
      have HA1 := Lib.hid ha
      have HB1 := Lib.hid hb
      have HU := Lib.hid hu
      clear hA hB ha hb hu
      refine seq_begin [38, 39, 40, 41, 42, 43, 44, 45, 46, 47] ?_
      apply draw_val
      · intro g w hb hdep; replace hL := hL.grow hb; clear hdep; simp only [fillD, fLa, fLb, sTa, sTb]
        go_wp2
        exact cY
      simp only [apN, apC]
      apply draw_val
      · intro g w hb hdep; replace hL := hL.grow hb; have d0 := yv hdep 0; clear hdep; simp only [fillD, fLa, fLb, sTa, sTb]; simp only [d0]
        go_wp2_with (first | (with_reducible refine lld hL ?_) | (with_reducible refine ldD hL ?_))
        exact cY
      simp only [apN, apC]
      apply draw_val
      · intro g w hb hdep; replace hL := hL.grow hb; clear hdep; simp only [fillD, fLa, fLb, sTa, sTb]
        go_wp2
        exact cY
      simp only [apN, apC]
      apply draw_val
      · intro g w hb hdep; replace hL := hL.grow hb; have d1 := yv hdep 1; have d2 := yv hdep 2; clear hdep; simp only [fillD, fLa, fLb, sTa, sTb]; simp only [d1, d2]
        go_wp2_with (go_at_call 27; (with_reducible refine (HA1.out _ hL.below).mono ?_); rintro e w3 ⟨rfl, hb3⟩; dsimp only)
        exact ⟨rfl, _, rfl, hb3, rfl⟩
      simp only [apN, apC]
      apply draw_val
      · intro g w hb hdep; replace hL := hL.grow hb; have d3 := yv hdep 3; clear hdep; simp only [fillD, fLa, fLb, sTa, sTb]; simp only [d3]
        go_wp2
        exact cY
      simp only [apN, apC]
      refine' draw_guard (j := 4) rfl rfl rfl (by decide) (by simp) ?_ ?_; rotate_left
      · intro hcs; simp only [Bool.and_eq_true, beqT, beqF] at hcs; intro g w hb hdep; replace hL := hL.grow hb; clear hdep; simp only [fillD, fLa, fLb, sTa, sTb]
        go_wp2
        exact cY
      simp only [apN, apC]
      refine' draw_guard (j := 4) rfl rfl rfl (by decide) (by simp) ?_ ?_; rotate_left
      · intro hcs; simp only [Bool.and_eq_true, beqT, beqF] at hcs; intro g w hb hdep; replace hL := hL.grow hb; have d5 := yv hdep 5; simp only [hcs, beq_self_eq_true, Bool.and_self, Bool.true_and, Bool.and_true, cnd_true] at d5; clear hdep; simp only [fillD, fLa, fLb, sTa, sTb]; simp only [d5]
        go_wp2_with (first | (with_reducible refine lld hL ?_) | (with_reducible refine ldD hL ?_))
        exact cY
      simp only [apN, apC]
      refine' draw_guard (j := 4) rfl rfl rfl (by decide) (by simp) ?_ ?_; rotate_left
      · intro hcs; simp only [Bool.and_eq_true, beqT, beqF] at hcs; intro g w hb hdep; replace hL := hL.grow hb; clear hdep; simp only [fillD, fLa, fLb, sTa, sTb]
        go_wp2
        exact cY
      simp only [apN, apC]
      refine' draw_guard (j := 4) rfl rfl rfl (by decide) (by simp) ?_ ?_; rotate_left
      · intro hcs; simp only [Bool.and_eq_true, beqT, beqF] at hcs; intro g w hb hdep; replace hL := hL.grow hb; have d6 := yv hdep 6; simp only [hcs, beq_self_eq_true, Bool.and_self, Bool.true_and, Bool.and_true, cnd_true] at d6; have d7 := yv hdep 7; simp only [hcs, beq_self_eq_true, Bool.and_self, Bool.true_and, Bool.and_true, cnd_true] at d7; clear hdep; simp only [fillD, fLa, fLb, sTa, sTb]; simp only [d6, d7]
        go_wp2_with (go_at_call 27; (with_reducible refine (HB1.out _ hL.below).mono ?_); rintro e w3 ⟨rfl, hb3⟩; dsimp only)
        exact ⟨rfl, _, rfl, hb3, rfl⟩
      simp only [apN, apC]
      apply draw_val
      · intro g w hb hdep; replace hL := hL.grow hb; have d4 := yv hdep 4; have d8 := yv hdep 8; clear hdep; simp only [fillD, fLa, fLb, sTa, sTb]; simp only [d4, d8]
        first | refine wp_pick_or rfl rfl ?_ | go_wp2
        exact cY
      simp only [apN, apC]
      refine seq_end hL (by kernel_rfl) ?_
      intro g w2 hb hR; simp only [List.length_cons, List.length_nil, Nat.reduceAdd] at hR
      have e0 := yv hR 0
      have e1 := yv hR 1
      have e2 := yv hR 2
      have e3 := yv hR 3
      have e4 := yv hR 4
      have e5 := yv hR 5
      have e6 := yv hR 6
      have e7 := yv hR 7
      have e8 := yv hR 8
      have e9 := yv hR 9
      clear hR; simp only [fillD, fLa, fLb, sTa, sTb]
      simp only [e0, e1, e2, e3, e4, e5, e6, e7, e8, e9]
      clear e0 e1 e2 e3 e4 e5 e6 e7 e8 e9
      replace hL := hL.grow hb
      clear hb
      simp only [beq_true, beq_false, Bool.not_and, Bool.not_or, Bool.not_not]
      generalize (x || y) = z at HU ⊢
      cases z with
      | true =>
        go_wp2_with (first | (at_builtin; refine loc_appendS (K := _ :: _ :: _ :: _ :: _ :: []) (R := R) (news := [.int .i64 (k : Int)]) HR.out hL rfl rfl rfl sInts bInt (by decide) rfl ?_ rfl ?_ ?_ ?_ ?_; (case refine_1 => exact fun _ => ⟨⟨bl, 0, none⟩, rfl, fun j u hj => by rw [add_addr, Nat.zero_add]; exact (hL.cell (b := bl) (by repeat (first | exact InL.head | apply InL.tail)) j).trans hj⟩); (case refine_2 => simp [Value.oneCell']); (case refine_3 => (have := HLK.out; show n + 1 ≤ 9223372036854775807; omega)); (case refine_4 => (have := HLK.out; omega)); clear hL; intro p4 cap4 R4 w4 hR4 hL; simp only [List.cons_append, List.nil_append] at hL; have HR4 := Lib.hid hR4; clear hR4) | (with_reducible refine lld hL ?_) | ((with_reducible first | refine lbx hL ?_ | refine lal hL ?_ | refine lbs hL ?_); clear hL; intro bl w1 hL) | ((with_reducible refine lst' hL ?_); clear hL; intro w1 hL))
        go_roundw
        case rel => exact ⟨k + 1, by omega, by go_num, p4, n + 1, cap4, R4, by rw [HU.out, List.map_append]; exact HR4.out, hL.drop (List.sublist_cons_self _ _) (fun _ h => h)⟩
        case measure => simp [intOf]; omega
      | false =>
        have HX := Lib.hid (HU.out.trans (List.append_nil _))
        clear HU
        go_wp2_with (first | (with_reducible refine lld hL ?_) | ((with_reducible first | refine lbx hL ?_ | refine lal hL ?_ | refine lbs hL ?_); clear hL; intro bl w1 hL) | ((with_reducible refine lst' hL ?_); clear hL; intro w1 hL))
        go_roundw
        case rel => exact ⟨k + 1, by omega, by go_num, p, n, cap, R, by rw [HX.out]; exact HR.out, hL⟩
        case measure => simp [intOf]; omega
end Go.Proofs.YteimpfplgdhclaaGreat
