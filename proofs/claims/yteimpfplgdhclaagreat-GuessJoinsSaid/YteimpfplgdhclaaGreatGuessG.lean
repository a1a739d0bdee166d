/- The walks over guess.one and the reference's Single: is a guess one value? Conditions: few sites. -/
import Derived.Test.YteimpfplgdhclaaGreatGuessA
set_option linter.unusedSimpArgs false
set_option linter.unusedVariables false
namespace Go.Proofs.YteimpfplgdhclaaGreat
open Go.RowKit

def cntB (b : Bool) : Int := bif b then 1 else 0
def cnt4 (a b c d : Bool) : Int := cntB a + cntB b + cntB c + cntB d
def oneG (g : Gu) : Bool := ((g.s.n : Int) * 2 + cnt4 g.null g.tr g.fa (!g.span.none)) == 1 && g.span.lo == g.span.hi
def cntN (f : Nat → Bool) : Nat → Int
  | 0 => 0
  | k + 1 => cntN f k + cntB (f k)
def pick4 (a b c d : Bool) (k : Nat) : Bool := if k = 0 then a else if k = 1 then b else if k = 2 then c else d
theorem cntN_le (f : Nat → Bool) : ∀ k : Nat, 0 ≤ cntN f k ∧ cntN f k ≤ k
  | 0 => ⟨Int.le_refl _, Int.le_refl _⟩
  | k + 1 => by
    have := cntN_le f k
    rw [cntN]
    cases f k <;> simp only [cntB, cond_true, cond_false] <;> omega
theorem cntN_4 (a b c d : Bool) : cntN (pick4 a b c d) 4 = cnt4 a b c d := by
  simp [cntN, pick4, cnt4]

set_option maxRecDepth 100000 in
set_option maxHeartbeats 1600000 in
theorem gone_any (g : Gu) (hn : g.s.n ≤ 1000000) (w : World) : Calls Tryz.prog 73 #[g.v] w fun e w' => e = .returned (.bool (oneG g)) ∧ Below w.heap.size w w' := by
  obtain ⟨nl, ⟨sn, slo, shi⟩, tr, fa, ⟨sp, sc, scap⟩⟩ := g
  dsimp only at hn
  have HF := Lib.hid (show oneG ⟨nl, ⟨sn, slo, shi⟩, tr, fa, ⟨sp, sc, scap⟩⟩ = (((sc : Int) * 2 + cntN (pick4 nl tr fa (!sn)) 4) == 1 && slo == shi) by rw [cntN_4]; rfl)
  have hL := Loc.start w
  go_enter Tryz.func73, Tryz.ntmps73
  go_step
  go_step
  go_step
  ((with_reducible refine lbx hL ?_); clear hL; intro b2 w1 hL)
  go_wp2_with (first | (with_reducible refine lld hL ?_) | ((with_reducible first | refine lbx hL ?_ | refine lal hL ?_ | refine lbs hL ?_); clear hL; intro bl w1 hL) | ((with_reducible refine lst' hL ?_); clear hL; intro w1 hL))
  obtain ⟨b10, hb10⟩ : ∃ x, x = bl := ⟨_, rfl⟩
  subst hb10
  have HB := Lib.hid (fun (k : Nat) (h : k < 4) => show ([.bool nl, .bool tr, .bool fa, .bool (!sn)] : List Value)[k]? = some (.bool (pick4 nl tr fa (!sn) k)) by
    rcases k with _ | _ | _ | _ | k <;> first | rfl | omega)
  go_loopw [3, 22] (fun c3 c22 wr => ∃ k : Nat, k ≤ 4 ∧ c3 = .int .i64 ((sc : Int) * 2 + cntN (pick4 nl tr fa (!sn)) k) ∧ c22 = .int .i64 k ∧ Loc w wr [(b10, 4, [.bool nl, .bool tr, .bool fa, .bool (!sn)]), (b2, 29, [.bool nl, .bool sn, .int .i64 slo, .int .i64 shi, .bool tr, .bool fa, .slice sp sc scap])] []) (fun _ c _ => 4 - (intOf c).toNat)
  case atStart => exact ⟨0, Nat.zero_le _, by simp [cntN], rfl, hL⟩
  case round =>
    obtain ⟨k, hk, rfl, rfl, hL⟩ := hrel
    rcases (show k = 4 ∨ k < 4 by omega) with rfl | hlt
    · generalize cntN (pick4 nl tr fa (!sn)) 4 = c at HF ⊢
      by_cases h1 : (sc : Int) * 2 + c = 1
      · have HX := Lib.hid h1
        simp only [h1]
        clear h1
        by_cases h2 : slo = shi
        · subst h2
          go_wp2_with (first | (with_reducible refine lld hL ?_) | ((with_reducible first | refine lbx hL ?_ | refine lal hL ?_ | refine lbs hL ?_); clear hL; intro bl w1 hL) | ((with_reducible refine lst' hL ?_); clear hL; intro w1 hL))
          (try simp only [Exit.inBlock, Exit.then]); refine' ret1 rfl ?_ rfl ?_; (case refine'_2 => exact cRes)
          exact ⟨by rw [HF.out, HX.out]; simp, hL.below⟩
        · have k2 : (slo == shi) = false := beq_eq_false_iff_ne.2 h2
          have HK := Lib.hid k2
          clear h2
          go_wp2_with (first | (with_reducible refine lld hL ?_) | ((with_reducible first | refine lbx hL ?_ | refine lal hL ?_ | refine lbs hL ?_); clear hL; intro bl w1 hL) | ((with_reducible refine lst' hL ?_); clear hL; intro w1 hL))
          (try simp only [Exit.inBlock, Exit.then]); refine' ret1 rfl ?_ rfl ?_; (case refine'_2 => exact cRes)
          exact ⟨by rw [HF.out, HK.out]; simp, hL.below⟩
      · have k1 : ((sc : Int) * 2 + c == 1) = false := beq_eq_false_iff_ne.2 h1
        have HX := Lib.hid k1
        clear h1
        go_wp2_with (first | (with_reducible refine lld hL ?_) | ((with_reducible first | refine lbx hL ?_ | refine lal hL ?_ | refine lbs hL ?_); clear hL; intro bl w1 hL) | ((with_reducible refine lst' hL ?_); clear hL; intro w1 hL))
        (try simp only [Exit.inBlock, Exit.then]); refine' ret1 rfl ?_ rfl ?_; (case refine'_2 => exact cRes)
        exact ⟨by rw [HF.out, HX.out]; simp, hL.below⟩
    · have hb := HB.out k hlt
      have HC := Lib.hid (cntN_le (pick4 nl tr fa (!sn)) k)
      have hs : cntN (pick4 nl tr fa (!sn)) (k + 1) = cntN (pick4 nl tr fa (!sn)) k + cntB (pick4 nl tr fa (!sn) k) := rfl
      generalize cntN (pick4 nl tr fa (!sn)) k = c at HC hs ⊢
      generalize pick4 nl tr fa (!sn) k = x at hb hs
      have hc := HC.out
      cases x with
      | true =>
        have HS := Lib.hid (hs.trans (show c + cntB true = c + 1 from rfl))
        clear hs
        go_wp2_with (first | (refine loc_load (b := b10) hL rfl rfl (by repeat (first | exact InL.head | apply InL.tail)) (Reads.cell tBool hb) ?_) | (with_reducible refine lld hL ?_) | ((with_reducible first | refine lbx hL ?_ | refine lal hL ?_ | refine lbs hL ?_); clear hL; intro bl w1 hL) | ((with_reducible refine lst' hL ?_); clear hL; intro w1 hL))
        go_roundw
        case rel => exact ⟨k + 1, by omega, by first | (rw [HS.out]; done) | (rw [HS.out]; go_num), by go_num, hL⟩
        case measure => simp [intOf]; omega
      | false =>
        have HS := Lib.hid (hs.trans (show c + cntB false = c from Int.add_zero c))
        clear hs
        go_wp2_with (first | (refine loc_load (b := b10) hL rfl rfl (by repeat (first | exact InL.head | apply InL.tail)) (Reads.cell tBool hb) ?_) | (with_reducible refine lld hL ?_) | ((with_reducible first | refine lbx hL ?_ | refine lal hL ?_ | refine lbs hL ?_); clear hL; intro bl w1 hL) | ((with_reducible refine lst' hL ?_); clear hL; intro w1 hL))
        go_roundw
        case rel => exact ⟨k + 1, by omega, by first | (rw [HS.out]; done) | (rw [HS.out]; go_num), by go_num, hL⟩
        case measure => simp [intOf]; omega

def whichN (f : Nat → Bool) : Nat → Int
  | 0 => -1
  | k + 1 => bif f k then (k : Int) else whichN f k
def singleG (g : Gu) : Int := bif (cnt4 g.null (!g.span.none) g.tr g.fa != 1) || decide (0 < g.s.n) || (g.span.lo != g.span.hi) then -1 else whichN (pick4 g.null (!g.span.none) g.tr g.fa) 4
set_option maxRecDepth 100000 in
set_option maxHeartbeats 1600000 in
theorem rSingle_any (g : Gu) (w : World) : Calls Tryz.prog 29 #[g.v] w fun e w' => e = .returned (.int .i64 (singleG g)) ∧ Below w.heap.size w w' := by
  obtain ⟨nl, ⟨sn, slo, shi⟩, tr, fa, ⟨sp, sc, scap⟩⟩ := g
  have HF := Lib.hid (show singleG ⟨nl, ⟨sn, slo, shi⟩, tr, fa, ⟨sp, sc, scap⟩⟩ = bif (cntN (pick4 nl (!sn) tr fa) 4 != 1) || decide (0 < sc) || (slo != shi) then -1 else whichN (pick4 nl (!sn) tr fa) 4 by rw [cntN_4]; rfl)
  have hL := Loc.start w
  go_enter Tryz.func29, Tryz.ntmps29
  go_step
  go_step
  go_step
  ((with_reducible refine lbx hL ?_); clear hL; intro b2 w1 hL)
  go_wp2_with (first | (with_reducible refine lld hL ?_) | ((with_reducible first | refine lbx hL ?_ | refine lal hL ?_ | refine lbs hL ?_); clear hL; intro bl w1 hL) | ((with_reducible refine lst' hL ?_); clear hL; intro w1 hL))
  obtain ⟨b10, hb10⟩ : ∃ x, x = bl := ⟨_, rfl⟩
  subst hb10
  have HB := Lib.hid (fun (k : Nat) (h : k < 4) => show ([.bool nl, .bool (!sn), .bool tr, .bool fa] : List Value)[k]? = some (.bool (pick4 nl (!sn) tr fa k)) by
    rcases k with _ | _ | _ | _ | k <;> first | rfl | omega)
  go_loopw [3, 4, 6] (fun c3 c4 c6 wr => ∃ k : Nat, k ≤ 4 ∧ c3 = .int .i64 (cntN (pick4 nl (!sn) tr fa) k) ∧ c4 = .int .i64 (whichN (pick4 nl (!sn) tr fa) k) ∧ c6 = .int .i64 k ∧ Loc w wr [(b10, 4, [.bool nl, .bool (!sn), .bool tr, .bool fa]), (b2, 29, [.bool nl, .bool sn, .int .i64 slo, .int .i64 shi, .bool tr, .bool fa, .slice sp sc scap])] []) (fun _ _ c _ => 4 - (intOf c).toNat)
  case atStart => exact ⟨0, Nat.zero_le _, rfl, rfl, rfl, hL⟩
  case round =>
    obtain ⟨k, hk, rfl, rfl, rfl, hL⟩ := hrel
    rcases (show k = 4 ∨ k < 4 by omega) with rfl | hlt
    · generalize cntN (pick4 nl (!sn) tr fa) 4 = c at HF ⊢
      generalize whichN (pick4 nl (!sn) tr fa) 4 = z at HF ⊢
      go_upto_region 9 with (first | (with_reducible refine lld hL ?_) | ((with_reducible first | refine lbx hL ?_ | refine lal hL ?_ | refine lbs hL ?_); clear hL; intro bl w1 hL) | ((with_reducible refine lst' hL ?_); clear hL; intro w1 hL))
      refine seq_begin [29, 30, 31, 32, 33, 34, 35, 36, 37, 38, 39, 40, 41, 42, 43, 44, 45] ?_
      apply draw_val
      · intro g w hb hdep; replace hL := hL.grow hb; clear hdep; simp only [fillD, fLa, fLb, sTa, sTb]
        go_wp2
        exact cY
      simp only [apN, apC]
      apply draw_val
      · intro g w hb hdep; replace hL := hL.grow hb; have d0 := yv hdep 0; clear hdep; simp only [fillD, fLa, fLb, sTa, sTb]; simp only [d0]
        go_wp2
        exact cY
      simp only [apN, apC]
      apply draw_val
      · intro g w hb hdep; replace hL := hL.grow hb; have d1 := yv hdep 1; clear hdep; simp only [fillD, fLa, fLb, sTa, sTb]; simp only [d1]
        go_wp2
        exact cY
      simp only [apN, apC]
      refine' draw_guard (j := 2) rfl rfl rfl (by decide) (by simp) ?_ ?_; rotate_left
      · intro hcs; simp only [Bool.and_eq_true, beqT, beqF] at hcs; intro g w hb hdep; replace hL := hL.grow hb; clear hdep; simp only [fillD, fLa, fLb, sTa, sTb]
        go_wp2
        exact cY
      simp only [apN, apC]
      refine' draw_guard (j := 2) rfl rfl rfl (by decide) (by simp) ?_ ?_; rotate_left
      · intro hcs; simp only [Bool.and_eq_true, beqT, beqF] at hcs; intro g w hb hdep; replace hL := hL.grow hb; have d3 := yv hdep 3; simp only [hcs, beq_self_eq_true, Bool.and_self, Bool.true_and, Bool.and_true, cnd_true] at d3; clear hdep; simp only [fillD, fLa, fLb, sTa, sTb]; simp only [d3]
        go_wp2_with (first | (with_reducible refine lld hL ?_) | (with_reducible refine ldD hL ?_))
        exact cY
      simp only [apN, apC]
      refine' draw_guard (j := 2) rfl rfl rfl (by decide) (by simp) ?_ ?_; rotate_left
      · intro hcs; simp only [Bool.and_eq_true, beqT, beqF] at hcs; intro g w hb hdep; replace hL := hL.grow hb; have d4 := yv hdep 4; simp only [hcs, beq_self_eq_true, Bool.and_self, Bool.true_and, Bool.and_true, cnd_true] at d4; clear hdep; simp only [fillD, fLa, fLb, sTa, sTb]; simp only [d4]
        go_wp2
        exact cY
      simp only [apN, apC]
      refine' draw_guard (j := 2) rfl rfl rfl (by decide) (by simp) ?_ ?_; rotate_left
      · intro hcs; simp only [Bool.and_eq_true, beqT, beqF] at hcs; intro g w hb hdep; replace hL := hL.grow hb; have d5 := yv hdep 5; simp only [hcs, beq_self_eq_true, Bool.and_self, Bool.true_and, Bool.and_true, cnd_true] at d5; clear hdep; simp only [fillD, fLa, fLb, sTa, sTb]; simp only [d5]
        go_wp2
        exact cY
      simp only [apN, apC]
      apply draw_val
      · intro g w hb hdep; replace hL := hL.grow hb; have d2 := yv hdep 2; have d6 := yv hdep 6; clear hdep; simp only [fillD, fLa, fLb, sTa, sTb]; simp only [d2, d6]
        first | refine wp_pick_or rfl rfl ?_ | go_wp2
        exact cY
      simp only [apN, apC]
      apply draw_val
      · intro g w hb hdep; replace hL := hL.grow hb; have d7 := yv hdep 7; clear hdep; simp only [fillD, fLa, fLb, sTa, sTb]; simp only [d7]
        go_wp2
        exact cY
      simp only [apN, apC]
      refine' draw_guard (j := 8) rfl rfl rfl (by decide) (by simp) ?_ ?_; rotate_left
      · intro hcs; simp only [Bool.and_eq_true, beqT, beqF] at hcs; intro g w hb hdep; replace hL := hL.grow hb; clear hdep; simp only [fillD, fLa, fLb, sTa, sTb]
        go_wp2
        exact cY
      simp only [apN, apC]
      refine' draw_guard (j := 8) rfl rfl rfl (by decide) (by simp) ?_ ?_; rotate_left
      · intro hcs; simp only [Bool.and_eq_true, beqT, beqF] at hcs; intro g w hb hdep; replace hL := hL.grow hb; have d9 := yv hdep 9; simp only [hcs, beq_self_eq_true, Bool.and_self, Bool.true_and, Bool.and_true, cnd_true] at d9; clear hdep; simp only [fillD, fLa, fLb, sTa, sTb]; simp only [d9]
        go_wp2
        exact cY
      simp only [apN, apC]
      refine' draw_guard (j := 8) rfl rfl rfl (by decide) (by simp) ?_ ?_; rotate_left
      · intro hcs; simp only [Bool.and_eq_true, beqT, beqF] at hcs; intro g w hb hdep; replace hL := hL.grow hb; have d10 := yv hdep 10; simp only [hcs, beq_self_eq_true, Bool.and_self, Bool.true_and, Bool.and_true, cnd_true] at d10; clear hdep; simp only [fillD, fLa, fLb, sTa, sTb]; simp only [d10]
        go_wp2_with (first | (with_reducible refine lld hL ?_) | (with_reducible refine ldD hL ?_))
        exact cY
      simp only [apN, apC]
      refine' draw_guard (j := 8) rfl rfl rfl (by decide) (by simp) ?_ ?_; rotate_left
      · intro hcs; simp only [Bool.and_eq_true, beqT, beqF] at hcs; intro g w hb hdep; replace hL := hL.grow hb; clear hdep; simp only [fillD, fLa, fLb, sTa, sTb]
        go_wp2
        exact cY
      simp only [apN, apC]
      refine' draw_guard (j := 8) rfl rfl rfl (by decide) (by simp) ?_ ?_; rotate_left
      · intro hcs; simp only [Bool.and_eq_true, beqT, beqF] at hcs; intro g w hb hdep; replace hL := hL.grow hb; have d12 := yv hdep 12; simp only [hcs, beq_self_eq_true, Bool.and_self, Bool.true_and, Bool.and_true, cnd_true] at d12; clear hdep; simp only [fillD, fLa, fLb, sTa, sTb]; simp only [d12]
        go_wp2
        exact cY
      simp only [apN, apC]
      refine' draw_guard (j := 8) rfl rfl rfl (by decide) (by simp) ?_ ?_; rotate_left
      · intro hcs; simp only [Bool.and_eq_true, beqT, beqF] at hcs; intro g w hb hdep; replace hL := hL.grow hb; have d13 := yv hdep 13; simp only [hcs, beq_self_eq_true, Bool.and_self, Bool.true_and, Bool.and_true, cnd_true] at d13; clear hdep; simp only [fillD, fLa, fLb, sTa, sTb]; simp only [d13]
        go_wp2_with (first | (with_reducible refine lld hL ?_) | (with_reducible refine ldD hL ?_))
        exact cY
      simp only [apN, apC]
      refine' draw_guard (j := 8) rfl rfl rfl (by decide) (by simp) ?_ ?_; rotate_left
      · intro hcs; simp only [Bool.and_eq_true, beqT, beqF] at hcs; intro g w hb hdep; replace hL := hL.grow hb; have d11 := yv hdep 11; simp only [hcs, beq_self_eq_true, Bool.and_self, Bool.true_and, Bool.and_true, cnd_true] at d11; have d14 := yv hdep 14; simp only [hcs, beq_self_eq_true, Bool.and_self, Bool.true_and, Bool.and_true, cnd_true] at d14; clear hdep; simp only [fillD, fLa, fLb, sTa, sTb]; simp only [d11, d14]
        go_wp2
        exact cY
      simp only [apN, apC]
      apply draw_val
      · intro g w hb hdep; replace hL := hL.grow hb; have d8 := yv hdep 8; have d15 := yv hdep 15; clear hdep; simp only [fillD, fLa, fLb, sTa, sTb]; simp only [d8, d15]
        first | refine wp_pick_or rfl rfl ?_ | go_wp2
        exact cY
      simp only [apN, apC]
      refine seq_end hL (by kernel_rfl) ?_
      intro g w2 hb hR; simp only [List.length_cons, List.length_nil, Nat.reduceAdd] at hR
      have e0 := yv hR 0
      have e1 := yv hR 1
      have e2 := yv hR 2
      have e3 := yv hR 3
      have e4 := yv hR 4
      have e5 := yv hR 5
      have e6 := yv hR 6
      have e7 := yv hR 7
      have e8 := yv hR 8
      have e9 := yv hR 9
      have e10 := yv hR 10
      have e11 := yv hR 11
      have e12 := yv hR 12
      have e13 := yv hR 13
      have e14 := yv hR 14
      have e15 := yv hR 15
      have e16 := yv hR 16
      clear hR; simp only [fillD, fLa, fLb, sTa, sTb]
      simp only [e0, e1, e2, e3, e4, e5, e6, e7, e8, e9, e10, e11, e12, e13, e14, e15, e16]
      clear e0 e1 e2 e3 e4 e5 e6 e7 e8 e9 e10 e11 e12 e13 e14 e15 e16
      replace hL := hL.grow hb
      clear hb
      generalize ((c != 1) || decide (0 < sc) || (slo != shi)) = d at HF ⊢
      cases d with
      | true =>
        go_wp2_with (first | (with_reducible refine lld hL ?_) | ((with_reducible first | refine lbx hL ?_ | refine lal hL ?_ | refine lbs hL ?_); clear hL; intro bl w1 hL) | ((with_reducible refine lst' hL ?_); clear hL; intro w1 hL))
        (try simp only [Exit.inBlock, Exit.then]); refine' ret1 rfl ?_ rfl ?_; (case refine'_2 => exact cRes)
        exact ⟨by rw [HF.out]; rfl, hL.below⟩
      | false =>
        go_wp2_with (first | (with_reducible refine lld hL ?_) | ((with_reducible first | refine lbx hL ?_ | refine lal hL ?_ | refine lbs hL ?_); clear hL; intro bl w1 hL) | ((with_reducible refine lst' hL ?_); clear hL; intro w1 hL))
        (try simp only [Exit.inBlock, Exit.then]); refine' ret1 rfl ?_ rfl ?_; (case refine'_2 => exact cRes)
        exact ⟨by rw [HF.out]; rfl, hL.below⟩
    · have hb := HB.out k hlt
      have HC := Lib.hid (cntN_le (pick4 nl (!sn) tr fa) k)
      have hs : cntN (pick4 nl (!sn) tr fa) (k + 1) = cntN (pick4 nl (!sn) tr fa) k + cntB (pick4 nl (!sn) tr fa k) := rfl
      have hz : whichN (pick4 nl (!sn) tr fa) (k + 1) = bif pick4 nl (!sn) tr fa k then (k : Int) else whichN (pick4 nl (!sn) tr fa) k := rfl
      generalize cntN (pick4 nl (!sn) tr fa) k = c at HC hs ⊢
      generalize whichN (pick4 nl (!sn) tr fa) k = z at hz ⊢
      generalize pick4 nl (!sn) tr fa k = x at hb hs hz
      have hc := HC.out
      cases x with
      | true =>
        have HS := Lib.hid (hs.trans (show c + cntB true = c + 1 from rfl))
        have HZ := Lib.hid hz
        clear hs hz
        go_wp2_with (first | (refine loc_load (b := b10) hL rfl rfl (by repeat (first | exact InL.head | apply InL.tail)) (Reads.cell tBool hb) ?_) | (with_reducible refine lld hL ?_) | ((with_reducible first | refine lbx hL ?_ | refine lal hL ?_ | refine lbs hL ?_); clear hL; intro bl w1 hL) | ((with_reducible refine lst' hL ?_); clear hL; intro w1 hL))
        go_roundw
        case rel => exact ⟨k + 1, by omega, by first | (rw [HS.out]; done) | (rw [HS.out]; go_num), by first | (rw [HZ.out]; done) | (rw [HZ.out]; go_num), by go_num, hL⟩
        case measure => simp [intOf]; omega
      | false =>
        have HS := Lib.hid (hs.trans (show c + cntB false = c from Int.add_zero c))
        have HZ := Lib.hid hz
        clear hs hz
        go_wp2_with (first | (refine loc_load (b := b10) hL rfl rfl (by repeat (first | exact InL.head | apply InL.tail)) (Reads.cell tBool hb) ?_) | (with_reducible refine lld hL ?_) | ((with_reducible first | refine lbx hL ?_ | refine lal hL ?_ | refine lbs hL ?_); clear hL; intro bl w1 hL) | ((with_reducible refine lst' hL ?_); clear hL; intro w1 hL))
        go_roundw
        case rel => exact ⟨k + 1, by omega, by first | (rw [HS.out]; done) | (rw [HS.out]; go_num), by first | (rw [HZ.out]; done) | (rw [HZ.out]; rfl), by go_num, hL⟩
        case measure => simp [intOf]; omega
end Go.Proofs.YteimpfplgdhclaaGreat
