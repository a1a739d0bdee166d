/- The walk over the reference's CheckRun. Conditions: what it reads lies in memory that was there; the program is right. -/
import Derived.Test.YtmbiooaeglpaiaaGreatDat
import Derived.Test.YtmbiooaeglpaiaaGreatRrn
set_option linter.unusedSimpArgs false
set_option linter.unusedVariables false
namespace Go.Proofs.YtmbiooaeglpaiaaGreat
open Go.RowKit

def headB (p : Pg) (r : Rn) : Bool := !betw r.at' 0 p.n || decide (r.taken < 0) || !betw r.ending 0 5
theorem headB_eq (p : Pg) (r : Rn) : headB p r = placeBad p r := by
  rw [Bool.eq_iff_iff]
  simp [headB, placeBad, betw]
  omega
def allV (s : Rs) (k : Nat) : List Vl := s.vars ++ ((List.range k).map (fun j => (s.thing j).2)).flatten
theorem allV_succ (s : Rs) (k : Nat) : allV s (k + 1) = allV s k ++ (s.thing k).2 := by
  simp [allV, List.range_succ, List.map_append, List.flatten_append]
theorem allV_len {s : Rs} {m : Nat} (k : Nat) (hf : ∀ j, j < k → (s.thing j).2.length = m) : (allV s k).length = s.vars.length + k * m := by
  induction k with
  | zero => simp [allV]
  | succ k ih => rw [allV_succ, List.length_append, ih (fun j hj => hf j (by omega)), hf k (by omega), Nat.add_mul]; omega
theorem any_mem {q : Vl → Bool} (l : List Vl) : anyN (fun i => q (l.getD i dV)) l.length = l.any q := by
  rw [Bool.eq_iff_iff, anyN_iff, List.any_eq_true]
  constructor
  · rintro ⟨k, hk, h⟩
    refine ⟨_, List.getElem_mem hk, ?_⟩
    simpa [List.getD_eq_getElem?_getD, hk] using h
  · rintro ⟨x, hx, h⟩
    obtain ⟨k, hk, rfl⟩ := List.getElem_of_mem hx
    exact ⟨k, hk, by simpa [List.getD_eq_getElem?_getD, hk] using h⟩
theorem all_bad (s : Rs) (n : Nat) (q : Vl → Bool) : anyN (fun i => q ((allV s n).getD i dV)) (allV s n).length = (anyN (fun k => q (s.val k)) s.vars.length || anyN (fun k => anyN (fun j => q (s.field k j)) (s.thing k).2.length) n) := by
  rw [any_mem, allV, List.any_append, ← any_mem s.vars]
  congr 1
  rw [Bool.eq_iff_iff, List.any_eq_true, anyN_iff]
  constructor
  · rintro ⟨x, hx, h⟩
    obtain ⟨l, hl, hxl⟩ := List.mem_flatten.1 hx
    obtain ⟨k, hk, rfl⟩ := List.mem_map.1 hl
    refine ⟨k, List.mem_range.1 hk, ?_⟩
    rw [any_mem, List.any_eq_true]; exact ⟨x, hxl, h⟩
  · rintro ⟨k, hk, h⟩
    rw [any_mem, List.any_eq_true] at h
    obtain ⟨x, hx, hq⟩ := h
    exact ⟨x, List.mem_flatten.2 ⟨_, List.mem_map.2 ⟨k, List.mem_range.2 hk, rfl⟩, hx⟩, hq⟩

set_option maxRecDepth 100000 in
set_option maxHeartbeats 8000000 in
theorem rCheckRun_any (p : Pg) (is : Nat → Ins) (r : Rn) (s : Rs) (ths : Nat → Th) (w : World) (hn : p.n ≤ 9223372036854775807) (hc : CodeAt w p is) (hr : RunAt w r s.val ths s.field s.line) (hth : ∀ k, k < s.things.length → (ths k).site = (s.thing k).1 ∧ (ths k).fs.n = (s.thing k).2.length)
    (hvn : r.vars.n = s.vars.length) (htn : r.things.n = s.things.length) (hsm : Small p) :
    Calls Tryz.prog 7 #[p.v, r.v] w fun e w' => e = .returned (.int .i64 (rightRun p is r s.val ths s.field)) ∧ Below w.heap.size w w' := by
  have n1 := hr.n1
  have n2 := hr.n2
  obtain ⟨ba, oa, hpa, hca⟩ := hr.things.ex
  have HP := Lib.hid hpa
  have HC := Lib.hid hca
  have HV := Lib.hid (fun w' (hw : Below w.heap.size w w') => (hr.vars.grow hw).news (f := Vl.cells) lenV hvn)
  have HF := Lib.hid (fun k (hk : k < r.things.n) w' (hw : Below w.heap.size w w') => ((hr.fields k hk).2.grow hw).news (f := Vl.cells) (l := (s.thing k).2) lenV (hth k (by omega)).2)
  have HLV := Lib.hid (show (flatV s.vars).length = r.vars.n * 2 by rw [flat_len lenV, hvn])
  have HT := Lib.hid hth
  have HSI := Lib.hid (fun a w' (hb : Below w.heap.size w w') => rIsSite_any p is a w' hn (hc.grow hb))
  have HN := Lib.hid (And.intro hvn htn)
  have HSM := Lib.hid hsm
  have hmx : maxLen = 9223372036854775807 := rfl
  have HM := Lib.hid hmx
  have HG := Lib.hid (show rightRun p is r s.val ths s.field = if headB p r then 3 else if (r.vars.n : Int) != p.vars then 1 else if 100 < r.things.n then 2 else if siteBad p is r ths then 5 else if lenBad p r ths then 1 else if varBad r s.val then 4 else if fieldBad r ths s.field then 4 else 0 by rw [headB_eq]; rfl)
  clear hr hth hvn htn hsm hpa hca hmx hc
  have hL := Loc.start w
  go_enter Tryz.func7, Tryz.ntmps7
  go_step
  go_step
  go_step
  ((with_reducible refine lbx hL ?_); clear hL; intro b2 w1 hL)
  ((with_reducible refine lbx hL ?_); clear hL; intro b3 w1 hL)
  go_upto_region 1 with (first | (with_reducible refine lld hL ?_) | ((with_reducible first | refine lbx hL ?_ | refine lal hL ?_ | refine lbs hL ?_); clear hL; intro bl w1 hL) | ((with_reducible refine lst' hL ?_); clear hL; intro w1 hL))
  refine seq_begin [10, 11, 12, 13, 14, 15, 16, 17, 18, 19, 20, 21, 22, 23, 24, 25, 26, 27] ?_
  apply draw_val
  · intro g w hb hdep; replace hL := hL.grow hb; clear hdep; simp only [fillD, fLa, fLb, sTa, sTb]
    go_wp2
    exact cY
  simp only [apN, apC]
  apply draw_val
  · intro g w hb hdep; replace hL := hL.grow hb; have d0 := yv hdep 0; clear hdep; simp only [fillD, fLa, fLb, sTa, sTb]; simp only [d0]
    go_wp2_with (first | (with_reducible refine lld hL ?_) | (with_reducible refine ldD hL ?_))
    exact cY
  simp only [apN, apC]
  apply draw_val
  · intro g w hb hdep; replace hL := hL.grow hb; clear hdep; simp only [fillD, fLa, fLb, sTa, sTb]
    go_wp2
    exact cY
  simp only [apN, apC]
  apply draw_val
  · intro g w hb hdep; replace hL := hL.grow hb; have d2 := yv hdep 2; clear hdep; simp only [fillD, fLa, fLb, sTa, sTb]; simp only [d2]
    go_wp2_with (first | (with_reducible refine lld hL ?_) | (with_reducible refine ldD hL ?_))
    exact cY
  simp only [apN, apC]
  apply draw_val
  · intro g w hb hdep; replace hL := hL.grow hb; have d3 := yv hdep 3; clear hdep; simp only [fillD, fLa, fLb, sTa, sTb]; simp only [d3]
    go_wp2
    exact cY
  simp only [apN, apC]
  apply draw_val
  · intro g w hb hdep; replace hL := hL.grow hb; have d1 := yv hdep 1; have d4 := yv hdep 4; clear hdep; simp only [fillD, fLa, fLb, sTa, sTb]; simp only [d1, d4]
    go_wp2_with (go_at_call 24; refine (between_any _ _ _ _).mono ?_; rintro e w' ⟨rfl, rfl⟩; dsimp only)
    exact ⟨rfl, _, rfl, Below.refl _ _, rfl⟩
  simp only [apN, apC]
  apply draw_val
  · intro g w hb hdep; replace hL := hL.grow hb; have d5 := yv hdep 5; clear hdep; simp only [fillD, fLa, fLb, sTa, sTb]; simp only [d5]
    go_wp2
    exact cY
  simp only [apN, apC]
  apply draw_val
  · intro g w hb hdep; replace hL := hL.grow hb; have d6 := yv hdep 6; clear hdep; simp only [fillD, fLa, fLb, sTa, sTb]; simp only [d6]
    go_wp2
    exact cY
  simp only [apN, apC]
  refine' draw_guard (j := 7) rfl rfl rfl (by decide) (by simp) ?_ ?_; rotate_left
  · intro hcs; simp only [Bool.and_eq_true, beqT, beqF] at hcs; intro g w hb hdep; replace hL := hL.grow hb; clear hdep; simp only [fillD, fLa, fLb, sTa, sTb]
    go_wp2
    exact cY
  simp only [apN, apC]
  refine' draw_guard (j := 7) rfl rfl rfl (by decide) (by simp) ?_ ?_; rotate_left
  · intro hcs; simp only [Bool.and_eq_true, beqT, beqF] at hcs; intro g w hb hdep; replace hL := hL.grow hb; have d8 := yv hdep 8; simp only [hcs, beq_self_eq_true, Bool.and_self, Bool.true_and, Bool.and_true, cnd_true] at d8; clear hdep; simp only [fillD, fLa, fLb, sTa, sTb]; simp only [d8]
    go_wp2_with (first | (with_reducible refine lld hL ?_) | (with_reducible refine ldD hL ?_))
    exact cY
  simp only [apN, apC]
  refine' draw_guard (j := 7) rfl rfl rfl (by decide) (by simp) ?_ ?_; rotate_left
  · intro hcs; simp only [Bool.and_eq_true, beqT, beqF] at hcs; intro g w hb hdep; replace hL := hL.grow hb; have d9 := yv hdep 9; simp only [hcs, beq_self_eq_true, Bool.and_self, Bool.true_and, Bool.and_true, cnd_true] at d9; clear hdep; simp only [fillD, fLa, fLb, sTa, sTb]; simp only [d9]
    go_wp2
    exact cY
  simp only [apN, apC]
  apply draw_val
  · intro g w hb hdep; replace hL := hL.grow hb; have d7 := yv hdep 7; have d10 := yv hdep 10; clear hdep; simp only [fillD, fLa, fLb, sTa, sTb]; simp only [d7, d10]
    first | refine wp_pick_or rfl rfl ?_ | go_wp2
    exact cY
  simp only [apN, apC]
  apply draw_val
  · intro g w hb hdep; replace hL := hL.grow hb; have d11 := yv hdep 11; clear hdep; simp only [fillD, fLa, fLb, sTa, sTb]; simp only [d11]
    go_wp2
    exact cY
  simp only [apN, apC]
  refine' draw_guard (j := 12) rfl rfl rfl (by decide) (by simp) ?_ ?_; rotate_left
  · intro hcs; simp only [Bool.and_eq_true, beqT, beqF] at hcs; intro g w hb hdep; replace hL := hL.grow hb; clear hdep; simp only [fillD, fLa, fLb, sTa, sTb]
    go_wp2
    exact cY
  simp only [apN, apC]
  refine' draw_guard (j := 12) rfl rfl rfl (by decide) (by simp) ?_ ?_; rotate_left
  · intro hcs; simp only [Bool.and_eq_true, beqT, beqF] at hcs; intro g w hb hdep; replace hL := hL.grow hb; have d13 := yv hdep 13; simp only [hcs, beq_self_eq_true, Bool.and_self, Bool.true_and, Bool.and_true, cnd_true] at d13; clear hdep; simp only [fillD, fLa, fLb, sTa, sTb]; simp only [d13]
    go_wp2_with (first | (with_reducible refine lld hL ?_) | (with_reducible refine ldD hL ?_))
    exact cY
  simp only [apN, apC]
  refine' draw_guard (j := 12) rfl rfl rfl (by decide) (by simp) ?_ ?_; rotate_left
  · intro hcs; simp only [Bool.and_eq_true, beqT, beqF] at hcs; intro g w hb hdep; replace hL := hL.grow hb; have d14 := yv hdep 14; simp only [hcs, beq_self_eq_true, Bool.and_self, Bool.true_and, Bool.and_true, cnd_true] at d14; clear hdep; simp only [fillD, fLa, fLb, sTa, sTb]; simp only [d14]
    go_wp2_with (go_at_call 24; refine (between_any _ _ _ _).mono ?_; rintro e w' ⟨rfl, rfl⟩; dsimp only)
    exact ⟨rfl, _, rfl, Below.refl _ _, rfl⟩
  simp only [apN, apC]
  refine' draw_guard (j := 12) rfl rfl rfl (by decide) (by simp) ?_ ?_; rotate_left
  · intro hcs; simp only [Bool.and_eq_true, beqT, beqF] at hcs; intro g w hb hdep; replace hL := hL.grow hb; have d15 := yv hdep 15; simp only [hcs, beq_self_eq_true, Bool.and_self, Bool.true_and, Bool.and_true, cnd_true] at d15; clear hdep; simp only [fillD, fLa, fLb, sTa, sTb]; simp only [d15]
    go_wp2
    exact cY
  simp only [apN, apC]
  apply draw_val
  · intro g w hb hdep; replace hL := hL.grow hb; have d12 := yv hdep 12; have d16 := yv hdep 16; clear hdep; simp only [fillD, fLa, fLb, sTa, sTb]; simp only [d12, d16]
    first | refine wp_pick_or rfl rfl ?_ | go_wp2
    exact cY
  simp only [apN, apC]
  refine seq_end hL (by kernel_rfl) ?_
  intro g w2 hb hR; simp only [List.length_cons, List.length_nil, Nat.reduceAdd] at hR
  have e0 := yv hR 0
  have e1 := yv hR 1
  have e2 := yv hR 2
  have e3 := yv hR 3
  have e4 := yv hR 4
  have e5 := yv hR 5
  have e6 := yv hR 6
  have e7 := yv hR 7
  have e8 := yv hR 8
  have e9 := yv hR 9
  have e10 := yv hR 10
  have e11 := yv hR 11
  have e12 := yv hR 12
  have e13 := yv hR 13
  have e14 := yv hR 14
  have e15 := yv hR 15
  have e16 := yv hR 16
  have e17 := yv hR 17
  clear hR; simp only [fillD, fLa, fLb, sTa, sTb]
  simp only [e0, e1, e2, e3, e4, e5, e6, e7, e8, e9, e10, e11, e12, e13, e14, e15, e16, e17]
  clear e0 e1 e2 e3 e4 e5 e6 e7 e8 e9 e10 e11 e12 e13 e14 e15 e16 e17
  replace hL := hL.grow hb
  clear hb
  simp only [beq_false, Bool.not_or, Bool.not_not]
  cases h1 : headB p r with
  | true =>
    have h0 := h1
    unfold headB at h0
    simp only [h0]
    clear h0
    have HH := Lib.hid (HG.out.trans (if_pos h1))
    clear h1
    go_wp2_with (first | (with_reducible refine lld hL ?_) | ((with_reducible first | refine lbx hL ?_ | refine lal hL ?_ | refine lbs hL ?_); clear hL; intro bl w1 hL) | ((with_reducible refine lst' hL ?_); clear hL; intro w1 hL))
    (try simp only [Exit.inBlock, Exit.then]); refine' ret1 rfl ?_ rfl ?_; (case refine'_2 => exact cRes)
    exact ⟨by rw [HH.out]; rfl, hL.below⟩
  | false =>
  have h0 := h1
  unfold headB at h0
  simp only [h0]
  clear h0
  have HG1 := Lib.hid (HG.out.trans (if_neg (by rw [h1]; decide)))
  clear h1 HG
  cases h2 : ((r.vars.n : Int) != p.vars) with
  | true =>
    have HH := Lib.hid (HG1.out.trans (if_pos h2))
    go_wp2_with (first | (with_reducible refine lld hL ?_) | ((with_reducible first | refine lbx hL ?_ | refine lal hL ?_ | refine lbs hL ?_); clear hL; intro bl w1 hL) | ((with_reducible refine lst' hL ?_); clear hL; intro w1 hL))
    (try simp only [Exit.inBlock, Exit.then]); refine' ret1 rfl ?_ rfl ?_; (case refine'_2 => exact cRes)
    exact ⟨by rw [HH.out]; rfl, hL.below⟩
  | false =>
  have HG2 := Lib.hid (HG1.out.trans (if_neg (by rw [h2]; decide)))
  have hv8 : r.vars.n ≤ 8 := by have := HSM.out.v2; have := (bne_eq_false_iff_eq.1 h2); omega
  have HV8 := Lib.hid hv8
  clear HG1 hv8
  by_cases h3 : 100 < r.things.n
  · have HH := Lib.hid (HG2.out.trans (if_pos h3))
    have h3' : (100 : Int) < (r.things.n : Int) := by omega
    clear h3
    go_wp2_with (first | (with_reducible refine lld hL ?_) | ((with_reducible first | refine lbx hL ?_ | refine lal hL ?_ | refine lbs hL ?_); clear hL; intro bl w1 hL) | ((with_reducible refine lst' hL ?_); clear hL; intro w1 hL))
    (try simp only [Exit.inBlock, Exit.then]); refine' ret1 rfl ?_ rfl ?_; (case refine'_2 => exact cRes)
    exact ⟨by rw [HH.out]; rfl, hL.below⟩
  have HG3 := Lib.hid (HG2.out.trans (if_neg h3))
  have h3' : (r.things.n : Int) ≤ 100 := by omega
  have HT100 := Lib.hid h3'
  clear h3 HG2
  go_wp2_with (first | (with_reducible refine lld hL ?_) | ((with_reducible first | refine lbx hL ?_ | refine lal hL ?_ | refine lbs hL ?_); clear hL; intro bl w1 hL) | ((with_reducible refine lst' hL ?_); clear hL; intro w1 hL))
  clear h2 h3'
  go_loopw [5] (fun c wr => ∃ k : Nat, k ≤ r.things.n ∧ c = .int .i64 k ∧ (∀ j, j < k → (!isSite p is (ths j).site) = false) ∧ Loc w wr [(b3, 33, [.int .i64 r.at', .slice r.vars.p r.vars.n r.vars.cap, .slice r.things.p r.things.n r.things.cap, .int .i64 r.taken, .slice r.lines.p r.lines.n r.lines.cap, .int .i64 r.ending]), (b2, 24, [.int .i64 p.vars, .int .i64 p.fields, .slice p.pc p.n p.cap])] []) (fun c _ => r.things.n - (intOf c).toNat)
  case atStart => exact ⟨0, Nat.zero_le _, rfl, fun j hj => absurd hj (by omega), hL⟩
  case round =>
    obtain ⟨k, hk, rfl, hq, hL⟩ := hrel
    have HQ := Lib.hid hq
    clear hq
    by_cases hlt : k < r.things.n
    · have HP2 := Lib.hid (HP.out (by omega))
      have HR1 := Lib.hid (ReadsAt.cell (P := Tryz.prog) tInt (HC.out k hlt).1 ((HC.out k hlt).2 0 _ rfl))
      go_upto_region 10 with (first | (with_reducible refine lld hL ?_) | ((with_reducible first | refine lbx hL ?_ | refine lal hL ?_ | refine lbs hL ?_); clear hL; intro bl w1 hL) | ((with_reducible refine lst' hL ?_); clear hL; intro w1 hL))
      refine draw_begin [45, 46, 47, 48, 49, 50, 51, 52, 53] ?_
      apply draw_val
      · intro g w hb hdep; replace hL := hL.grow hb; clear hdep; simp only [fillD, fLa, fLb, sTa, sTb]
        go_wp2_with (first | (with_reducible refine lld hL ?_) | (with_reducible refine ldD hL ?_))
        exact cY
      simp only [apN, apC]
      apply draw_val
      · intro g w hb hdep; replace hL := hL.grow hb; clear hdep; simp only [fillD, fLa, fLb, sTa, sTb]
        go_wp2
        exact cY
      simp only [apN, apC]
      apply draw_val
      · intro g w hb hdep; replace hL := hL.grow hb; have d1 := yv hdep 1; clear hdep; simp only [fillD, fLa, fLb, sTa, sTb]; simp only [d1]
        go_wp2_with (first | (with_reducible refine lld hL ?_) | (with_reducible refine ldD hL ?_))
        exact cY
      simp only [apN, apC]
      apply draw_val
      · intro g w hb hdep; replace hL := hL.grow hb; clear hdep; simp only [fillD, fLa, fLb, sTa, sTb]
        go_wp2
        exact cY
      simp only [apN, apC]
      apply draw_val
      · intro g w hb hdep; replace hL := hL.grow hb; have d2 := yv hdep 2; have d3 := yv hdep 3; clear hdep; simp only [fillD, fLa, fLb, sTa, sTb]; simp only [d2, d3]
        (simp only [HP2.out]; go_wp2)
        exact cY
      simp only [apN, apC]
      apply draw_val
      · intro g w hb hdep; replace hL := hL.grow hb; have d4 := yv hdep 4; clear hdep; simp only [fillD, fLa, fLb, sTa, sTb]; simp only [d4]
        go_wp2
        exact cY
      simp only [apN, apC]
      apply draw_val
      · intro g w hb hdep; replace hL := hL.grow hb; have d5 := yv hdep 5; clear hdep; simp only [fillD, fLa, fLb, sTa, sTb]; simp only [d5]
        refine loc_loadB HR1.out hL rfl rfl ?_
        exact cY
      simp only [apN, apC]
      apply draw_val
      · intro g w hb hdep; replace hL := hL.grow hb; have d0 := yv hdep 0; have d6 := yv hdep 6; clear hdep; simp only [fillD, fLa, fLb, sTa, sTb]; simp only [d0, d6]
        go_wp2_with (go_at_call 25; refine (HSI.out _ _ hL.below).mono ?_; rintro e w3 ⟨rfl, hb3⟩; dsimp only)
        exact ⟨rfl, _, rfl, hb3, rfl⟩
      simp only [apN, apC]
      apply draw_val
      · intro g w hb hdep; replace hL := hL.grow hb; have d7 := yv hdep 7; clear hdep; simp only [fillD, fLa, fLb, sTa, sTb]; simp only [d7]
        go_wp2
        exact cY
      simp only [apN, apC]
      refine draw_end hL (by kernel_rfl) (by kernel_rfl) ?_
      intro g w2 hb hR; simp only [List.length_cons, List.length_nil, Nat.reduceAdd] at hR
      have e0 := yv hR 0
      have e1 := yv hR 1
      have e2 := yv hR 2
      have e3 := yv hR 3
      have e4 := yv hR 4
      have e5 := yv hR 5
      have e6 := yv hR 6
      have e7 := yv hR 7
      have e8 := yv hR 8
      clear hR; simp only [fillD, fLa, fLb, sTa, sTb]
      simp only [e0, e1, e2, e3, e4, e5, e6, e7, e8]
      clear e0 e1 e2 e3 e4 e5 e6 e7 e8
      replace hL := hL.grow hb
      clear hb
      cases hd : isSite p is (ths k).site with
      | false =>
        have HAN := Lib.hid (anyN_yes (q := fun k => !isSite p is (ths k).site) hlt (by simp [hd]))
        clear hd
        go_wp2_with (first | (with_reducible refine lld hL ?_) | ((with_reducible first | refine lbx hL ?_ | refine lal hL ?_ | refine lbs hL ?_); clear hL; intro bl w1 hL) | ((with_reducible refine lst' hL ?_); clear hL; intro w1 hL))
        (try simp only [Exit.inBlock, Exit.then]); refine' ret1 rfl ?_ rfl ?_; (case refine'_2 => exact cRes)
        exact ⟨by rw [HG3.out, if_pos (show siteBad p is r ths = true from HAN.out)]; rfl, hL.below⟩
      | true =>
        have HD := Lib.hid hd
        clear hd
        go_wp2_with (first | (with_reducible refine lld hL ?_) | ((with_reducible first | refine lbx hL ?_ | refine lal hL ?_ | refine lbs hL ?_); clear hL; intro bl w1 hL) | ((with_reducible refine lst' hL ?_); clear hL; intro w1 hL))
        go_roundw
        case rel =>
          refine ⟨k + 1, by omega, by go_num, fun j hj => ?_, hL⟩
          rcases Nat.lt_or_ge j k with h | h
          · exact HQ.out j h
          · obtain rfl : j = k := by omega
            rw [HD.out]; rfl
        case measure => simp [intOf]; omega
    · obtain rfl : k = r.things.n := by omega
      have HG4 := Lib.hid (HG3.out.trans (if_neg (by rw [show siteBad p is r ths = false from anyN_no HQ.out]; decide)))
      clear HQ HG3 HSI
      go_wp2_with (first | (with_reducible refine lld hL ?_) | ((with_reducible first | refine lbx hL ?_ | refine lal hL ?_ | refine lbs hL ?_); clear hL; intro bl w1 hL) | ((with_reducible refine lst' hL ?_); clear hL; intro w1 hL))
      go_loopw [6] (fun c wr => ∃ k : Nat, k ≤ r.things.n ∧ c = .int .i64 k ∧ (∀ j, j < k → (((ths j).fs.n : Int) != p.fields) = false) ∧ Loc w wr [(b3, 33, [.int .i64 r.at', .slice r.vars.p r.vars.n r.vars.cap, .slice r.things.p r.things.n r.things.cap, .int .i64 r.taken, .slice r.lines.p r.lines.n r.lines.cap, .int .i64 r.ending]), (b2, 24, [.int .i64 p.vars, .int .i64 p.fields, .slice p.pc p.n p.cap])] []) (fun c _ => r.things.n - (intOf c).toNat)
      case atStart => exact ⟨0, Nat.zero_le _, rfl, fun j hj => absurd hj (by omega), hL⟩
      case round =>
        obtain ⟨k, hk, rfl, hq, hL⟩ := hrel
        have HQ := Lib.hid hq
        clear hq
        by_cases hlt : k < r.things.n
        · have HP2 := Lib.hid (HP.out (by omega))
          have HR2 := Lib.hid (ReadsAt.cell (P := Tryz.prog) tValues (HC.out k hlt).1 ((HC.out k hlt).2 1 _ rfl))
          go_upto_region 15 with (first | (with_reducible refine lld hL ?_) | ((with_reducible first | refine lbx hL ?_ | refine lal hL ?_ | refine lbs hL ?_); clear hL; intro bl w1 hL) | ((with_reducible refine lst' hL ?_); clear hL; intro w1 hL))
          refine draw_begin [61, 62, 63, 64, 65, 66, 67, 68, 69, 70] ?_
          apply draw_val
          · intro g w hb hdep; replace hL := hL.grow hb; clear hdep; simp only [fillD, fLa, fLb, sTa, sTb]
            go_wp2
            exact cY
          simp only [apN, apC]
          apply draw_val
          · intro g w hb hdep; replace hL := hL.grow hb; have d0 := yv hdep 0; clear hdep; simp only [fillD, fLa, fLb, sTa, sTb]; simp only [d0]
            go_wp2_with (first | (with_reducible refine lld hL ?_) | (with_reducible refine ldD hL ?_))
            exact cY
          simp only [apN, apC]
          apply draw_val
          · intro g w hb hdep; replace hL := hL.grow hb; clear hdep; simp only [fillD, fLa, fLb, sTa, sTb]
            go_wp2
            exact cY
          simp only [apN, apC]
          apply draw_val
          · intro g w hb hdep; replace hL := hL.grow hb; have d1 := yv hdep 1; have d2 := yv hdep 2; clear hdep; simp only [fillD, fLa, fLb, sTa, sTb]; simp only [d1, d2]
            (simp only [HP2.out]; go_wp2)
            exact cY
          simp only [apN, apC]
          apply draw_val
          · intro g w hb hdep; replace hL := hL.grow hb; have d3 := yv hdep 3; clear hdep; simp only [fillD, fLa, fLb, sTa, sTb]; simp only [d3]
            go_wp2
            exact cY
          simp only [apN, apC]
          apply draw_val
          · intro g w hb hdep; replace hL := hL.grow hb; have d4 := yv hdep 4; clear hdep; simp only [fillD, fLa, fLb, sTa, sTb]; simp only [d4]
            refine loc_loadB HR2.out hL rfl rfl ?_
            exact cY
          simp only [apN, apC]
          apply draw_val
          · intro g w hb hdep; replace hL := hL.grow hb; have d5 := yv hdep 5; clear hdep; simp only [fillD, fLa, fLb, sTa, sTb]; simp only [d5]
            go_wp2
            exact cY
          simp only [apN, apC]
          apply draw_val
          · intro g w hb hdep; replace hL := hL.grow hb; clear hdep; simp only [fillD, fLa, fLb, sTa, sTb]
            go_wp2
            exact cY
          simp only [apN, apC]
          apply draw_val
          · intro g w hb hdep; replace hL := hL.grow hb; have d7 := yv hdep 7; clear hdep; simp only [fillD, fLa, fLb, sTa, sTb]; simp only [d7]
            go_wp2_with (first | (with_reducible refine lld hL ?_) | (with_reducible refine ldD hL ?_))
            exact cY
          simp only [apN, apC]
          apply draw_val
          · intro g w hb hdep; replace hL := hL.grow hb; have d6 := yv hdep 6; have d8 := yv hdep 8; clear hdep; simp only [fillD, fLa, fLb, sTa, sTb]; simp only [d6, d8]
            go_wp2
            exact cY
          simp only [apN, apC]
          refine draw_end hL (by kernel_rfl) (by kernel_rfl) ?_
          intro g w2 hb hR; simp only [List.length_cons, List.length_nil, Nat.reduceAdd] at hR
          have e0 := yv hR 0
          have e1 := yv hR 1
          have e2 := yv hR 2
          have e3 := yv hR 3
          have e4 := yv hR 4
          have e5 := yv hR 5
          have e6 := yv hR 6
          have e7 := yv hR 7
          have e8 := yv hR 8
          have e9 := yv hR 9
          clear hR; simp only [fillD, fLa, fLb, sTa, sTb]
          simp only [e0, e1, e2, e3, e4, e5, e6, e7, e8, e9]
          clear e0 e1 e2 e3 e4 e5 e6 e7 e8 e9
          replace hL := hL.grow hb
          clear hb
          cases hd : (((ths k).fs.n : Int) != p.fields) with
          | true =>
            have HAN := Lib.hid (anyN_yes (q := fun k => ((ths k).fs.n : Int) != p.fields) hlt hd)
            clear hd
            go_wp2_with (first | (with_reducible refine lld hL ?_) | ((with_reducible first | refine lbx hL ?_ | refine lal hL ?_ | refine lbs hL ?_); clear hL; intro bl w1 hL) | ((with_reducible refine lst' hL ?_); clear hL; intro w1 hL))
            (try simp only [Exit.inBlock, Exit.then]); refine' ret1 rfl ?_ rfl ?_; (case refine'_2 => exact cRes)
            exact ⟨by rw [HG4.out, if_pos (show lenBad p r ths = true from HAN.out)]; rfl, hL.below⟩
          | false =>
            have HD := Lib.hid hd
            clear hd
            go_wp2_with (first | (with_reducible refine lld hL ?_) | ((with_reducible first | refine lbx hL ?_ | refine lal hL ?_ | refine lbs hL ?_); clear hL; intro bl w1 hL) | ((with_reducible refine lst' hL ?_); clear hL; intro w1 hL))
            go_roundw
            case rel =>
              refine ⟨k + 1, by omega, by go_num, fun j hj => ?_, hL⟩
              rcases Nat.lt_or_ge j k with h | h
              · exact HQ.out j h
              · obtain rfl : j = k := by omega
                exact HD.out
            case measure => simp [intOf]; omega
        · obtain rfl : k = r.things.n := by omega
          have HG5 := Lib.hid (HG4.out.trans (if_neg (by rw [show lenBad p r ths = false from anyN_no HQ.out]; decide)))
          have HLN := Lib.hid (fun k (hk : k < r.things.n) => (bne_eq_false_iff_eq.1 (HQ.out k hk) : ((ths k).fs.n : Int) = p.fields))
          clear HQ HG4
          have hall : (allV s 0) = s.vars := by simp [allV]
          have HAL := Lib.hid hall
          clear hall
          go_upto_region 18 with (first | (with_reducible refine lld hL ?_) | ((with_reducible first | refine lbx hL ?_ | refine lal hL ?_ | refine lbs hL ?_); clear hL; intro bl w1 hL) | ((with_reducible refine lst' hL ?_); clear hL; intro w1 hL) | (refine loc_build0 hL rfl sValues ?_; clear hL; intro p0 w1 hL) | (refine wp_append_new (p := p0) rfl rfl sValues bValue (by decide) rfl (HV.out _ hL.below) HLV.out oneV (by have := HV8.out; have := HM.out; omega) (by have := HV8.out; omega) ?_; intro pv cv Rv w2 hSv ho hb; replace hL := hL.gainTail hb ho; simp only [List.cons_append, List.nil_append] at hL; clear ho hb))
          have hSv2 : RowS 61 2 pv r.vars.n cv (flatV (allV s 0)) Rv := by rw [HAL.out]; exact hSv
          have HS0 := Lib.hid hSv2
          clear hSv hSv2
          go_wp2_with (first | (with_reducible refine lld hL ?_) | ((with_reducible first | refine lbx hL ?_ | refine lal hL ?_ | refine lbs hL ?_); clear hL; intro bl w1 hL) | ((with_reducible refine lst' hL ?_); clear hL; intro w1 hL))
          go_loopw [7, 8] (fun c7 c8 wr => ∃ (k n7 : Nat) (p7 : Option Addr) (cap7 : Nat) (R7 : List LBlk), k ≤ r.things.n ∧ c7 = .slice p7 n7 cap7 ∧ c8 = .int .i64 k ∧ n7 = (allV s k).length ∧ RowS 61 2 p7 n7 cap7 (flatV (allV s k)) R7 ∧ Loc w wr ((b3, 33, [.int .i64 r.at', .slice r.vars.p r.vars.n r.vars.cap, .slice r.things.p r.things.n r.things.cap, .int .i64 r.taken, .slice r.lines.p r.lines.n r.lines.cap, .int .i64 r.ending]) :: (b2, 24, [.int .i64 p.vars, .int .i64 p.fields, .slice p.pc p.n p.cap]) :: R7) []) (fun _ c _ => r.things.n - (intOf c).toNat)
          case atStart => exact ⟨0, r.vars.n, pv, cv, Rv, Nat.zero_le _, rfl, rfl, by rw [HAL.out]; exact HN.out.1, HS0.out, hL⟩
          case round =>
            obtain ⟨k, n7, p7, cap7, R7, hk, rfl, rfl, hn7, hS7, hL⟩ := hrel
            have hle : n7 ≤ 8 + k * 3 := by
              have hm0 : ∃ m : Nat, p.fields = m ∧ m ≤ 3 := ⟨p.fields.toNat, by have := HSM.out.f1; omega, by have := HSM.out.f2; omega⟩
              obtain ⟨m, hm, hm3⟩ := hm0
              rw [hn7, allV_len (m := m) k (fun j hj => by have := (HT.out j (by have := HN.out.2; omega)).2; have := HLN.out j (by omega); omega)]
              have := HV8.out
              have := HN.out.1
              have : k * m ≤ k * 3 := Nat.mul_le_mul_left _ hm3
              omega
            have HX := Lib.hid (And.intro hn7 (And.intro hS7 hle))
            clear hn7 hS7 hle
            by_cases hlt : k < r.things.n
            · have HP2 := Lib.hid (HP.out (by omega))
              have HR2 := Lib.hid (ReadsAt.cell (P := Tryz.prog) tValues (HC.out k hlt).1 ((HC.out k hlt).2 1 _ rfl))
              have HFk := Lib.hid (HF.out k hlt)
              have HTk := Lib.hid (HT.out k (by have := HN.out.2; omega)).2
              have HF3 := Lib.hid (show (ths k).fs.n ≤ 3 by have := HLN.out k hlt; have := HSM.out.f2; omega)
              have HK100 := Lib.hid (show k ≤ 100 by have := HT100.out; omega)
              simp only [HP2.out] at hL
              go_upto_region 21 with (first | (with_reducible refine lld hL ?_) | ((with_reducible first | refine lbx hL ?_ | refine lal hL ?_ | refine lbs hL ?_); clear hL; intro bl w1 hL) | ((with_reducible refine lst' hL ?_); clear hL; intro w1 hL))
              go_upto_region 20 with (first | (with_reducible refine lld hL ?_) | ((with_reducible first | refine lbx hL ?_ | refine lal hL ?_ | refine lbs hL ?_); clear hL; intro bl w1 hL) | ((with_reducible refine lst' hL ?_); clear hL; intro w1 hL) | (refine loc_loadB HR2.out hL rfl rfl ?_) | (refine loc_appendS (K := _ :: _ :: []) (R := R7) (news := flatV (s.thing k).2) HX.out.2.1 hL rfl rfl rfl sValues bValue (by decide) rfl (HFk.out _ hL.below) (by rw [flat_len lenV, HTk.out]; rfl) oneV (by have h1 := HX.out.2.2; have h2 := HF3.out; have h3 := HM.out; have h4 := HK100.out; omega) (by have h1 := HX.out.2.2; have h2 := HF3.out; have h4 := HK100.out; omega) ?_; clear hL; intro p4 cap4 R4 w4 hS4 hL; simp only [List.cons_append, List.nil_append] at hL))
              go_wp2_with (first | (with_reducible refine lld hL ?_) | ((with_reducible first | refine lbx hL ?_ | refine lal hL ?_ | refine lbs hL ?_); clear hL; intro bl w1 hL) | ((with_reducible refine lst' hL ?_); clear hL; intro w1 hL))
              go_roundw
              case rel =>
                simp only [← HP2.out] at hL
                refine ⟨k + 1, n7 + (ths k).fs.n, p4, cap4, R4, by omega, rfl, by go_num, ?_, ?_, hL⟩
                · rw [allV_succ, List.length_append, ← HX.out.1, HTk.out]
                · rw [allV_succ]; simpa [flatV] using hS4
              case measure => simp [intOf]; omega
            · obtain rfl : k = r.things.n := by omega
              clear HF HV HC HP
              have hmax : n7 ≤ 9223372036854775807 := by have := HX.out.2.2; have := HT100.out; omega
              have HG6 := Lib.hid (show rightRun p is r s.val ths s.field = if anyN (fun i => !isValue ((allV s r.things.n).getD i dV) r.things.n) n7 then 4 else 0 by
                rw [HG5.out, HX.out.1, all_bad s r.things.n (fun v => !isValue v r.things.n)]
                have e1 : varBad r s.val = anyN (fun k => !isValue (s.val k) r.things.n) s.vars.length := by rw [varBad, HN.out.1]
                have e2 : fieldBad r ths s.field = anyN (fun k => anyN (fun j => !isValue (s.field k j) r.things.n) (s.thing k).2.length) r.things.n := by
                  rw [fieldBad, Bool.eq_iff_iff, anyN_iff, anyN_iff]
                  constructor
                  · rintro ⟨k, hk, h⟩; exact ⟨k, hk, by rw [← (HT.out k (by have := HN.out.2; omega)).2]; exact h⟩
                  · rintro ⟨k, hk, h⟩; exact ⟨k, hk, by rw [(HT.out k (by have := HN.out.2; omega)).2]; exact h⟩
                rw [e1, e2]
                cases anyN (fun k => !isValue (s.val k) r.things.n) s.vars.length <;> simp)
              clear HG5 HLN HT
              go_wp2_with (first | (with_reducible refine lld hL ?_) | ((with_reducible first | refine lbx hL ?_ | refine lal hL ?_ | refine lbs hL ?_); clear hL; intro bl w1 hL) | ((with_reducible refine lst' hL ?_); clear hL; intro w1 hL))
              go_loopw [9] (fun c wr => ∃ k : Nat, k ≤ n7 ∧ c = .int .i64 k ∧ (∀ j, j < k → (!isValue ((allV s r.things.n).getD j dV) r.things.n) = false) ∧ Loc w wr ((b3, 33, [.int .i64 r.at', .slice r.vars.p r.vars.n r.vars.cap, .slice r.things.p r.things.n r.things.cap, .int .i64 r.taken, .slice r.lines.p r.lines.n r.lines.cap, .int .i64 r.ending]) :: (b2, 24, [.int .i64 p.vars, .int .i64 p.fields, .slice p.pc p.n p.cap]) :: R7) []) (fun c _ => n7 - (intOf c).toNat)
              case atStart => exact ⟨0, Nat.zero_le _, rfl, fun j hj => absurd hj (by omega), hL⟩
              case round =>
                obtain ⟨k, hk, rfl, hq, hL⟩ := hrel
                have HQ := Lib.hid hq
                clear hq
                by_cases hlt : k < n7
                · obtain ⟨ga, csa, hpa, hRa, _, _⟩ := HX.out.2.1.block (by omega)
                  have hrow := HX.out.2.1
                  rw [hRa] at hrow hL
                  have HE := Lib.hid (Reads.agg (P := Tryz.prog) tValue (hrow.elem lenV dV hlt) rfl)
                  have HPA := Lib.hid hpa
                  have HRA := Lib.hid hRa
                  clear hrow hpa hRa
                  obtain ⟨va, hva⟩ : ∃ x, x = (allV s r.things.n).getD k dV := ⟨_, rfl⟩
                  have HVA := Lib.hid hva
                  rw [← hva] at HE
                  clear hva
                  go_upto_region 25 with (first | (with_reducible refine lld hL ?_) | ((with_reducible first | refine lbx hL ?_ | refine lal hL ?_ | refine lbs hL ?_); clear hL; intro bl w1 hL) | ((with_reducible refine lst' hL ?_); clear hL; intro w1 hL))
                  simp only [HPA.out]
                  refine draw_begin [96, 97, 98, 99, 100, 101, 102, 103, 104] ?_
                  apply draw_val
                  · intro g w hb hdep; replace hL := hL.grow hb; clear hdep; simp only [fillD, fLa, fLb, sTa, sTb]
                    go_wp2
                    exact cY
                  simp only [apN, apC]
                  apply draw_val
                  · intro g w hb hdep; replace hL := hL.grow hb; clear hdep; simp only [fillD, fLa, fLb, sTa, sTb]
                    go_wp2
                    exact cY
                  simp only [apN, apC]
                  apply draw_val
                  · intro g w hb hdep; replace hL := hL.grow hb; have d0 := yv hdep 0; have d1 := yv hdep 1; clear hdep; simp only [fillD, fLa, fLb, sTa, sTb]; simp only [d0, d1]
                    go_wp2
                    exact cY
                  simp only [apN, apC]
                  apply draw_val
                  · intro g w hb hdep; replace hL := hL.grow hb; have d2 := yv hdep 2; clear hdep; simp only [fillD, fLa, fLb, sTa, sTb]; simp only [d2]
                    refine loc_load hL rfl rfl (by repeat (first | exact InL.head | apply InL.tail)) HE.out ?_
                    exact cY
                  simp only [apN, apC]
                  apply draw_val
                  · intro g w hb hdep; replace hL := hL.grow hb; clear hdep; simp only [fillD, fLa, fLb, sTa, sTb]
                    go_wp2
                    exact cY
                  simp only [apN, apC]
                  apply draw_val
                  · intro g w hb hdep; replace hL := hL.grow hb; have d4 := yv hdep 4; clear hdep; simp only [fillD, fLa, fLb, sTa, sTb]; simp only [d4]
                    go_wp2_with (first | (with_reducible refine lld hL ?_) | (with_reducible refine ldD hL ?_))
                    exact cY
                  simp only [apN, apC]
                  apply draw_val
                  · intro g w hb hdep; replace hL := hL.grow hb; have d5 := yv hdep 5; clear hdep; simp only [fillD, fLa, fLb, sTa, sTb]; simp only [d5]
                    go_wp2
                    exact cY
                  simp only [apN, apC]
                  apply draw_val
                  · intro g w hb hdep; replace hL := hL.grow hb; have d3 := yv hdep 3; have d6 := yv hdep 6; clear hdep; simp only [fillD, fLa, fLb, sTa, sTb]; simp only [d3, d6]
                    go_wp2_with (go_at_call 26; refine (rIsValue_any va _ (by omega) (by have := n2; omega) _).mono ?_; rintro e w3 ⟨rfl, hb3⟩; dsimp only)
                    exact ⟨rfl, _, rfl, hb3, rfl⟩
                  simp only [apN, apC]
                  apply draw_val
                  · intro g w hb hdep; replace hL := hL.grow hb; have d7 := yv hdep 7; clear hdep; simp only [fillD, fLa, fLb, sTa, sTb]; simp only [d7]
                    go_wp2
                    exact cY
                  simp only [apN, apC]
                  refine draw_end hL (by kernel_rfl) (by kernel_rfl) ?_
                  intro g w2 hb hR; simp only [List.length_cons, List.length_nil, Nat.reduceAdd] at hR
                  have e0 := yv hR 0
                  have e1 := yv hR 1
                  have e2 := yv hR 2
                  have e3 := yv hR 3
                  have e4 := yv hR 4
                  have e5 := yv hR 5
                  have e6 := yv hR 6
                  have e7 := yv hR 7
                  have e8 := yv hR 8
                  clear hR; simp only [fillD, fLa, fLb, sTa, sTb]
                  simp only [e0, e1, e2, e3, e4, e5, e6, e7, e8]
                  clear e0 e1 e2 e3 e4 e5 e6 e7 e8
                  replace hL := hL.grow hb
                  clear hb
                  cases hd : isValue va r.things.n with
                  | false =>
                    have HAN := Lib.hid (anyN_yes (q := fun i => !isValue ((allV s r.things.n).getD i dV) r.things.n) hlt (by rw [← HVA.out, hd]; rfl))
                    clear hd
                    go_wp2_with (first | (with_reducible refine lld hL ?_) | ((with_reducible first | refine lbx hL ?_ | refine lal hL ?_ | refine lbs hL ?_); clear hL; intro bl w1 hL) | ((with_reducible refine lst' hL ?_); clear hL; intro w1 hL))
                    (try simp only [Exit.inBlock, Exit.then]); refine' ret1 rfl ?_ rfl ?_; (case refine'_2 => exact cRes)
                    exact ⟨by rw [HG6.out, if_pos HAN.out]; rfl, hL.below⟩
                  | true =>
                    have HD := Lib.hid hd
                    clear hd
                    go_wp2_with (first | (with_reducible refine lld hL ?_) | ((with_reducible first | refine lbx hL ?_ | refine lal hL ?_ | refine lbs hL ?_); clear hL; intro bl w1 hL) | ((with_reducible refine lst' hL ?_); clear hL; intro w1 hL))
                    simp only [← HPA.out]
                    go_roundw
                    case rel =>
                      rw [← HRA.out] at hL
                      refine ⟨k + 1, by omega, by go_num, fun j hj => ?_, hL⟩
                      rcases Nat.lt_or_ge j k with h | h
                      · exact HQ.out j h
                      · obtain rfl : j = k := by omega
                        rw [← HVA.out, HD.out]; rfl
                    case measure => simp [intOf]; omega
                · obtain rfl : k = n7 := by omega
                  go_wp2_with (first | (with_reducible refine lld hL ?_) | ((with_reducible first | refine lbx hL ?_ | refine lal hL ?_ | refine lbs hL ?_); clear hL; intro bl w1 hL) | ((with_reducible refine lst' hL ?_); clear hL; intro w1 hL))
                  (try simp only [Exit.inBlock, Exit.then]); refine' ret1 rfl ?_ rfl ?_; (case refine'_2 => exact cRes)
                  exact ⟨by rw [HG6.out, anyN_no HQ.out]; rfl, hL.below⟩

end Go.Proofs.YtmbiooaeglpaiaaGreat
