/- The walk over the package code's Check. Conditions: the instructions lie in memory that was there. | The walk over run.Right. Conditions: what it reads lies in memory that was there. | The walk over run.Check. Conditions: what it reads lies in memory that was there. | The walks over the reference's functions on runs: sites, equal values. Conditions: what they read lies in memory that was there. | The walk over the reference's SameRun. Conditions: what it reads lies in memory that was there. -/
import Derived.Test.YtmbiooaeglpaiaaGreatPrg
import Derived.Test.YtmbiooaeglpaiaaGreatCop
import Derived.Test.YtmbiooaeglpaiaaGreatVal
set_option linter.unusedSimpArgs false
set_option linter.unusedVariables false
namespace Go.Proofs.YtmbiooaeglpaiaaGreat
open Go.RowKit

set_option maxRecDepth 100000 in
set_option maxHeartbeats 4000000 in
theorem codeCheck_any (p : Pg) (is : Nat → Ins) (w : World) (hc : CodeAt w p is) (hn : p.n ≤ 9223372036854775807) :
    Calls Tryz.prog 34 #[p.v] w fun e w' => e = .returned (.int .i64 (checkProg p is)) ∧ Below w.heap.size w w' := by
  obtain ⟨b, o, hpc, hc⟩ := hc.reads
  have HP := Lib.hid hpc
  have HC := Lib.hid hc
  clear hpc hc
  have HF := Lib.hid (show checkProg p is = if headBad p then 3 else if 60 < p.n then 2 else firstErr (fun k => checkOne p (is k)) 0 p.n from rfl)
  have hL := Loc.start w
  go_enter Tryz.func34, Tryz.ntmps34
  go_step
  go_step
  go_step
  ((with_reducible refine lbx hL ?_); clear hL; intro b1 w1 hL)
  go_upto_region 1 with (first | (with_reducible refine lld hL ?_) | ((with_reducible first | refine lbx hL ?_ | refine lal hL ?_ | refine lbs hL ?_); clear hL; intro bl w1 hL) | ((with_reducible refine lst' hL ?_); clear hL; intro w1 hL))
  refine seq_begin [7, 8, 9, 10, 11, 12, 13, 14, 15, 16, 6] ?_
  apply draw_val
  · intro g w hb hdep; replace hL := hL.grow hb; clear hdep; simp only [fillD, fLa, fLb, sTa, sTb]
    go_wp2
    exact cY
  simp only [apN, apC]
  apply draw_val
  · intro g w hb hdep; replace hL := hL.grow hb; have d0 := yv hdep 0; clear hdep; simp only [fillD, fLa, fLb, sTa, sTb]; simp only [d0]
    go_wp2_with (first | (with_reducible refine lld hL ?_) | (with_reducible refine ldD hL ?_))
    exact cY
  simp only [apN, apC]
  apply draw_val
  · intro g w hb hdep; replace hL := hL.grow hb; have d1 := yv hdep 1; clear hdep; simp only [fillD, fLa, fLb, sTa, sTb]; simp only [d1]
    go_wp2_with (go_at_call 66; refine (within_any _ _ _ _).mono ?_; rintro e w' ⟨rfl, rfl⟩; dsimp only)
    exact ⟨rfl, _, rfl, Below.refl _ _, rfl⟩
  simp only [apN, apC]
  apply draw_val
  · intro g w hb hdep; replace hL := hL.grow hb; have d2 := yv hdep 2; clear hdep; simp only [fillD, fLa, fLb, sTa, sTb]; simp only [d2]
    go_wp2
    exact cY
  simp only [apN, apC]
  apply draw_val
  · intro g w hb hdep; replace hL := hL.grow hb; have d3 := yv hdep 3; clear hdep; simp only [fillD, fLa, fLb, sTa, sTb]; simp only [d3]
    go_wp2
    exact cY
  simp only [apN, apC]
  refine' draw_guard (j := 4) rfl rfl rfl (by decide) (by simp) ?_ ?_; rotate_left
  · intro hcs; simp only [Bool.and_eq_true, beqT, beqF] at hcs; intro g w hb hdep; replace hL := hL.grow hb; clear hdep; simp only [fillD, fLa, fLb, sTa, sTb]
    go_wp2
    exact cY
  simp only [apN, apC]
  refine' draw_guard (j := 4) rfl rfl rfl (by decide) (by simp) ?_ ?_; rotate_left
  · intro hcs; simp only [Bool.and_eq_true, beqT, beqF] at hcs; intro g w hb hdep; replace hL := hL.grow hb; have d5 := yv hdep 5; simp only [hcs, beq_self_eq_true, Bool.and_self, Bool.true_and, Bool.and_true, cnd_true] at d5; clear hdep; simp only [fillD, fLa, fLb, sTa, sTb]; simp only [d5]
    go_wp2_with (first | (with_reducible refine lld hL ?_) | (with_reducible refine ldD hL ?_))
    exact cY
  simp only [apN, apC]
  refine' draw_guard (j := 4) rfl rfl rfl (by decide) (by simp) ?_ ?_; rotate_left
  · intro hcs; simp only [Bool.and_eq_true, beqT, beqF] at hcs; intro g w hb hdep; replace hL := hL.grow hb; have d6 := yv hdep 6; simp only [hcs, beq_self_eq_true, Bool.and_self, Bool.true_and, Bool.and_true, cnd_true] at d6; clear hdep; simp only [fillD, fLa, fLb, sTa, sTb]; simp only [d6]
    go_wp2_with (go_at_call 66; refine (within_any _ _ _ _).mono ?_; rintro e w' ⟨rfl, rfl⟩; dsimp only)
    exact ⟨rfl, _, rfl, Below.refl _ _, rfl⟩
  simp only [apN, apC]
  refine' draw_guard (j := 4) rfl rfl rfl (by decide) (by simp) ?_ ?_; rotate_left
  · intro hcs; simp only [Bool.and_eq_true, beqT, beqF] at hcs; intro g w hb hdep; replace hL := hL.grow hb; have d7 := yv hdep 7; simp only [hcs, beq_self_eq_true, Bool.and_self, Bool.true_and, Bool.and_true, cnd_true] at d7; clear hdep; simp only [fillD, fLa, fLb, sTa, sTb]; simp only [d7]
    go_wp2
    exact cY
  simp only [apN, apC]
  apply draw_val
  · intro g w hb hdep; replace hL := hL.grow hb; have d4 := yv hdep 4; have d8 := yv hdep 8; clear hdep; simp only [fillD, fLa, fLb, sTa, sTb]; simp only [d4, d8]
    first | refine wp_pick_or rfl rfl ?_ | go_wp2
    exact cY
  simp only [apN, apC]
  apply draw_val
  · intro g w hb hdep; replace hL := hL.grow hb; have d9 := yv hdep 9; clear hdep; simp only [fillD, fLa, fLb, sTa, sTb]; simp only [d9]
    go_wp2
    exact cY
  simp only [apN, apC]
  refine seq_end hL (by kernel_rfl) ?_
  intro g w2 hb hR; simp only [List.length_cons, List.length_nil, Nat.reduceAdd] at hR
  have e0 := yv hR 0
  have e1 := yv hR 1
  have e2 := yv hR 2
  have e3 := yv hR 3
  have e4 := yv hR 4
  have e5 := yv hR 5
  have e6 := yv hR 6
  have e7 := yv hR 7
  have e8 := yv hR 8
  have e9 := yv hR 9
  have e10 := yv hR 10
  clear hR; simp only [fillD, fLa, fLb, sTa, sTb]
  simp only [e0, e1, e2, e3, e4, e5, e6, e7, e8, e9, e10]
  clear e0 e1 e2 e3 e4 e5 e6 e7 e8 e9 e10
  replace hL := hL.grow hb
  clear hb
  cases h1 : headBad p with
  | true =>
    have h0 := h1
    unfold headBad at h0
    simp only [h0]
    clear h0
    have H1 := Lib.hid h1
    clear h1
    go_wp2
    (try simp only [Exit.inBlock, Exit.then]); refine' ret1 rfl ?_ rfl ?_; (case refine'_2 => exact cRes)
    exact ⟨by rw [HF.out, if_pos H1.out]; rfl, hL.below⟩
  | false =>
  have h0 := h1
  unfold headBad at h0
  simp only [h0]
  clear h0
  have H1 := Lib.hid h1
  clear h1
  by_cases hm : 60 < p.n
  · go_wp2_with (first | (with_reducible refine lld hL ?_) | ((with_reducible first | refine lbx hL ?_ | refine lal hL ?_ | refine lbs hL ?_); clear hL; intro bl w1 hL) | ((with_reducible refine lst' hL ?_); clear hL; intro w1 hL))
    (try simp only [Exit.inBlock, Exit.then]); refine' ret1 rfl ?_ rfl ?_; (case refine'_2 => exact cRes)
    exact ⟨by rw [HF.out, if_neg (by rw [H1.out]; decide), if_pos hm]; rfl, hL.below⟩
  have HS := Lib.hid (small_of H1.out hm)
  have HG := Lib.hid (show checkProg p is = firstErr (fun k => checkOne p (is k)) 0 p.n from by rw [HF.out, if_neg (by rw [H1.out]; decide), if_neg hm])
  have hle : p.n ≤ 60 := by omega
  clear hm
  go_wp2_with (first | (with_reducible refine lld hL ?_) | ((with_reducible first | refine lbx hL ?_ | refine lal hL ?_ | refine lbs hL ?_); clear hL; intro bl w1 hL) | ((with_reducible refine lst' hL ?_); clear hL; intro w1 hL))
  go_loopw [25] (fun c wr => ∃ k : Nat, k ≤ p.n ∧ c = .int .i64 k ∧ checkProg p is = firstErr (fun k => checkOne p (is k)) k (p.n - k) ∧ Loc w wr [(b1, 24, [.int .i64 p.vars, .int .i64 p.fields, .slice p.pc p.n p.cap])] []) (fun c _ => p.n - (intOf c).toNat)
  case atStart => exact ⟨0, Nat.zero_le _, rfl, HG.out, hL⟩
  case round =>
    obtain ⟨k, hk, rfl, hg, hL⟩ := hrel
    have HK := Lib.hid hg
    clear hg
    by_cases hlt : k < p.n
    · obtain ⟨m, hm⟩ : ∃ m, p.n - k = m + 1 := ⟨p.n - k - 1, by omega⟩
      have hstep := HK.out
      rw [hm, firstErr] at hstep
      have hm2 : p.n - (k + 1) = m := by omega
      rw [← hm2] at hstep
      have HST := Lib.hid hstep
      have hp := HP.out (by omega)
      have HPC := Lib.hid hp
      have hr := HC.out k hlt
      have hone := one_any p (is k) HS.out
      have HR := Lib.hid hr
      clear hstep hm hm2 hp hr
      by_cases he : checkOne p (is k) = 0
      · rw [he] at hone
        have HO := Lib.hid hone
        have HE := Lib.hid he
        clear hone he
        go_upto_region 7 with (first | (with_reducible refine lld hL ?_) | ((with_reducible first | refine lbx hL ?_ | refine lal hL ?_ | refine lbs hL ?_); clear hL; intro bl w1 hL) | ((with_reducible refine lst' hL ?_); clear hL; intro w1 hL))
        refine seq_begin [27, 28, 4] ?_
        apply draw_val
        · intro g w hb hdep; replace hL := hL.grow hb; clear hdep; simp only [fillD, fLa, fLb, sTa, sTb]
          (simp only [HPC.out]; go_wp2)
          exact cY
        simp only [apN, apC]
        apply draw_val
        · intro g w hb hdep; replace hL := hL.grow hb; have d0 := yv hdep 0; clear hdep; simp only [fillD, fLa, fLb, sTa, sTb]; simp only [d0]
          refine loc_loadB HR.out hL rfl rfl ?_
          exact cY
        simp only [apN, apC]
        apply draw_ptr
        · intro g w hb hdep; replace hL := hL.grow hb; clear hdep; simp only [fillD, fLa, fLb, sTa, sTb]
          go_wp2
          exact ⟨rfl, _, rfl, (Below.refl _ _).alloc (Nat.le_refl _) _, _, hb.size, rfl, heap_new _ _⟩
        simp only [apN, apC]
        refine seq_end hL (by kernel_rfl) ?_
        intro g w2 hb hR; simp only [List.length_cons, List.length_nil, Nat.reduceAdd] at hR
        have e0 := yv hR 0
        have e1 := yv hR 1
        obtain ⟨b2, p2, e2, c2⟩ := rat_ptr (allR_get hR (j := 2) (by decide)) rfl rfl
        clear hR; simp only [fillD, fLa, fLb, sTa, sTb]
        simp only [e0, e1, e2]
        clear e0 e1 e2
        replace hL := hL.gain hb p2 c2
        clear p2 c2
        clear hb
        go_wp2_with (first | (with_reducible refine lld hL ?_) | ((with_reducible first | refine lbx hL ?_ | refine lal hL ?_ | refine lbs hL ?_); clear hL; intro bl w1 hL) | ((with_reducible refine lst' hL ?_); clear hL; intro w1 hL) | (go_at_call 67; refine (HO.out _).mono ?_; rintro e w1 ⟨rfl, hb⟩; replace hL := hL.grow hb; clear hb; dsimp only))
        go_roundw
        case rel => exact ⟨k + 1, by omega, by go_num, by have h := HST.out; rw [if_neg (by simp [HE.out])] at h; exact h, hL.drop (.cons _ (List.Sublist.refl _)) (fun _ h => h)⟩
        case measure => simp [intOf]; omega
      · have hst : checkProg p is = checkOne p (is k) := by have h := HST.out; rw [if_pos he] at h; exact h
        have hne : (checkOne p (is k) != 0) = true := by simp [he]
        generalize checkOne p (is k) = ce at hone hst hne
        have HO := Lib.hid hone
        have HE := Lib.hid hst
        clear hone hst he
        go_upto_region 7 with (first | (with_reducible refine lld hL ?_) | ((with_reducible first | refine lbx hL ?_ | refine lal hL ?_ | refine lbs hL ?_); clear hL; intro bl w1 hL) | ((with_reducible refine lst' hL ?_); clear hL; intro w1 hL))
        refine seq_begin [27, 28, 4] ?_
        apply draw_val
        · intro g w hb hdep; replace hL := hL.grow hb; clear hdep; simp only [fillD, fLa, fLb, sTa, sTb]
          (simp only [HPC.out]; go_wp2)
          exact cY
        simp only [apN, apC]
        apply draw_val
        · intro g w hb hdep; replace hL := hL.grow hb; have d0 := yv hdep 0; clear hdep; simp only [fillD, fLa, fLb, sTa, sTb]; simp only [d0]
          refine loc_loadB HR.out hL rfl rfl ?_
          exact cY
        simp only [apN, apC]
        apply draw_ptr
        · intro g w hb hdep; replace hL := hL.grow hb; clear hdep; simp only [fillD, fLa, fLb, sTa, sTb]
          go_wp2
          exact ⟨rfl, _, rfl, (Below.refl _ _).alloc (Nat.le_refl _) _, _, hb.size, rfl, heap_new _ _⟩
        simp only [apN, apC]
        refine seq_end hL (by kernel_rfl) ?_
        intro g w2 hb hR; simp only [List.length_cons, List.length_nil, Nat.reduceAdd] at hR
        have e0 := yv hR 0
        have e1 := yv hR 1
        obtain ⟨b2, p2, e2, c2⟩ := rat_ptr (allR_get hR (j := 2) (by decide)) rfl rfl
        clear hR; simp only [fillD, fLa, fLb, sTa, sTb]
        simp only [e0, e1, e2]
        clear e0 e1 e2
        replace hL := hL.gain hb p2 c2
        clear p2 c2
        clear hb
        go_wp2_with (first | (with_reducible refine lld hL ?_) | ((with_reducible first | refine lbx hL ?_ | refine lal hL ?_ | refine lbs hL ?_); clear hL; intro bl w1 hL) | ((with_reducible refine lst' hL ?_); clear hL; intro w1 hL) | (go_at_call 67; refine (HO.out _).mono ?_; rintro e w1 ⟨rfl, hb⟩; replace hL := hL.grow hb; clear hb; dsimp only))
        (try simp only [Exit.inBlock, Exit.then]); refine' ret1 rfl ?_ rfl ?_; (case refine'_2 => exact cRes)
        exact ⟨by rw [HE.out]; rfl, hL.below⟩
    · go_wp2_with (first | (with_reducible refine lld hL ?_) | ((with_reducible first | refine lbx hL ?_ | refine lal hL ?_ | refine lbs hL ?_); clear hL; intro bl w1 hL) | ((with_reducible refine lst' hL ?_); clear hL; intro w1 hL))
      (try simp only [Exit.inBlock, Exit.then]); refine' ret1 rfl ?_ rfl ?_; (case refine'_2 => exact cRes)
      exact ⟨by rw [HK.out, show p.n - k = 0 by omega]; rfl, hL.below⟩
end Go.Proofs.YtmbiooaeglpaiaaGreat
set_option linter.unusedSimpArgs false
set_option linter.unusedVariables false
namespace Go.Proofs.YtmbiooaeglpaiaaGreat
open Go.RowKit

/-- What a run's slices read. -/
structure RunL (w : World) (r : Rn) (vs : Nat → Vl) (ths : Nat → Th) (fv : Nat → Nat → Vl) : Prop where
  vars : ListAt Tryz.prog 61 2 w r.vars.p r.vars.n (fun k => (vs k).v)
  things : ListAt Tryz.prog 58 2 w r.things.p r.things.n (fun k => (ths k).v)
  fields : ∀ k, k < r.things.n → (ths k).fs.n ≤ 9223372036854775807 ∧ ListAt Tryz.prog 61 2 w (ths k).fs.p (ths k).fs.n (fun j => (fv k j).v)
  n1 : r.vars.n ≤ 9223372036854775807
  n2 : r.things.n ≤ 9223372036854775807
theorem RunL.grow {w w' : World} {r : Rn} {vs : Nat → Vl} {ths : Nat → Th} {fv : Nat → Nat → Vl} (h : RunL w r vs ths fv) (hb : Below w.heap.size w w') : RunL w' r vs ths fv :=
  ⟨h.vars.grow hb, h.things.grow hb, fun k hk => ⟨(h.fields k hk).1, (h.fields k hk).2.grow hb⟩, h.n1, h.n2⟩
def placeBad (p : Pg) (r : Rn) : Bool := decide (r.at' < 0) || decide ((p.n : Int) < r.at') || decide (r.taken < 0) || decide (r.ending < 0) || decide (5 < r.ending)
def siteBad (p : Pg) (is : Nat → Ins) (r : Rn) (ths : Nat → Th) : Bool := anyN (fun k => !isSite p is (ths k).site) r.things.n
def lenBad (p : Pg) (r : Rn) (ths : Nat → Th) : Bool := anyN (fun k => ((ths k).fs.n : Int) != p.fields) r.things.n
def varBad (r : Rn) (vs : Nat → Vl) : Bool := anyN (fun k => !isValue (vs k) r.things.n) r.vars.n
def fieldBad (r : Rn) (ths : Nat → Th) (fv : Nat → Nat → Vl) : Bool := anyN (fun k => anyN (fun j => !isValue (fv k j) r.things.n) (ths k).fs.n) r.things.n
def rightRun (p : Pg) (is : Nat → Ins) (r : Rn) (vs : Nat → Vl) (ths : Nat → Th) (fv : Nat → Nat → Vl) : Int :=
  if placeBad p r then 3 else if (r.vars.n : Int) != p.vars then 1 else if 100 < r.things.n then 2 else if siteBad p is r ths then 5 else if lenBad p r ths then 1 else if varBad r vs then 4 else if fieldBad r ths fv then 4 else 0

set_option maxRecDepth 100000 in
set_option maxHeartbeats 8000000 in
theorem right_any (p : Pg) (is : Nat → Ins) (r : Rn) (vs : Nat → Vl) (ths : Nat → Th) (fv : Nat → Nat → Vl) (w : World) (hn : p.n ≤ 9223372036854775807) (hc : CodeAt w p is) (hr : RunL w r vs ths fv) :
    Calls Tryz.prog 21 #[p.v, r.v] w fun e w' => e = .returned (.int .i64 (rightRun p is r vs ths fv)) ∧ Below w.heap.size w w' := by
  have n1 := hr.n1
  have n2 := hr.n2
  have HC := Lib.hid hc
  have HR := Lib.hid hr
  have HF := Lib.hid (show rightRun p is r vs ths fv = if placeBad p r then 3 else if (r.vars.n : Int) != p.vars then 1 else if 100 < r.things.n then 2 else if siteBad p is r ths then 5 else if lenBad p r ths then 1 else if varBad r vs then 4 else if fieldBad r ths fv then 4 else 0 from rfl)
  clear hc hr
  have hL := Loc.start w
  go_enter Tryz.func21, Tryz.ntmps21
  go_step
  go_step
  go_step
  ((with_reducible refine lbx hL ?_); clear hL; intro b2 w1 hL)
  ((with_reducible refine lbx hL ?_); clear hL; intro b3 w1 hL)
  go_upto_region 1 with (first | (with_reducible refine lld hL ?_) | ((with_reducible first | refine lbx hL ?_ | refine lal hL ?_ | refine lbs hL ?_); clear hL; intro bl w1 hL) | ((with_reducible refine lst' hL ?_); clear hL; intro w1 hL))
  refine seq_begin [7, 8, 9, 10, 11, 12, 13, 14, 15, 16, 17, 18, 19, 20, 21, 22, 23, 24, 25, 26, 27, 28, 29, 30, 31, 32, 6] ?_
  apply draw_val
  · intro g w hb hdep; replace hL := hL.grow hb; clear hdep; simp only [fillD, fLa, fLb, sTa, sTb]
    go_wp2
    exact cY
  simp only [apN, apC]
  apply draw_val
  · intro g w hb hdep; replace hL := hL.grow hb; have d0 := yv hdep 0; clear hdep; simp only [fillD, fLa, fLb, sTa, sTb]; simp only [d0]
    go_wp2_with (first | (with_reducible refine lld hL ?_) | (with_reducible refine ldD hL ?_))
    exact cY
  simp only [apN, apC]
  apply draw_val
  · intro g w hb hdep; replace hL := hL.grow hb; have d1 := yv hdep 1; clear hdep; simp only [fillD, fLa, fLb, sTa, sTb]; simp only [d1]
    go_wp2
    exact cY
  simp only [apN, apC]
  apply draw_val
  · intro g w hb hdep; replace hL := hL.grow hb; have d2 := yv hdep 2; clear hdep; simp only [fillD, fLa, fLb, sTa, sTb]; simp only [d2]
    go_wp2
    exact cY
  simp only [apN, apC]
  refine' draw_guard (j := 3) rfl rfl rfl (by decide) (by simp) ?_ ?_; rotate_left
  · intro hcs; simp only [Bool.and_eq_true, beqT, beqF] at hcs; intro g w hb hdep; replace hL := hL.grow hb; clear hdep; simp only [fillD, fLa, fLb, sTa, sTb]
    go_wp2
    exact cY
  simp only [apN, apC]
  refine' draw_guard (j := 3) rfl rfl rfl (by decide) (by simp) ?_ ?_; rotate_left
  · intro hcs; simp only [Bool.and_eq_true, beqT, beqF] at hcs; intro g w hb hdep; replace hL := hL.grow hb; have d4 := yv hdep 4; simp only [hcs, beq_self_eq_true, Bool.and_self, Bool.true_and, Bool.and_true, cnd_true] at d4; clear hdep; simp only [fillD, fLa, fLb, sTa, sTb]; simp only [d4]
    go_wp2_with (first | (with_reducible refine lld hL ?_) | (with_reducible refine ldD hL ?_))
    exact cY
  simp only [apN, apC]
  refine' draw_guard (j := 3) rfl rfl rfl (by decide) (by simp) ?_ ?_; rotate_left
  · intro hcs; simp only [Bool.and_eq_true, beqT, beqF] at hcs; intro g w hb hdep; replace hL := hL.grow hb; clear hdep; simp only [fillD, fLa, fLb, sTa, sTb]
    go_wp2
    exact cY
  simp only [apN, apC]
  refine' draw_guard (j := 3) rfl rfl rfl (by decide) (by simp) ?_ ?_; rotate_left
  · intro hcs; simp only [Bool.and_eq_true, beqT, beqF] at hcs; intro g w hb hdep; replace hL := hL.grow hb; have d6 := yv hdep 6; simp only [hcs, beq_self_eq_true, Bool.and_self, Bool.true_and, Bool.and_true, cnd_true] at d6; clear hdep; simp only [fillD, fLa, fLb, sTa, sTb]; simp only [d6]
    go_wp2_with (first | (with_reducible refine lld hL ?_) | (with_reducible refine ldD hL ?_))
    exact cY
  simp only [apN, apC]
  refine' draw_guard (j := 3) rfl rfl rfl (by decide) (by simp) ?_ ?_; rotate_left
  · intro hcs; simp only [Bool.and_eq_true, beqT, beqF] at hcs; intro g w hb hdep; replace hL := hL.grow hb; have d7 := yv hdep 7; simp only [hcs, beq_self_eq_true, Bool.and_self, Bool.true_and, Bool.and_true, cnd_true] at d7; clear hdep; simp only [fillD, fLa, fLb, sTa, sTb]; simp only [d7]
    go_wp2
    exact cY
  simp only [apN, apC]
  refine' draw_guard (j := 3) rfl rfl rfl (by decide) (by simp) ?_ ?_; rotate_left
  · intro hcs; simp only [Bool.and_eq_true, beqT, beqF] at hcs; intro g w hb hdep; replace hL := hL.grow hb; have d5 := yv hdep 5; simp only [hcs, beq_self_eq_true, Bool.and_self, Bool.true_and, Bool.and_true, cnd_true] at d5; have d8 := yv hdep 8; simp only [hcs, beq_self_eq_true, Bool.and_self, Bool.true_and, Bool.and_true, cnd_true] at d8; clear hdep; simp only [fillD, fLa, fLb, sTa, sTb]; simp only [d5, d8]
    go_wp2
    exact cY
  simp only [apN, apC]
  apply draw_val
  · intro g w hb hdep; replace hL := hL.grow hb; have d3 := yv hdep 3; have d9 := yv hdep 9; clear hdep; simp only [fillD, fLa, fLb, sTa, sTb]; simp only [d3, d9]
    first | refine wp_pick_or rfl rfl ?_ | go_wp2
    exact cY
  simp only [apN, apC]
  apply draw_val
  · intro g w hb hdep; replace hL := hL.grow hb; have d10 := yv hdep 10; clear hdep; simp only [fillD, fLa, fLb, sTa, sTb]; simp only [d10]
    go_wp2
    exact cY
  simp only [apN, apC]
  refine' draw_guard (j := 11) rfl rfl rfl (by decide) (by simp) ?_ ?_; rotate_left
  · intro hcs; simp only [Bool.and_eq_true, beqT, beqF] at hcs; intro g w hb hdep; replace hL := hL.grow hb; clear hdep; simp only [fillD, fLa, fLb, sTa, sTb]
    go_wp2
    exact cY
  simp only [apN, apC]
  refine' draw_guard (j := 11) rfl rfl rfl (by decide) (by simp) ?_ ?_; rotate_left
  · intro hcs; simp only [Bool.and_eq_true, beqT, beqF] at hcs; intro g w hb hdep; replace hL := hL.grow hb; have d12 := yv hdep 12; simp only [hcs, beq_self_eq_true, Bool.and_self, Bool.true_and, Bool.and_true, cnd_true] at d12; clear hdep; simp only [fillD, fLa, fLb, sTa, sTb]; simp only [d12]
    go_wp2_with (first | (with_reducible refine lld hL ?_) | (with_reducible refine ldD hL ?_))
    exact cY
  simp only [apN, apC]
  refine' draw_guard (j := 11) rfl rfl rfl (by decide) (by simp) ?_ ?_; rotate_left
  · intro hcs; simp only [Bool.and_eq_true, beqT, beqF] at hcs; intro g w hb hdep; replace hL := hL.grow hb; have d13 := yv hdep 13; simp only [hcs, beq_self_eq_true, Bool.and_self, Bool.true_and, Bool.and_true, cnd_true] at d13; clear hdep; simp only [fillD, fLa, fLb, sTa, sTb]; simp only [d13]
    go_wp2
    exact cY
  simp only [apN, apC]
  apply draw_val
  · intro g w hb hdep; replace hL := hL.grow hb; have d11 := yv hdep 11; have d14 := yv hdep 14; clear hdep; simp only [fillD, fLa, fLb, sTa, sTb]; simp only [d11, d14]
    first | refine wp_pick_or rfl rfl ?_ | go_wp2
    exact cY
  simp only [apN, apC]
  apply draw_val
  · intro g w hb hdep; replace hL := hL.grow hb; have d15 := yv hdep 15; clear hdep; simp only [fillD, fLa, fLb, sTa, sTb]; simp only [d15]
    go_wp2
    exact cY
  simp only [apN, apC]
  refine' draw_guard (j := 16) rfl rfl rfl (by decide) (by simp) ?_ ?_; rotate_left
  · intro hcs; simp only [Bool.and_eq_true, beqT, beqF] at hcs; intro g w hb hdep; replace hL := hL.grow hb; clear hdep; simp only [fillD, fLa, fLb, sTa, sTb]
    go_wp2
    exact cY
  simp only [apN, apC]
  refine' draw_guard (j := 16) rfl rfl rfl (by decide) (by simp) ?_ ?_; rotate_left
  · intro hcs; simp only [Bool.and_eq_true, beqT, beqF] at hcs; intro g w hb hdep; replace hL := hL.grow hb; have d17 := yv hdep 17; simp only [hcs, beq_self_eq_true, Bool.and_self, Bool.true_and, Bool.and_true, cnd_true] at d17; clear hdep; simp only [fillD, fLa, fLb, sTa, sTb]; simp only [d17]
    go_wp2_with (first | (with_reducible refine lld hL ?_) | (with_reducible refine ldD hL ?_))
    exact cY
  simp only [apN, apC]
  refine' draw_guard (j := 16) rfl rfl rfl (by decide) (by simp) ?_ ?_; rotate_left
  · intro hcs; simp only [Bool.and_eq_true, beqT, beqF] at hcs; intro g w hb hdep; replace hL := hL.grow hb; have d18 := yv hdep 18; simp only [hcs, beq_self_eq_true, Bool.and_self, Bool.true_and, Bool.and_true, cnd_true] at d18; clear hdep; simp only [fillD, fLa, fLb, sTa, sTb]; simp only [d18]
    go_wp2
    exact cY
  simp only [apN, apC]
  apply draw_val
  · intro g w hb hdep; replace hL := hL.grow hb; have d16 := yv hdep 16; have d19 := yv hdep 19; clear hdep; simp only [fillD, fLa, fLb, sTa, sTb]; simp only [d16, d19]
    first | refine wp_pick_or rfl rfl ?_ | go_wp2
    exact cY
  simp only [apN, apC]
  apply draw_val
  · intro g w hb hdep; replace hL := hL.grow hb; have d20 := yv hdep 20; clear hdep; simp only [fillD, fLa, fLb, sTa, sTb]; simp only [d20]
    go_wp2
    exact cY
  simp only [apN, apC]
  refine' draw_guard (j := 21) rfl rfl rfl (by decide) (by simp) ?_ ?_; rotate_left
  · intro hcs; simp only [Bool.and_eq_true, beqT, beqF] at hcs; intro g w hb hdep; replace hL := hL.grow hb; clear hdep; simp only [fillD, fLa, fLb, sTa, sTb]
    go_wp2
    exact cY
  simp only [apN, apC]
  refine' draw_guard (j := 21) rfl rfl rfl (by decide) (by simp) ?_ ?_; rotate_left
  · intro hcs; simp only [Bool.and_eq_true, beqT, beqF] at hcs; intro g w hb hdep; replace hL := hL.grow hb; have d22 := yv hdep 22; simp only [hcs, beq_self_eq_true, Bool.and_self, Bool.true_and, Bool.and_true, cnd_true] at d22; clear hdep; simp only [fillD, fLa, fLb, sTa, sTb]; simp only [d22]
    go_wp2_with (first | (with_reducible refine lld hL ?_) | (with_reducible refine ldD hL ?_))
    exact cY
  simp only [apN, apC]
  refine' draw_guard (j := 21) rfl rfl rfl (by decide) (by simp) ?_ ?_; rotate_left
  · intro hcs; simp only [Bool.and_eq_true, beqT, beqF] at hcs; intro g w hb hdep; replace hL := hL.grow hb; have d23 := yv hdep 23; simp only [hcs, beq_self_eq_true, Bool.and_self, Bool.true_and, Bool.and_true, cnd_true] at d23; clear hdep; simp only [fillD, fLa, fLb, sTa, sTb]; simp only [d23]
    go_wp2
    exact cY
  simp only [apN, apC]
  apply draw_val
  · intro g w hb hdep; replace hL := hL.grow hb; have d21 := yv hdep 21; have d24 := yv hdep 24; clear hdep; simp only [fillD, fLa, fLb, sTa, sTb]; simp only [d21, d24]
    first | refine wp_pick_or rfl rfl ?_ | go_wp2
    exact cY
  simp only [apN, apC]
  apply draw_val
  · intro g w hb hdep; replace hL := hL.grow hb; have d25 := yv hdep 25; clear hdep; simp only [fillD, fLa, fLb, sTa, sTb]; simp only [d25]
    go_wp2
    exact cY
  simp only [apN, apC]
  refine seq_end hL (by kernel_rfl) ?_
  intro g w2 hb hR; simp only [List.length_cons, List.length_nil, Nat.reduceAdd] at hR
  have e0 := yv hR 0
  have e1 := yv hR 1
  have e2 := yv hR 2
  have e3 := yv hR 3
  have e4 := yv hR 4
  have e5 := yv hR 5
  have e6 := yv hR 6
  have e7 := yv hR 7
  have e8 := yv hR 8
  have e9 := yv hR 9
  have e10 := yv hR 10
  have e11 := yv hR 11
  have e12 := yv hR 12
  have e13 := yv hR 13
  have e14 := yv hR 14
  have e15 := yv hR 15
  have e16 := yv hR 16
  have e17 := yv hR 17
  have e18 := yv hR 18
  have e19 := yv hR 19
  have e20 := yv hR 20
  have e21 := yv hR 21
  have e22 := yv hR 22
  have e23 := yv hR 23
  have e24 := yv hR 24
  have e25 := yv hR 25
  have e26 := yv hR 26
  clear hR; simp only [fillD, fLa, fLb, sTa, sTb]
  simp only [e0, e1, e2, e3, e4, e5, e6, e7, e8, e9, e10, e11, e12, e13, e14, e15, e16, e17, e18, e19, e20, e21, e22, e23, e24, e25, e26]
  clear e0 e1 e2 e3 e4 e5 e6 e7 e8 e9 e10 e11 e12 e13 e14 e15 e16 e17 e18 e19 e20 e21 e22 e23 e24 e25 e26
  replace hL := hL.grow hb
  clear hb
  cases h1 : placeBad p r with
  | true =>
    have h0 := h1
    unfold placeBad at h0
    simp only [h0]
    clear h0
    have H := Lib.hid h1
    clear h1
    go_wp2_with (first | (with_reducible refine lld hL ?_) | ((with_reducible first | refine lbx hL ?_ | refine lal hL ?_ | refine lbs hL ?_); clear hL; intro bl w1 hL) | ((with_reducible refine lst' hL ?_); clear hL; intro w1 hL))
    (try simp only [Exit.inBlock, Exit.then]); refine' ret1 rfl ?_ rfl ?_; (case refine'_2 => exact cRes)
    exact ⟨by rw [HF.out, if_pos H.out]; rfl, hL.below⟩
  | false =>
  have h0 := h1
  unfold placeBad at h0
  simp only [h0]
  clear h0
  have Hh1 := Lib.hid h1
  clear h1
  by_cases hv : (r.vars.n : Int) = p.vars
  case neg =>
    have hv2 : ((r.vars.n : Int) != p.vars) = true := by simp [hv]
    have H := Lib.hid hv2
    clear hv
    go_wp2_with (first | (with_reducible refine lld hL ?_) | ((with_reducible first | refine lbx hL ?_ | refine lal hL ?_ | refine lbs hL ?_); clear hL; intro bl w1 hL) | ((with_reducible refine lst' hL ?_); clear hL; intro w1 hL))
    (try simp only [Exit.inBlock, Exit.then]); refine' ret1 rfl ?_ rfl ?_; (case refine'_2 => exact cRes)
    exact ⟨by rw [HF.out, if_neg (by rw [Hh1.out]; decide), if_pos H.out]; rfl, hL.below⟩
  have hv2 : ((r.vars.n : Int) != p.vars) = false := by simp [hv]
  have Hhv := Lib.hid hv2
  clear hv
  by_cases ht : 100 < r.things.n
  · go_wp2_with (first | (with_reducible refine lld hL ?_) | ((with_reducible first | refine lbx hL ?_ | refine lal hL ?_ | refine lbs hL ?_); clear hL; intro bl w1 hL) | ((with_reducible refine lst' hL ?_); clear hL; intro w1 hL))
    (try simp only [Exit.inBlock, Exit.then]); refine' ret1 rfl ?_ rfl ?_; (case refine'_2 => exact cRes)
    exact ⟨by rw [HF.out, if_neg (by rw [Hh1.out]; decide), if_neg (by rw [Hhv.out]; decide), if_pos ht]; rfl, hL.below⟩
  go_upto_region 7 with (first | (with_reducible refine lld hL ?_) | ((with_reducible first | refine lbx hL ?_ | refine lal hL ?_ | refine lbs hL ?_); clear hL; intro bl w1 hL) | ((with_reducible refine lst' hL ?_); clear hL; intro w1 hL))
  have Ht := Lib.hid ht
  clear ht hv2
  have hcl := containsThings r.things.p r.things.n r.things.cap (fun k => (ths k).v) (fun k => !isSite p is (ths k).site) 44 (.pointer (some ⟨b2, 0, none⟩)) _ n2 (HR.out.things.grow hL.below) ⟨enter1, fun k _ w' hb => right1_any p is (ths k) b2 w' ((hL.readsAt (b := b2) (Tv := 24) (off := 0) (v := p.v) (by repeat (first | exact InL.head | apply InL.tail)) (Reads.agg tProg rfl rfl)).grow hb) ((HC.out.grow hL.below).grow hb)⟩
  rw [show anyN (fun k => !isSite p is (ths k).site) r.things.n = siteBad p is r ths from rfl] at hcl
  cases h4 : siteBad p is r ths with
  | true =>
    rw [h4] at hcl
    have HCL := Lib.hid hcl
    have H := Lib.hid h4
    clear hcl h4
    go_wp2_with (first | (with_reducible refine lld hL ?_) | ((with_reducible first | refine lbx hL ?_ | refine lal hL ?_ | refine lbs hL ?_); clear hL; intro bl w1 hL) | ((with_reducible refine lst' hL ?_); clear hL; intro w1 hL) | (go_at_call 43; ((with_reducible refine (HCL.out).mono ?_); rintro e w1 ⟨rfl, hb⟩; replace hL := hL.grow hb; clear hb; dsimp only)))
    (try simp only [Exit.inBlock, Exit.then]); refine' ret1 rfl ?_ rfl ?_; (case refine'_2 => exact cRes)
    exact ⟨by rw [HF.out, if_neg (by rw [Hh1.out]; decide), if_neg (by rw [Hhv.out]; decide), if_neg Ht.out, if_pos H.out]; rfl, hL.below⟩
  | false =>
  rw [h4] at hcl
  have HCL := Lib.hid hcl
  have Hh4 := Lib.hid h4
  clear hcl h4
  go_upto_region 9 with (first | (with_reducible refine lld hL ?_) | ((with_reducible first | refine lbx hL ?_ | refine lal hL ?_ | refine lbs hL ?_); clear hL; intro bl w1 hL) | ((with_reducible refine lst' hL ?_); clear hL; intro w1 hL) | (go_at_call 43; ((with_reducible refine (HCL.out).mono ?_); rintro e w1 ⟨rfl, hb⟩; replace hL := hL.grow hb; clear hb; dsimp only)))
  clear HCL
  have hcl := containsThings r.things.p r.things.n r.things.cap (fun k => (ths k).v) (fun k => ((ths k).fs.n : Int) != p.fields) 46 (.pointer (some ⟨b2, 0, none⟩)) _ n2 (HR.out.things.grow hL.below) ⟨enter2, fun k _ w' hb => right2_any p.fields (ths k) b2 w' ((hL.readsAt (b := b2) (Tv := 3) (off := 1) (v := .int .i64 p.fields) (by repeat (first | exact InL.head | apply InL.tail)) (Reads.cell tInt rfl)).grow hb)⟩
  rw [show anyN (fun k => ((ths k).fs.n : Int) != p.fields) r.things.n = lenBad p r ths from rfl] at hcl
  cases h5 : lenBad p r ths with
  | true =>
    rw [h5] at hcl
    have HCL := Lib.hid hcl
    have H := Lib.hid h5
    clear hcl h5
    go_wp2_with (first | (with_reducible refine lld hL ?_) | ((with_reducible first | refine lbx hL ?_ | refine lal hL ?_ | refine lbs hL ?_); clear hL; intro bl w1 hL) | ((with_reducible refine lst' hL ?_); clear hL; intro w1 hL) | (go_at_call 43; ((with_reducible refine (HCL.out).mono ?_); rintro e w1 ⟨rfl, hb⟩; replace hL := hL.grow hb; clear hb; dsimp only)))
    (try simp only [Exit.inBlock, Exit.then]); refine' ret1 rfl ?_ rfl ?_; (case refine'_2 => exact cRes)
    exact ⟨by rw [HF.out, if_neg (by rw [Hh1.out]; decide), if_neg (by rw [Hhv.out]; decide), if_neg Ht.out, if_neg (by rw [Hh4.out]; decide), if_pos H.out]; rfl, hL.below⟩
  | false =>
  rw [h5] at hcl
  have HCL := Lib.hid hcl
  have Hh5 := Lib.hid h5
  clear hcl h5
  go_upto_region 11 with (first | (with_reducible refine lld hL ?_) | ((with_reducible first | refine lbx hL ?_ | refine lal hL ?_ | refine lbs hL ?_); clear hL; intro bl w1 hL) | ((with_reducible refine lst' hL ?_); clear hL; intro w1 hL) | (go_at_call 43; ((with_reducible refine (HCL.out).mono ?_); rintro e w1 ⟨rfl, hb⟩; replace hL := hL.grow hb; clear hb; dsimp only)))
  clear HCL
  go_upto_region 12 with (first | (with_reducible refine lld hL ?_) | ((with_reducible first | refine lbx hL ?_ | refine lal hL ?_ | refine lbs hL ?_); clear hL; intro bl w1 hL) | ((with_reducible refine lst' hL ?_); clear hL; intro w1 hL))
  obtain ⟨b5, hb5⟩ : ∃ x, x = bl := ⟨_, rfl⟩
  subst hb5
  have hcv := containsValues r.vars.p r.vars.n r.vars.cap (fun k => (vs k).v) (fun k => !isValue (vs k) r.things.n) 47 (.pointer (some ⟨b3, 0, none⟩)) _ n1 (HR.out.vars.grow hL.below) (fn3 r.things b3 _ n2 (hL.readsAt (b := b3) (Tv := 30) (off := 2) (v := r.things.v) (by repeat (first | exact InL.head | apply InL.tail)) (Reads.cell tThings rfl)) r.vars.n vs)
  rw [show anyN (fun k => !isValue (vs k) r.things.n) r.vars.n = varBad r vs from rfl] at hcv
  have hct := fun w' (hb : Below _ _ w') => containsThings r.things.p r.things.n r.things.cap (fun k => (ths k).v) (fun k => anyN (fun j => !isValue (fv k j) r.things.n) (ths k).fs.n) 50 (.pointer (some ⟨b5, 0, none⟩)) w' n2 ((HR.out.things.grow hL.below).grow hb) ⟨enter4, fun k hk w2 hb2 => right4_any r.things (ths k) (fv k) b3 b5 w2 n2 (HR.out.fields k hk).1 (((hL.readsAt (b := b3) (Tv := 30) (off := 2) (v := r.things.v) (by repeat (first | exact InL.head | apply InL.tail)) (Reads.cell tThings rfl)).grow hb).grow hb2) (((hL.readsAt (b := b5) (Tv := 82) (off := 0) (v := .func (.func 47) #[] #[.pointer (some ⟨b3, 0, none⟩)]) (by repeat (first | exact InL.head | apply InL.tail)) (Reads.cell tFun rfl)).grow hb).grow hb2) ((((HR.out.fields k hk).2.grow hL.below).grow hb).grow hb2)⟩
  rw [show anyN (fun k => anyN (fun j => !isValue (fv k j) r.things.n) (ths k).fs.n) r.things.n = fieldBad r ths fv from rfl] at hct
  have HCT0 := Lib.hid hct
  clear hct
  cases hvb : varBad r vs with
  | true =>
    rw [hvb] at hcv
    have HCV := Lib.hid hcv
    have H := Lib.hid hvb
    clear hcv hvb
    go_wp2_with (first | (with_reducible refine lld hL ?_) | ((with_reducible first | refine lbx hL ?_ | refine lal hL ?_ | refine lbs hL ?_); clear hL; intro bl w1 hL) | ((with_reducible refine lst' hL ?_); clear hL; intro w1 hL) | (go_at_call 49; ((with_reducible refine (HCV.out).mono ?_); rintro e w4 ⟨rfl, hbv⟩; replace hL := hL.grow hbv; dsimp only)) | (go_at_call 43; ((with_reducible refine (HCT.out _ hbv).mono ?_); rintro e w1 ⟨rfl, hb⟩; replace hL := hL.grow hb; clear hb; dsimp only)))
    (try simp only [Exit.inBlock, Exit.then]); refine' ret1 rfl ?_ rfl ?_; (case refine'_2 => exact cRes)
    exact ⟨by rw [HF.out, if_neg (by rw [Hh1.out]; decide), if_neg (by rw [Hhv.out]; decide), if_neg Ht.out, if_neg (by rw [Hh4.out]; decide), if_neg (by rw [Hh5.out]; decide), if_pos H.out]; rfl, hL.below⟩
  | false =>
  rw [hvb] at hcv
  have HCV := Lib.hid hcv
  have Hhvb := Lib.hid hvb
  clear hcv hvb
  have hct := HCT0.out
  cases hfb : fieldBad r ths fv with
  | true =>
    rw [hfb] at hct
    have HCT := Lib.hid hct
    have H := Lib.hid hfb
    clear hct hfb
    go_wp2_with (first | (with_reducible refine lld hL ?_) | ((with_reducible first | refine lbx hL ?_ | refine lal hL ?_ | refine lbs hL ?_); clear hL; intro bl w1 hL) | ((with_reducible refine lst' hL ?_); clear hL; intro w1 hL) | (go_at_call 49; ((with_reducible refine (HCV.out).mono ?_); rintro e w4 ⟨rfl, hbv⟩; replace hL := hL.grow hbv; dsimp only)) | (go_at_call 43; ((with_reducible refine (HCT.out _ hbv).mono ?_); rintro e w1 ⟨rfl, hb⟩; replace hL := hL.grow hb; clear hb; dsimp only)))
    (try simp only [Exit.inBlock, Exit.then]); refine' ret1 rfl ?_ rfl ?_; (case refine'_2 => exact cRes)
    exact ⟨by rw [HF.out, if_neg (by rw [Hh1.out]; decide), if_neg (by rw [Hhv.out]; decide), if_neg Ht.out, if_neg (by rw [Hh4.out]; decide), if_neg (by rw [Hh5.out]; decide), if_neg (by rw [Hhvb.out]; decide), if_pos H.out]; rfl, hL.below⟩
  | false =>
    rw [hfb] at hct
    have HCT := Lib.hid hct
    have H := Lib.hid hfb
    clear hct hfb
    go_wp2_with (first | (with_reducible refine lld hL ?_) | ((with_reducible first | refine lbx hL ?_ | refine lal hL ?_ | refine lbs hL ?_); clear hL; intro bl w1 hL) | ((with_reducible refine lst' hL ?_); clear hL; intro w1 hL) | (go_at_call 49; ((with_reducible refine (HCV.out).mono ?_); rintro e w4 ⟨rfl, hbv⟩; replace hL := hL.grow hbv; dsimp only)) | (go_at_call 43; ((with_reducible refine (HCT.out _ hbv).mono ?_); rintro e w1 ⟨rfl, hb⟩; replace hL := hL.grow hb; clear hb; dsimp only)))
    (try simp only [Exit.inBlock, Exit.then]); refine' ret1 rfl ?_ rfl ?_; (case refine'_2 => exact cRes)
    exact ⟨by rw [HF.out, if_neg (by rw [Hh1.out]; decide), if_neg (by rw [Hhv.out]; decide), if_neg Ht.out, if_neg (by rw [Hh4.out]; decide), if_neg (by rw [Hh5.out]; decide), if_neg (by rw [Hhvb.out]; decide), if_neg (by rw [H.out]; decide)]; rfl, hL.below⟩
end Go.Proofs.YtmbiooaeglpaiaaGreat
set_option linter.unusedSimpArgs false
set_option linter.unusedVariables false
namespace Go.Proofs.YtmbiooaeglpaiaaGreat
open Go.RowKit

def checkRun (p : Pg) (is : Nat → Ins) (r : Rn) (vs : Nat → Vl) (ths : Nat → Th) (fv : Nat → Nat → Vl) : Int := if checkProg p is = 0 then rightRun p is r vs ths fv else checkProg p is

end Go.Proofs.YtmbiooaeglpaiaaGreat
set_option linter.unusedSimpArgs false
set_option linter.unusedVariables false
namespace Go.Proofs.YtmbiooaeglpaiaaGreat
open Go.RowKit

theorem neq_vl (a b : Vl) (w : World) : (binOp .neq 61 (.agg #[.int .i64 a.kind, .int .i64 a.n]) (.agg #[.int .i64 b.kind, .int .i64 b.n])).run Tryz.prog w = .ok (.bool (!(a.kind == b.kind && a.n == b.n))) w := by
  cases h1 : (a.kind == b.kind) <;> cases h2 : (a.n == b.n)
  all_goals
    go_simp
    try simp_all

set_option maxRecDepth 100000 in
theorem neq_guard (x y : Operand) (a b : Vl) (w : World) : (eqGuard .neq 61 x y (.agg #[.int .i64 a.kind, .int .i64 a.n]) (.agg #[.int .i64 b.kind, .int .i64 b.n])).run Tryz.prog w = .ok () w := by
  go_simp
theorem wp_neq_vl {ops : Array Oper} {Q : Exit → Act → World → Prop} {act : Act} {w : World} {rest : List Oper} {d : Option Tmp} {ty u : TypeId} {pos : String} {after : Array Edge} {x y : Operand} {a b : Vl} {r : Bool} (ha : act.eval x = a.v) (hb : act.eval y = b.v) (hr : (!(a.kind == b.kind && a.n == b.n)) = r)
    (h : wpList Tryz.prog ops Q rest (act.put d (.bool r)) w) : wpList Tryz.prog ops Q (⟨d, .binOp .neq 61 x y u, ty, pos, after, none⟩ :: rest) act w := by
  subst hr
  refine wp_bin (w' := w) ?_ ?_ h
  · rw [ha, hb]; exact neq_guard x y a b w
  · rw [ha, hb]; exact neq_vl a b w

/-- Are two lists of values the same? -/
def diffAt (x y : Nat → Vl) (k : Nat) : Bool := !((x k).kind == (y k).kind && (x k).n == (y k).n)
def sameVals (n m : Nat) (x y : Nat → Vl) : Bool := n == m && !(anyN (diffAt x y) n)
end Go.Proofs.YtmbiooaeglpaiaaGreat
set_option linter.unusedSimpArgs false
set_option linter.unusedVariables false
namespace Go.Proofs.YtmbiooaeglpaiaaGreat
open Go.RowKit

theorem ListC.cell {P : Program} {T : TypeId} {w : World} {es : Nat} {p : Option Addr} {n : Nat} {cells : Nat → List Value} (hT : CellT P T) (h : ListC w es p n cells) :
    ∃ b o : Nat, (0 < n → p = some ⟨b, o, none⟩) ∧ ∀ k, k < n → ∀ j v, (cells k)[j]? = some v → ReadsAt P T w b (o + k * es + j) v := by
  obtain ⟨b, o, h1, h2⟩ := h.ex
  exact ⟨b, o, h1, fun k hk j v hj => ReadsAt.cell hT (h2 k hk).1 ((h2 k hk).2 j v hj)⟩
/-- What a run's slices hold. -/
structure RunAt (w : World) (r : Rn) (vs : Nat → Vl) (ths : Nat → Th) (fv : Nat → Nat → Vl) (ls : Nat → ByteArray) : Prop where
  vars : ListC w 2 r.vars.p r.vars.n (fun k => (vs k).cells)
  things : ListC w 2 r.things.p r.things.n (fun k => [.int .i64 (ths k).site, .slice (ths k).fs.p (ths k).fs.n (ths k).fs.cap])
  fields : ∀ k, k < r.things.n → (ths k).fs.n ≤ 9223372036854775807 ∧ ListC w 2 (ths k).fs.p (ths k).fs.n (fun j => (fv k j).cells)
  lines : ListC w 1 r.lines.p r.lines.n (fun k => [.string (ls k)])
  n1 : r.vars.n ≤ 9223372036854775807
  n2 : r.things.n ≤ 9223372036854775807
  n3 : r.lines.n ≤ 9223372036854775807
theorem RunAt.grow {w w' : World} {r : Rn} {vs : Nat → Vl} {ths : Nat → Th} {fv : Nat → Nat → Vl} {ls : Nat → ByteArray} (h : RunAt w r vs ths fv ls) (hb : Below w.heap.size w w') : RunAt w' r vs ths fv ls :=
  ⟨h.vars.grow hb, h.things.grow hb, fun k hk => ⟨(h.fields k hk).1, (h.fields k hk).2.grow hb⟩, h.lines.grow hb, h.n1, h.n2, h.n3⟩
theorem RunAt.l {w : World} {r : Rn} {vs : Nat → Vl} {ths : Nat → Th} {fv : Nat → Nat → Vl} {ls : Nat → ByteArray} (h : RunAt w r vs ths fv ls) : RunL w r vs ths fv :=
  ⟨h.vars.agg tValue (fun _ => rfl), h.things.agg tThing (fun _ => rfl), fun k hk => ⟨(h.fields k hk).1, (h.fields k hk).2.agg tValue (fun _ => rfl)⟩, h.n1, h.n2⟩

def headDiff (a b : Rn) (va vb : Nat → Vl) : Bool := a.at' != b.at' || a.taken != b.taken || a.ending != b.ending || !sameVals a.vars.n b.vars.n va vb || (a.things.n : Int) != (b.things.n : Int) || (a.lines.n : Int) != (b.lines.n : Int)
def thingDiff (ta tb : Nat → Th) (fa fb : Nat → Nat → Vl) (k : Nat) : Bool := (ta k).site != (tb k).site || !sameVals (ta k).fs.n (tb k).fs.n (fa k) (fb k)
def lineDiff (la lb : Nat → ByteArray) (k : Nat) : Bool := !((la k).toList == (lb k).toList)
def sameRun (a b : Rn) (va vb : Nat → Vl) (ta tb : Nat → Th) (fa fb : Nat → Nat → Vl) (la lb : Nat → ByteArray) : Bool :=
  if headDiff a b va vb then false else if anyN (thingDiff ta tb fa fb) a.things.n then false else !anyN (lineDiff la lb) a.lines.n

end Go.Proofs.YtmbiooaeglpaiaaGreat
