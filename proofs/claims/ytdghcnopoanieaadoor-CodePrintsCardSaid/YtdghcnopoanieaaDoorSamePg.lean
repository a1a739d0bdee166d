/- The walk over the reference's SameProgram, of two programs that are the same. Conditions: their instructions lie in memory that was there. -/
import Derived.Test.YtdghcnopoanieaaDoorParseD
set_option linter.unusedSimpArgs false
set_option linter.unusedVariables false
namespace Go.Proofs.YtdghcnopoanieaaDoor
open Go.RowKit

set_option maxRecDepth 100000 in
set_option maxHeartbeats 1600000 in
theorem samePg_any (v f : Int) (n : Nat) (pc qc : Option Addr) (pa qa : Nat) (is : Nat → Ins) (w : World) (hm : n ≤ 9223372036854775807) (hp : CodeAt w ⟨v, f, pc, n, pa⟩ is) (hq : CodeAt w ⟨v, f, qc, n, qa⟩ is) :
    Calls Tryd.prog 9 #[Pg.v ⟨v, f, pc, n, pa⟩, Pg.v ⟨v, f, qc, n, qa⟩] w fun e w' => e = .returned (.bool true) ∧ Below w.heap.size w w' := by
  obtain ⟨b1, o1, hpc, hc1⟩ := hp.reads
  obtain ⟨b2, o2, hqc, hc2⟩ := hq.reads
  dsimp only at hpc hqc hc1 hc2
  have HP := Lib.hid hpc
  have HQ := Lib.hid hqc
  have HC1 := Lib.hid hc1
  have HC2 := Lib.hid hc2
  clear hp hq hpc hqc hc1 hc2
  have hL := Loc.start w
  go_enter Tryd.func9, Tryd.ntmps9
  go_step
  go_step
  go_step
  ((with_reducible refine lbx hL ?_); clear hL; intro bx w1 hL)
  ((with_reducible refine lbx hL ?_); clear hL; intro bq w1 hL)
  go_wp2_with (first | (with_reducible first | refine lld hL ?_ | ((first | refine lbx hL ?_ | refine lal hL ?_ | refine lbs hL ?_); clear hL; intro bl w1 hL) | (refine lst' hL ?_; clear hL; intro w1 hL)))
  go_loopw [5] (fun c wr => ∃ k : Nat, k ≤ n ∧ c = .int .i64 k ∧ Loc w wr [(bq, 24, [.int .i64 v, .int .i64 f, .slice qc n qa]), (bx, 24, [.int .i64 v, .int .i64 f, .slice pc n pa])] []) (fun c _ => n - (intOf c).toNat)
  case atStart => exact ⟨0, Nat.zero_le _, rfl, hL⟩
  case round =>
    clear hL
    obtain ⟨k, hk, rfl, hL⟩ := hrel
    by_cases hlt : k < n
    · have HPC := Lib.hid (HP.out (by omega))
      have HQC := Lib.hid (HQ.out (by omega))
      have HR1 := Lib.hid (HC1.out k hlt)
      have HR2 := Lib.hid (HC2.out k hlt)
      generalize is k = i at HR1 HR2
      obtain ⟨ik, it, ia, ib, iN, ig⟩ := i
      go_upto_region 6 with (first | (with_reducible first | refine lld hL ?_ | ((first | refine lbx hL ?_ | refine lal hL ?_ | refine lbs hL ?_); clear hL; intro bl w1 hL) | (refine lst' hL ?_; clear hL; intro w1 hL)))
      refine draw_begin [34, 35, 36, 37, 38, 39, 40, 41, 42, 43, 44] ?_
      refine dv0 ?_
      refine dv1 0 ?_
      refine dv0 ?_
      apply draw_val
      · intro g w hb hdep; replace hL := hL.grow hb; have d1 := yv hdep 1; have d2 := yv hdep 2; clear hdep; simp only [fillD, fLa, fLb, sTa, sTb]; simp only [d1, d2]
        (simp only [HPC.out]; go_wp2)
        exact cY
      simp only [apN, apC]
      apply draw_val
      · intro g w hb hdep; replace hL := hL.grow hb; have d3 := yv hdep 3; clear hdep; simp only [fillD, fLa, fLb, sTa, sTb]; simp only [d3]
        refine loc_loadB HR1.out hL rfl rfl ?_
        exact cY
      simp only [apN, apC]
      refine dv0 ?_
      refine dv1 5 ?_
      refine dv0 ?_
      apply draw_val
      · intro g w hb hdep; replace hL := hL.grow hb; have d6 := yv hdep 6; have d7 := yv hdep 7; clear hdep; simp only [fillD, fLa, fLb, sTa, sTb]; simp only [d6, d7]
        (simp only [HQC.out]; go_wp2)
        exact cY
      simp only [apN, apC]
      apply draw_val
      · intro g w hb hdep; replace hL := hL.grow hb; have d8 := yv hdep 8; clear hdep; simp only [fillD, fLa, fLb, sTa, sTb]; simp only [d8]
        refine loc_loadB HR2.out hL rfl rfl ?_
        exact cY
      simp only [apN, apC]
      refine dv2 4 9 ?_
      refine dnd hL ?_
      clear hL; intro w2 hL; simp only [fillX, sTa, sTb]
      go_wp2_with (first | (with_reducible first | refine lld hL ?_ | ((first | refine lbx hL ?_ | refine lal hL ?_ | refine lbs hL ?_); clear hL; intro bl w1 hL) | (refine lst' hL ?_; clear hL; intro w1 hL)))
      go_roundw
      case rel => exact ⟨k + 1, by omega, by go_num, hL⟩
      case measure => simp [intOf]; omega
    · obtain rfl : k = n := by omega
      go_wp2_with (first | (with_reducible first | refine lld hL ?_ | ((first | refine lbx hL ?_ | refine lal hL ?_ | refine lbs hL ?_); clear hL; intro bl w1 hL) | (refine lst' hL ?_; clear hL; intro w1 hL)))
      (try simp only [Exit.inBlock, Exit.then]); refine rt1 ?_
      exact ⟨rfl, hL.below⟩
end Go.Proofs.YtdghcnopoanieaaDoor
