/- The walks over slices.IndexFunc and slices.ContainsFunc of instructions. Conditions: the elements lie in memory that was there. -/
import Derived.Test.YtdghcnopoanieaaDoorVal
set_option linter.unusedSimpArgs false
set_option linter.unusedVariables false
namespace Go.Proofs.YtdghcnopoanieaaDoor
open Go.RowKit

set_option maxRecDepth 100000 in
set_option maxHeartbeats 1600000 in
theorem indexInstrs (p : Option Addr) (n cap : Nat) (f : Nat → Value) (q : Nat → Bool) (K : FuncId) (c : Value) (w : World) (hn : n ≤ 9223372036854775807) (hl : ListAt Tryd.prog 47 6 w p n f) (hf : FnAt Tryd.prog K c w n f q) :
    Calls Tryd.prog 51 #[.slice p n cap, .func (.func K) #[] #[c]] w fun e w' => ∃ r : Int, e = .returned (.int .i64 r) ∧ decide (0 ≤ r) = anyN q n ∧ Below w.heap.size w w' := by
  obtain ⟨b, o, hp, hc⟩ := hl.ex
  have HP := Lib.hid hp
  have HC := Lib.hid hc
  have HF := Lib.hid hf.run
  have he := hf.enter
  clear hp hc hl hf
  have hL := Loc.start w
  go_enter Tryd.func51, Tryd.ntmps51
  go_wp2
  go_loopw [8] (fun x wr => ∃ k : Nat, k ≤ n ∧ x = .int .i64 k ∧ (∀ j, j < k → q j = false) ∧ Loc w wr [] []) (fun x _ => n - (intOf x).toNat)
  case atStart => exact ⟨0, Nat.zero_le _, rfl, fun j hj => absurd hj (by omega), hL⟩
  case round =>
    obtain ⟨k, hk, rfl, hq, hL⟩ := hrel
    have HQ := Lib.hid hq
    clear hq
    by_cases hlt : k < n
    · have HPC := Lib.hid (HP.out (by omega))
      have HR := Lib.hid (HC.out k hlt)
      have HK := Lib.hid (HF.out k hlt)
      cases hqk : q k with
      | true =>
        have hk2 := HK.out
        rw [hqk] at hk2
        have HK2 := Lib.hid hk2
        have HA := Lib.hid (anyN_yes hlt hqk)
        clear hk2 hqk
        go_upto_region 4 with (fail)
        refine seq_begin [11, 12, 13, 14, 15, 16] ?_
        refine dv0 ?_
        refine dv0 ?_
        refine dv0 ?_
        apply draw_val
        · intro g w hb hdep; replace hL := hL.grow hb; have d1 := yv hdep 1; have d2 := yv hdep 2; clear hdep; simp only [fillD, fLa, fLb, sTa, sTb]; simp only [d1, d2]
          (simp only [HPC.out]; go_wp2)
          exact cY
        simp only [apN, apC]
        apply draw_val
        · intro g w hb hdep; replace hL := hL.grow hb; have d3 := yv hdep 3; clear hdep; simp only [fillD, fLa, fLb, sTa, sTb]; simp only [d3]
          refine loc_loadB HR.out hL rfl rfl ?_
          exact cY
        simp only [apN, apC]
        apply draw_val
        · intro g w hb hdep; replace hL := hL.grow hb; have d0 := yv hdep 0; have d4 := yv hdep 4; clear hdep; simp only [fillD, fLa, fLb, sTa, sTb]; simp only [d0, d4]
          go_wp2_with ((with_reducible refine (HK2.out _ hL.below).mono ?_); rintro e w3 ⟨rfl, hb3⟩; dsimp only)
          exact ⟨rfl, _, rfl, hb3, rfl⟩
        simp only [apN, apC]
        refine dns hL ?_
        clear hL; intro w2 hL; simp only [fillX, sTa, sTb]
        go_wp2
        go_ret
        exact ⟨_, rfl, by rw [HA.out]; simp, hL.below⟩
      | false =>
        have hk2 := HK.out
        rw [hqk] at hk2
        have HK2 := Lib.hid hk2
        have HA := Lib.hid hqk
        clear hk2 hqk
        go_upto_region 4 with (fail)
        refine seq_begin [11, 12, 13, 14, 15, 16] ?_
        refine dv0 ?_
        refine dv0 ?_
        refine dv0 ?_
        apply draw_val
        · intro g w hb hdep; replace hL := hL.grow hb; have d1 := yv hdep 1; have d2 := yv hdep 2; clear hdep; simp only [fillD, fLa, fLb, sTa, sTb]; simp only [d1, d2]
          (simp only [HPC.out]; go_wp2)
          exact cY
        simp only [apN, apC]
        apply draw_val
        · intro g w hb hdep; replace hL := hL.grow hb; have d3 := yv hdep 3; clear hdep; simp only [fillD, fLa, fLb, sTa, sTb]; simp only [d3]
          refine loc_loadB HR.out hL rfl rfl ?_
          exact cY
        simp only [apN, apC]
        apply draw_val
        · intro g w hb hdep; replace hL := hL.grow hb; have d0 := yv hdep 0; have d4 := yv hdep 4; clear hdep; simp only [fillD, fLa, fLb, sTa, sTb]; simp only [d0, d4]
          go_wp2_with ((with_reducible refine (HK2.out _ hL.below).mono ?_); rintro e w3 ⟨rfl, hb3⟩; dsimp only)
          exact ⟨rfl, _, rfl, hb3, rfl⟩
        simp only [apN, apC]
        refine dns hL ?_
        clear hL; intro w2 hL; simp only [fillX, sTa, sTb]
        go_wp2
        go_roundw
        case rel =>
          refine ⟨k + 1, by omega, by go_num, fun j hj => ?_, hL⟩
          rcases Nat.lt_or_ge j k with h | h
          · exact HQ.out j h
          · obtain rfl : j = k := by omega
            exact HA.out
        case measure => simp [intOf]; omega
    · obtain rfl : k = n := by omega
      go_wp2
      go_ret
      exact ⟨_, rfl, by rw [anyN_no HQ.out]; rfl, hL.below⟩

set_option maxRecDepth 100000 in
set_option maxHeartbeats 1600000 in
theorem containsInstrs (p : Option Addr) (n cap : Nat) (f : Nat → Value) (q : Nat → Bool) (K : FuncId) (c : Value) (w : World) (hn : n ≤ 9223372036854775807) (hl : ListAt Tryd.prog 47 6 w p n f) (hf : FnAt Tryd.prog K c w n f q) :
    Calls Tryd.prog 30 #[.slice p n cap, .func (.func K) #[] #[c]] w fun e w' => e = .returned (.bool (anyN q n)) ∧ Below w.heap.size w w' := by
  have HI := Lib.hid (indexInstrs p n cap f q K c w hn hl hf)
  clear hl hf
  go_enter Tryd.func30, Tryd.ntmps30
  go_wp2_with (go_at_call 51; refine HI.out.mono ?_; rintro e w1 ⟨r, rfl, hr, hb⟩; dsimp only)
  go_ret
  exact ⟨by rw [← hr]; rfl, hb⟩
end Go.Proofs.YtdghcnopoanieaaDoor
