/- Sites: where things are made. Conditions: the instructions lie in memory that was there. | The types' sizes, behind the programs. Conditions: none. | The walks over small functions of runs: values, sites. Conditions: none. | The walks over slices.IndexFunc and slices.ContainsFunc, whatever the function does, if it leaves what was there as it was. Conditions: the elements lie in memory that was there. | The walks over the functions that run.Right hands on. Conditions: what they read lies in memory that was there. -/
import Derived.Test.YtmbiooaeglpaiaaGreatCod
import Derived.Test.YtmbiooaeglpaiaaGreatCop
import Derived.Test.YtmbiooaeglpaiaaGreatPrg
set_option linter.unusedSimpArgs false
set_option linter.unusedVariables false
namespace Go.Proofs.YtmbiooaeglpaiaaGreat
open Go.RowKit

def isSite (p : Pg) (is : Nat → Ins) (at' : Int) : Bool := decide (0 ≤ at') && (decide (at' < p.n) && (is at'.toNat).kind == 11)

theorem site_cases (p : Pg) (is : Nat → Ins) (a : Int) : a < 0 ∨ (0 ≤ a ∧ (p.n : Int) ≤ a) ∨ ∃ k : Nat, a = k ∧ k < p.n := by
  rcases (by omega : a < 0 ∨ 0 ≤ a) with h | h
  · exact .inl h
  · rcases (by omega : a < p.n ∨ (p.n : Int) ≤ a) with h2 | h2
    · exact .inr (.inr ⟨a.toNat, by omega, by omega⟩)
    · exact .inr (.inl ⟨h, h2⟩)
set_option maxRecDepth 100000 in
set_option maxHeartbeats 1600000 in
theorem isSite_any (p : Pg) (is : Nat → Ins) (a : Int) (w : World) (hc : CodeAt w p is) :
    Calls Tryz.prog 45 #[p.v, .int .i64 a] w fun e w' => e = .returned (.bool (isSite p is a)) ∧ Below w.heap.size w w' := by
  obtain ⟨b, o, hp, hc⟩ := hc.kinds
  have HP := Lib.hid hp
  have HC := Lib.hid hc
  clear hp hc
  have hL := Loc.start w
  rcases site_cases p is a with h | ⟨h, h2⟩ | ⟨k, rfl, hk⟩
  · go_enter Tryz.func45, Tryz.ntmps45
    go_wp2_with (first | (with_reducible refine lld hL ?_) | ((with_reducible first | refine lbx hL ?_ | refine lal hL ?_ | refine lbs hL ?_); clear hL; intro bl w1 hL) | ((with_reducible refine lst' hL ?_); clear hL; intro w1 hL))
    (try simp only [Exit.inBlock, Exit.then]); refine' ret1 rfl ?_ rfl ?_; (case refine'_2 => exact cRes)
    exact ⟨by simp [isSite]; omega, hL.below⟩
  · go_enter Tryz.func45, Tryz.ntmps45
    go_wp2_with (first | (with_reducible refine lld hL ?_) | ((with_reducible first | refine lbx hL ?_ | refine lal hL ?_ | refine lbs hL ?_); clear hL; intro bl w1 hL) | ((with_reducible refine lst' hL ?_); clear hL; intro w1 hL))
    (try simp only [Exit.inBlock, Exit.then]); refine' ret1 rfl ?_ rfl ?_; (case refine'_2 => exact cRes)
    exact ⟨by simp [isSite]; omega, hL.below⟩
  · have HPC := Lib.hid (HP.out (by omega))
    have HR := Lib.hid (HC.out k hk)
    obtain ⟨vars, fields, pc, n, cap⟩ := p
    obtain rfl := HPC.out
    go_enter Tryz.func45, Tryz.ntmps45
    go_wp2_with (first | (with_reducible refine lld hL ?_) | ((with_reducible first | refine lbx hL ?_ | refine lal hL ?_ | refine lbs hL ?_); clear hL; intro bl w1 hL) | ((with_reducible refine lst' hL ?_); clear hL; intro w1 hL) | (refine loc_loadB HR.out hL (by exact cWant) rfl ?_))
    (try simp only [Exit.inBlock, Exit.then]); refine' ret1 rfl ?_ rfl ?_; (case refine'_2 => exact cRes)
    exact ⟨by simp [isSite, hk], hL.below⟩
set_option maxRecDepth 100000 in
set_option maxHeartbeats 1600000 in
theorem rIsSite_any (p : Pg) (is : Nat → Ins) (a : Int) (w : World) (hn : p.n ≤ 9223372036854775807) (hc : CodeAt w p is) :
    Calls Tryz.prog 25 #[p.v, .int .i64 a] w fun e w' => e = .returned (.bool (isSite p is a)) ∧ Below w.heap.size w w' := by
  obtain ⟨b, o, hp, hc⟩ := hc.kinds
  have HP := Lib.hid hp
  have HC := Lib.hid hc
  clear hp hc
  have hL := Loc.start w
  rcases site_cases p is a with h | ⟨h, h2⟩ | ⟨k, rfl, hk⟩
  · have hb : betw a 0 (p.n - 1) = false := by simp [betw]; omega
    have HB := Lib.hid (fun w => (by have h := between_any a 0 (p.n - 1) w; rw [hb] at h; exact h : Calls Tryz.prog 24 #[.int .i64 a, .int .i64 0, .int .i64 (p.n - 1)] w fun e w' => e = .returned (.bool false) ∧ w = w'))
    clear hb
    go_enter Tryz.func25, Tryz.ntmps25
    go_wp2_with (first | (with_reducible refine lld hL ?_) | ((with_reducible first | refine lbx hL ?_ | refine lal hL ?_ | refine lbs hL ?_); clear hL; intro bl w1 hL) | ((with_reducible refine lst' hL ?_); clear hL; intro w1 hL) | (go_at_call 24; refine (HB.out _).mono ?_; rintro e w' ⟨rfl, rfl⟩; dsimp only))
    (try simp only [Exit.inBlock, Exit.then]); refine' ret1 rfl ?_ rfl ?_; (case refine'_2 => exact cRes)
    exact ⟨by simp [isSite]; omega, hL.below⟩
  · have hb : betw a 0 (p.n - 1) = false := by simp [betw]; omega
    have HB := Lib.hid (fun w => (by have h := between_any a 0 (p.n - 1) w; rw [hb] at h; exact h : Calls Tryz.prog 24 #[.int .i64 a, .int .i64 0, .int .i64 (p.n - 1)] w fun e w' => e = .returned (.bool false) ∧ w = w'))
    clear hb
    go_enter Tryz.func25, Tryz.ntmps25
    go_wp2_with (first | (with_reducible refine lld hL ?_) | ((with_reducible first | refine lbx hL ?_ | refine lal hL ?_ | refine lbs hL ?_); clear hL; intro bl w1 hL) | ((with_reducible refine lst' hL ?_); clear hL; intro w1 hL) | (go_at_call 24; refine (HB.out _).mono ?_; rintro e w' ⟨rfl, rfl⟩; dsimp only))
    (try simp only [Exit.inBlock, Exit.then]); refine' ret1 rfl ?_ rfl ?_; (case refine'_2 => exact cRes)
    exact ⟨by simp [isSite]; omega, hL.below⟩
  · have HPC := Lib.hid (HP.out (by omega))
    have HR := Lib.hid (HC.out k hk)
    have hb : betw (k : Int) 0 (p.n - 1) = true := by simp [betw]; omega
    have HB := Lib.hid (fun w => (by have h := between_any (k : Int) 0 (p.n - 1) w; rw [hb] at h; exact h : Calls Tryz.prog 24 #[.int .i64 (k : Int), .int .i64 0, .int .i64 (p.n - 1)] w fun e w' => e = .returned (.bool true) ∧ w = w'))
    clear hb
    obtain ⟨vars, fields, pc, n, cap⟩ := p
    dsimp only at HB hk hn
    obtain rfl := HPC.out
    go_enter Tryz.func25, Tryz.ntmps25
    go_wp2_with (first | (with_reducible refine lld hL ?_) | ((with_reducible first | refine lbx hL ?_ | refine lal hL ?_ | refine lbs hL ?_); clear hL; intro bl w1 hL) | ((with_reducible refine lst' hL ?_); clear hL; intro w1 hL) | (go_at_call 24; refine (HB.out _).mono ?_; rintro e w' ⟨rfl, rfl⟩; dsimp only) | (refine loc_loadB HR.out hL (by exact cWant) rfl ?_))
    (try simp only [Exit.inBlock, Exit.then]); refine' ret1 rfl ?_ rfl ?_; (case refine'_2 => exact cRes)
    exact ⟨by simp [isSite, hk], hL.below⟩

end Go.Proofs.YtmbiooaeglpaiaaGreat
set_option linter.unusedSimpArgs false
set_option linter.unusedVariables false
namespace Go.Proofs.YtmbiooaeglpaiaaGreat
open Go.RowKit

def isValue (v : Vl) (things : Int) : Bool := if v.kind = 0 then v.n == 0 else if v.kind = 1 then betw v.n (-2147483648) 2147483647 else if v.kind = 2 then betw v.n 0 1 else if v.kind = 3 then betw v.n 0 (things - 1) else false
def countsV (v : Vl) : Bool := v.kind == 3 || (v.kind != 0 && v.n != 0)
def countsR (v : Vl) : Bool := v.kind == 3 || (v.kind == 1 || v.kind == 2) && v.n != 0

set_option maxRecDepth 100000 in
set_option maxHeartbeats 1600000 in
theorem rIsValue_any (v : Vl) (t : Int) (h1 : 0 ≤ t) (h2 : t ≤ 9223372036854775807) (w : World) :
    Calls Tryz.prog 26 #[v.v, .int .i64 t] w fun e w' => e = .returned (.bool (isValue v t)) ∧ Below w.heap.size w w' := by
  have hL := Loc.start w
  go_enter Tryz.func26, Tryz.ntmps26
  go_wp2_with (first | (with_reducible refine lld hL ?_) | ((with_reducible first | refine lbx hL ?_ | refine lal hL ?_ | refine lbs hL ?_); clear hL; intro bl w1 hL) | ((with_reducible refine lst' hL ?_); clear hL; intro w1 hL) | (go_at_call 24; refine (between_any _ _ _ _).mono ?_; rintro e w' ⟨rfl, rfl⟩; dsimp only))
  all_goals
    (try simp only [Exit.inBlock, Exit.then]); refine' ret1 rfl ?_ rfl ?_; (case refine'_2 => exact cRes)
    exact ⟨by simp_all [isValue], hL.below⟩

set_option maxRecDepth 100000 in
set_option maxHeartbeats 1600000 in
theorem value_any (v : Vl) (t : Int) (h1 : 0 ≤ t) (h2 : t ≤ 9223372036854775807) (w : World) :
    Calls Tryz.prog 48 #[v.v, .int .i64 t] w fun e w' => e = .returned (.bool (isValue v t)) ∧ Below w.heap.size w w' := by
  obtain ⟨k, n⟩ := v
  have hcase : k = 0 ∨ (k = 1 ∧ -2147483648 ≤ n) ∨ (k = 1 ∧ n < -2147483648) ∨ (k = 2 ∧ n = 0) ∨ (k = 2 ∧ (n == 0) = false) ∨ (k = 3 ∧ 0 ≤ n) ∨ (k = 3 ∧ n < 0) ∨ ((k == 0) = false ∧ (k == 1) = false ∧ (k == 2) = false ∧ (k == 3) = false) := by simp only [beq_eq_false_iff_ne]; omega
  have hL := Loc.start w
  rcases hcase with rfl | ⟨rfl, hn⟩ | ⟨rfl, hn⟩ | ⟨rfl, rfl⟩ | ⟨rfl, hn⟩ | ⟨rfl, hn⟩ | ⟨rfl, hn⟩ | ⟨g0, g1, g2, g3⟩
  all_goals
    go_enter Tryz.func48, Tryz.ntmps48
    go_wp2_with (first | (with_reducible refine lld hL ?_) | ((with_reducible first | refine lbx hL ?_ | refine lal hL ?_ | refine lbs hL ?_); clear hL; intro bl w1 hL) | ((with_reducible refine lst' hL ?_); clear hL; intro w1 hL))
    (try simp only [Exit.inBlock, Exit.then]); refine' ret1 rfl ?_ rfl ?_; (case refine'_2 => exact cRes)
    refine ⟨?_, hL.below⟩
    first | (simp_all [isValue, betw]; done) | (simp_all [isValue, betw]; omega) | (simp_all [isValue, betw]; rw [Bool.eq_iff_iff]; simp; omega)

theorem counts_cases (k n : Int) : k = 3 ∨ k = 0 ∨ k = 1 ∨ k = 2 ∨ ((k == 3) = false ∧ (k == 0) = false ∧ (k != 0) = true ∧ (k == 1) = false ∧ (k == 2) = false) := by simp only [beq_eq_false_iff_ne, bne_iff_ne]; omega
def truthV (b : Bool) : Vl := ⟨2, if b then 1 else 0⟩
end Go.Proofs.YtmbiooaeglpaiaaGreat
set_option linter.unusedSimpArgs false
set_option linter.unusedVariables false
namespace Go.Proofs.YtmbiooaeglpaiaaGreat
open Go.RowKit


set_option maxRecDepth 100000 in
set_option maxHeartbeats 1600000 in
theorem indexThings (p : Option Addr) (n cap : Nat) (f : Nat → Value) (q : Nat → Bool) (K : FuncId) (c : Value) (w : World) (hn : n ≤ 9223372036854775807) (hl : ListAt Tryz.prog 58 2 w p n f) (hf : FnAt Tryz.prog K c w n f q) :
    Calls Tryz.prog 89 #[.slice p n cap, .func (.func K) #[] #[c]] w fun e w' => ∃ r : Int, e = .returned (.int .i64 r) ∧ decide (0 ≤ r) = anyN q n ∧ Below w.heap.size w w' := by
  obtain ⟨b, o, hp, hc⟩ := hl.ex
  have HP := Lib.hid hp
  have HC := Lib.hid hc
  have HF := Lib.hid hf.run
  have he := hf.enter
  clear hp hc hl hf
  have hL := Loc.start w
  go_enter Tryz.func89, Tryz.ntmps89
  go_wp2
  go_loopw [8] (fun x wr => ∃ k : Nat, k ≤ n ∧ x = .int .i64 k ∧ (∀ j, j < k → q j = false) ∧ Loc w wr [] []) (fun x _ => n - (intOf x).toNat)
  case atStart => exact ⟨0, Nat.zero_le _, rfl, fun j hj => absurd hj (by omega), hL⟩
  case round =>
    obtain ⟨k, hk, rfl, hq, hL⟩ := hrel
    have HQ := Lib.hid hq
    clear hq
    by_cases hlt : k < n
    · have HPC := Lib.hid (HP.out (by omega))
      have HR := Lib.hid (HC.out k hlt)
      have HK := Lib.hid (HF.out k hlt)
      cases hqk : q k with
      | true =>
        have hk2 := HK.out
        rw [hqk] at hk2
        have HK2 := Lib.hid hk2
        have HA := Lib.hid (anyN_yes hlt hqk)
        clear hk2 hqk
        go_upto_region 4 with (fail)
        refine seq_begin [11, 12, 13, 14, 15, 16] ?_
        apply draw_val
        · intro g w hb hdep; replace hL := hL.grow hb; clear hdep; simp only [fillD, fLa, fLb, sTa, sTb]
          go_wp2
          exact cY
        simp only [apN, apC]
        apply draw_val
        · intro g w hb hdep; replace hL := hL.grow hb; clear hdep; simp only [fillD, fLa, fLb, sTa, sTb]
          go_wp2
          exact cY
        simp only [apN, apC]
        apply draw_val
        · intro g w hb hdep; replace hL := hL.grow hb; clear hdep; simp only [fillD, fLa, fLb, sTa, sTb]
          go_wp2
          exact cY
        simp only [apN, apC]
        apply draw_val
        · intro g w hb hdep; replace hL := hL.grow hb; have d1 := yv hdep 1; have d2 := yv hdep 2; clear hdep; simp only [fillD, fLa, fLb, sTa, sTb]; simp only [d1, d2]
          (simp only [HPC.out]; go_wp2)
          exact cY
        simp only [apN, apC]
        apply draw_val
        · intro g w hb hdep; replace hL := hL.grow hb; have d3 := yv hdep 3; clear hdep; simp only [fillD, fLa, fLb, sTa, sTb]; simp only [d3]
          refine loc_loadB HR.out hL rfl rfl ?_
          exact cY
        simp only [apN, apC]
        apply draw_val
        · intro g w hb hdep; replace hL := hL.grow hb; have d0 := yv hdep 0; have d4 := yv hdep 4; clear hdep; simp only [fillD, fLa, fLb, sTa, sTb]; simp only [d0, d4]
          go_wp2_with ((with_reducible refine (HK2.out _ hL.below).mono ?_); rintro e w3 ⟨rfl, hb3⟩; dsimp only)
          exact ⟨rfl, _, rfl, hb3, rfl⟩
        simp only [apN, apC]
        refine seq_end hL (by kernel_rfl) ?_
        intro g w2 hb hR; simp only [List.length_cons, List.length_nil, Nat.reduceAdd] at hR
        have e0 := yv hR 0
        have e1 := yv hR 1
        have e2 := yv hR 2
        have e3 := yv hR 3
        have e4 := yv hR 4
        have e5 := yv hR 5
        clear hR; simp only [fillD, fLa, fLb, sTa, sTb]
        simp only [e0, e1, e2, e3, e4, e5]
        clear e0 e1 e2 e3 e4 e5
        replace hL := hL.grow hb
        clear hb
        go_wp2
        go_ret
        exact ⟨_, rfl, by rw [HA.out]; simp, hL.below⟩
      | false =>
        have hk2 := HK.out
        rw [hqk] at hk2
        have HK2 := Lib.hid hk2
        have HA := Lib.hid hqk
        clear hk2 hqk
        go_upto_region 4 with (fail)
        refine seq_begin [11, 12, 13, 14, 15, 16] ?_
        apply draw_val
        · intro g w hb hdep; replace hL := hL.grow hb; clear hdep; simp only [fillD, fLa, fLb, sTa, sTb]
          go_wp2
          exact cY
        simp only [apN, apC]
        apply draw_val
        · intro g w hb hdep; replace hL := hL.grow hb; clear hdep; simp only [fillD, fLa, fLb, sTa, sTb]
          go_wp2
          exact cY
        simp only [apN, apC]
        apply draw_val
        · intro g w hb hdep; replace hL := hL.grow hb; clear hdep; simp only [fillD, fLa, fLb, sTa, sTb]
          go_wp2
          exact cY
        simp only [apN, apC]
        apply draw_val
        · intro g w hb hdep; replace hL := hL.grow hb; have d1 := yv hdep 1; have d2 := yv hdep 2; clear hdep; simp only [fillD, fLa, fLb, sTa, sTb]; simp only [d1, d2]
          (simp only [HPC.out]; go_wp2)
          exact cY
        simp only [apN, apC]
        apply draw_val
        · intro g w hb hdep; replace hL := hL.grow hb; have d3 := yv hdep 3; clear hdep; simp only [fillD, fLa, fLb, sTa, sTb]; simp only [d3]
          refine loc_loadB HR.out hL rfl rfl ?_
          exact cY
        simp only [apN, apC]
        apply draw_val
        · intro g w hb hdep; replace hL := hL.grow hb; have d0 := yv hdep 0; have d4 := yv hdep 4; clear hdep; simp only [fillD, fLa, fLb, sTa, sTb]; simp only [d0, d4]
          go_wp2_with ((with_reducible refine (HK2.out _ hL.below).mono ?_); rintro e w3 ⟨rfl, hb3⟩; dsimp only)
          exact ⟨rfl, _, rfl, hb3, rfl⟩
        simp only [apN, apC]
        refine seq_end hL (by kernel_rfl) ?_
        intro g w2 hb hR; simp only [List.length_cons, List.length_nil, Nat.reduceAdd] at hR
        have e0 := yv hR 0
        have e1 := yv hR 1
        have e2 := yv hR 2
        have e3 := yv hR 3
        have e4 := yv hR 4
        have e5 := yv hR 5
        clear hR; simp only [fillD, fLa, fLb, sTa, sTb]
        simp only [e0, e1, e2, e3, e4, e5]
        clear e0 e1 e2 e3 e4 e5
        replace hL := hL.grow hb
        clear hb
        go_wp2
        go_roundw
        case rel =>
          refine ⟨k + 1, by omega, by go_num, fun j hj => ?_, hL⟩
          rcases Nat.lt_or_ge j k with h | h
          · exact HQ.out j h
          · obtain rfl : j = k := by omega
            exact HA.out
        case measure => simp [intOf]; omega
    · obtain rfl : k = n := by omega
      go_wp2
      go_ret
      exact ⟨_, rfl, by rw [anyN_no HQ.out]; rfl, hL.below⟩

set_option maxRecDepth 100000 in
set_option maxHeartbeats 1600000 in
theorem containsThings (p : Option Addr) (n cap : Nat) (f : Nat → Value) (q : Nat → Bool) (K : FuncId) (c : Value) (w : World) (hn : n ≤ 9223372036854775807) (hl : ListAt Tryz.prog 58 2 w p n f) (hf : FnAt Tryz.prog K c w n f q) :
    Calls Tryz.prog 43 #[.slice p n cap, .func (.func K) #[] #[c]] w fun e w' => e = .returned (.bool (anyN q n)) ∧ Below w.heap.size w w' := by
  have HI := Lib.hid (indexThings p n cap f q K c w hn hl hf)
  clear hl hf
  go_enter Tryz.func43, Tryz.ntmps43
  go_wp2_with (go_at_call 89; refine HI.out.mono ?_; rintro e w1 ⟨r, rfl, hr, hb⟩; dsimp only)
  go_ret
  exact ⟨by rw [← hr]; rfl, hb⟩

set_option maxRecDepth 100000 in
set_option maxHeartbeats 1600000 in
theorem indexValues (p : Option Addr) (n cap : Nat) (f : Nat → Value) (q : Nat → Bool) (K : FuncId) (c : Value) (w : World) (hn : n ≤ 9223372036854775807) (hl : ListAt Tryz.prog 61 2 w p n f) (hf : FnAt Tryz.prog K c w n f q) :
    Calls Tryz.prog 90 #[.slice p n cap, .func (.func K) #[] #[c]] w fun e w' => ∃ r : Int, e = .returned (.int .i64 r) ∧ decide (0 ≤ r) = anyN q n ∧ Below w.heap.size w w' := by
  obtain ⟨b, o, hp, hc⟩ := hl.ex
  have HP := Lib.hid hp
  have HC := Lib.hid hc
  have HF := Lib.hid hf.run
  have he := hf.enter
  clear hp hc hl hf
  have hL := Loc.start w
  go_enter Tryz.func90, Tryz.ntmps90
  go_wp2
  go_loopw [8] (fun x wr => ∃ k : Nat, k ≤ n ∧ x = .int .i64 k ∧ (∀ j, j < k → q j = false) ∧ Loc w wr [] []) (fun x _ => n - (intOf x).toNat)
  case atStart => exact ⟨0, Nat.zero_le _, rfl, fun j hj => absurd hj (by omega), hL⟩
  case round =>
    obtain ⟨k, hk, rfl, hq, hL⟩ := hrel
    have HQ := Lib.hid hq
    clear hq
    by_cases hlt : k < n
    · have HPC := Lib.hid (HP.out (by omega))
      have HR := Lib.hid (HC.out k hlt)
      have HK := Lib.hid (HF.out k hlt)
      cases hqk : q k with
      | true =>
        have hk2 := HK.out
        rw [hqk] at hk2
        have HK2 := Lib.hid hk2
        have HA := Lib.hid (anyN_yes hlt hqk)
        clear hk2 hqk
        go_upto_region 4 with (fail)
        refine seq_begin [11, 12, 13, 14, 15, 16] ?_
        apply draw_val
        · intro g w hb hdep; replace hL := hL.grow hb; clear hdep; simp only [fillD, fLa, fLb, sTa, sTb]
          go_wp2
          exact cY
        simp only [apN, apC]
        apply draw_val
        · intro g w hb hdep; replace hL := hL.grow hb; clear hdep; simp only [fillD, fLa, fLb, sTa, sTb]
          go_wp2
          exact cY
        simp only [apN, apC]
        apply draw_val
        · intro g w hb hdep; replace hL := hL.grow hb; clear hdep; simp only [fillD, fLa, fLb, sTa, sTb]
          go_wp2
          exact cY
        simp only [apN, apC]
        apply draw_val
        · intro g w hb hdep; replace hL := hL.grow hb; have d1 := yv hdep 1; have d2 := yv hdep 2; clear hdep; simp only [fillD, fLa, fLb, sTa, sTb]; simp only [d1, d2]
          (simp only [HPC.out]; go_wp2)
          exact cY
        simp only [apN, apC]
        apply draw_val
        · intro g w hb hdep; replace hL := hL.grow hb; have d3 := yv hdep 3; clear hdep; simp only [fillD, fLa, fLb, sTa, sTb]; simp only [d3]
          refine loc_loadB HR.out hL rfl rfl ?_
          exact cY
        simp only [apN, apC]
        apply draw_val
        · intro g w hb hdep; replace hL := hL.grow hb; have d0 := yv hdep 0; have d4 := yv hdep 4; clear hdep; simp only [fillD, fLa, fLb, sTa, sTb]; simp only [d0, d4]
          go_wp2_with ((with_reducible refine (HK2.out _ hL.below).mono ?_); rintro e w3 ⟨rfl, hb3⟩; dsimp only)
          exact ⟨rfl, _, rfl, hb3, rfl⟩
        simp only [apN, apC]
        refine seq_end hL (by kernel_rfl) ?_
        intro g w2 hb hR; simp only [List.length_cons, List.length_nil, Nat.reduceAdd] at hR
        have e0 := yv hR 0
        have e1 := yv hR 1
        have e2 := yv hR 2
        have e3 := yv hR 3
        have e4 := yv hR 4
        have e5 := yv hR 5
        clear hR; simp only [fillD, fLa, fLb, sTa, sTb]
        simp only [e0, e1, e2, e3, e4, e5]
        clear e0 e1 e2 e3 e4 e5
        replace hL := hL.grow hb
        clear hb
        go_wp2
        go_ret
        exact ⟨_, rfl, by rw [HA.out]; simp, hL.below⟩
      | false =>
        have hk2 := HK.out
        rw [hqk] at hk2
        have HK2 := Lib.hid hk2
        have HA := Lib.hid hqk
        clear hk2 hqk
        go_upto_region 4 with (fail)
        refine seq_begin [11, 12, 13, 14, 15, 16] ?_
        apply draw_val
        · intro g w hb hdep; replace hL := hL.grow hb; clear hdep; simp only [fillD, fLa, fLb, sTa, sTb]
          go_wp2
          exact cY
        simp only [apN, apC]
        apply draw_val
        · intro g w hb hdep; replace hL := hL.grow hb; clear hdep; simp only [fillD, fLa, fLb, sTa, sTb]
          go_wp2
          exact cY
        simp only [apN, apC]
        apply draw_val
        · intro g w hb hdep; replace hL := hL.grow hb; clear hdep; simp only [fillD, fLa, fLb, sTa, sTb]
          go_wp2
          exact cY
        simp only [apN, apC]
        apply draw_val
        · intro g w hb hdep; replace hL := hL.grow hb; have d1 := yv hdep 1; have d2 := yv hdep 2; clear hdep; simp only [fillD, fLa, fLb, sTa, sTb]; simp only [d1, d2]
          (simp only [HPC.out]; go_wp2)
          exact cY
        simp only [apN, apC]
        apply draw_val
        · intro g w hb hdep; replace hL := hL.grow hb; have d3 := yv hdep 3; clear hdep; simp only [fillD, fLa, fLb, sTa, sTb]; simp only [d3]
          refine loc_loadB HR.out hL rfl rfl ?_
          exact cY
        simp only [apN, apC]
        apply draw_val
        · intro g w hb hdep; replace hL := hL.grow hb; have d0 := yv hdep 0; have d4 := yv hdep 4; clear hdep; simp only [fillD, fLa, fLb, sTa, sTb]; simp only [d0, d4]
          go_wp2_with ((with_reducible refine (HK2.out _ hL.below).mono ?_); rintro e w3 ⟨rfl, hb3⟩; dsimp only)
          exact ⟨rfl, _, rfl, hb3, rfl⟩
        simp only [apN, apC]
        refine seq_end hL (by kernel_rfl) ?_
        intro g w2 hb hR; simp only [List.length_cons, List.length_nil, Nat.reduceAdd] at hR
        have e0 := yv hR 0
        have e1 := yv hR 1
        have e2 := yv hR 2
        have e3 := yv hR 3
        have e4 := yv hR 4
        have e5 := yv hR 5
        clear hR; simp only [fillD, fLa, fLb, sTa, sTb]
        simp only [e0, e1, e2, e3, e4, e5]
        clear e0 e1 e2 e3 e4 e5
        replace hL := hL.grow hb
        clear hb
        go_wp2
        go_roundw
        case rel =>
          refine ⟨k + 1, by omega, by go_num, fun j hj => ?_, hL⟩
          rcases Nat.lt_or_ge j k with h | h
          · exact HQ.out j h
          · obtain rfl : j = k := by omega
            exact HA.out
        case measure => simp [intOf]; omega
    · obtain rfl : k = n := by omega
      go_wp2
      go_ret
      exact ⟨_, rfl, by rw [anyN_no HQ.out]; rfl, hL.below⟩

set_option maxRecDepth 100000 in
set_option maxHeartbeats 1600000 in
theorem containsValues (p : Option Addr) (n cap : Nat) (f : Nat → Value) (q : Nat → Bool) (K : FuncId) (c : Value) (w : World) (hn : n ≤ 9223372036854775807) (hl : ListAt Tryz.prog 61 2 w p n f) (hf : FnAt Tryz.prog K c w n f q) :
    Calls Tryz.prog 49 #[.slice p n cap, .func (.func K) #[] #[c]] w fun e w' => e = .returned (.bool (anyN q n)) ∧ Below w.heap.size w w' := by
  have HI := Lib.hid (indexValues p n cap f q K c w hn hl hf)
  clear hl hf
  go_enter Tryz.func49, Tryz.ntmps49
  go_wp2_with (go_at_call 90; refine HI.out.mono ?_; rintro e w1 ⟨r, rfl, hr, hb⟩; dsimp only)
  go_ret
  exact ⟨by rw [← hr]; rfl, hb⟩
end Go.Proofs.YtmbiooaeglpaiaaGreat
set_option linter.unusedSimpArgs false
set_option linter.unusedVariables false
namespace Go.Proofs.YtmbiooaeglpaiaaGreat
open Go.RowKit

structure Th where
  site : Int
  fs : Sl
abbrev Th.v (t : Th) : Value := .agg #[.int .i64 t.site, .slice t.fs.p t.fs.n t.fs.cap]
structure Rn where
  at' : Int
  vars : Sl
  things : Sl
  taken : Int
  lines : Sl
  ending : Int
abbrev Rn.v (r : Rn) : Value := .agg #[.int .i64 r.at', .slice r.vars.p r.vars.n r.vars.cap, .slice r.things.p r.things.n r.things.cap, .int .i64 r.taken, .slice r.lines.p r.lines.n r.lines.cap, .int .i64 r.ending]

theorem Loc.readsAt {P : Program} {w0 w : World} {L : List LBlk} {D : List Datum} {b : Nat} {T Tv : TypeId} {cs : List Value} {f : List Value → List LBlk} {off : Nat} {v : Value} (hL : Loc w0 w L D) (hm : InL b T cs L f) (hv : Reads P Tv cs off v) : ReadsAt P Tv w b off v :=
  ⟨heap_lt (hL.heap hm), fun w' h => hv.run w' b (fun j => (h j).trans (hL.cell hm j))⟩

theorem tFun : CellT Tryz.prog 82 := ⟨by kernel_rfl, by kernel_rfl⟩
theorem zFun : ZeroT Tryz.prog 82 [.nilFunc] := ⟨by kernel_rfl⟩
theorem enter1 : ∀ args w, (callFunc 44 args).run Tryz.prog w = .ok (.enter 44 args) w := fun args w => by kernel_rfl
theorem enter2 : ∀ args w, (callFunc 46 args).run Tryz.prog w = .ok (.enter 46 args) w := fun args w => by kernel_rfl
theorem enter3 : ∀ args w, (callFunc 47 args).run Tryz.prog w = .ok (.enter 47 args) w := fun args w => by kernel_rfl
theorem enter4 : ∀ args w, (callFunc 50 args).run Tryz.prog w = .ok (.enter 50 args) w := fun args w => by kernel_rfl

set_option maxRecDepth 100000 in
set_option maxHeartbeats 1600000 in
theorem right1_any (p : Pg) (is : Nat → Ins) (t : Th) (b : Nat) (w : World) (hr : ReadsAt Tryz.prog 24 w b 0 p.v) (hc : CodeAt w p is) :
    Calls Tryz.prog 44 #[t.v, .pointer (some ⟨b, 0, none⟩)] w fun e w' => e = .returned (.bool (!isSite p is t.site)) ∧ Below w.heap.size w w' := by
  have HC := Lib.hid hc
  clear hc
  have hL := Loc.start w
  go_enter Tryz.func44, Tryz.ntmps44
  go_wp2_with (first | (with_reducible refine lld hL ?_) | ((with_reducible first | refine lbx hL ?_ | refine lal hL ?_ | refine lbs hL ?_); clear hL; intro bl w1 hL) | ((with_reducible refine lst' hL ?_); clear hL; intro w1 hL) | (refine loc_loadB hr hL rfl rfl ?_) | (go_at_call 45; refine (isSite_any p is _ _ (HC.out.grow hL.below)).mono ?_; rintro e w1 ⟨rfl, hb⟩; replace hL := hL.grow hb; clear hb; dsimp only))
  (try simp only [Exit.inBlock, Exit.then]); refine' ret1 rfl ?_ rfl ?_; (case refine'_2 => exact cRes)
  exact ⟨rfl, hL.below⟩

set_option maxRecDepth 100000 in
set_option maxHeartbeats 1600000 in
theorem right2_any (fields : Int) (t : Th) (b : Nat) (w : World) (hr : ReadsAt Tryz.prog 3 w b 1 (.int .i64 fields)) :
    Calls Tryz.prog 46 #[t.v, .pointer (some ⟨b, 0, none⟩)] w fun e w' => e = .returned (.bool ((t.fs.n : Int) != fields)) ∧ Below w.heap.size w w' := by
  have hL := Loc.start w
  go_enter Tryz.func46, Tryz.ntmps46
  go_wp2_with (first | (with_reducible refine lld hL ?_) | ((with_reducible first | refine lbx hL ?_ | refine lal hL ?_ | refine lbs hL ?_); clear hL; intro bl w1 hL) | ((with_reducible refine lst' hL ?_); clear hL; intro w1 hL) | (refine loc_loadB hr hL rfl rfl ?_))
  (try simp only [Exit.inBlock, Exit.then]); refine' ret1 rfl ?_ rfl ?_; (case refine'_2 => exact cRes)
  exact ⟨rfl, hL.below⟩

set_option maxRecDepth 100000 in
set_option maxHeartbeats 1600000 in
theorem right3_any (s : Sl) (v : Vl) (b : Nat) (w : World) (hn : s.n ≤ 9223372036854775807) (hr : ReadsAt Tryz.prog 30 w b 2 s.v) :
    Calls Tryz.prog 47 #[v.v, .pointer (some ⟨b, 0, none⟩)] w fun e w' => e = .returned (.bool (!isValue v s.n)) ∧ Below w.heap.size w w' := by
  have hL := Loc.start w
  go_enter Tryz.func47, Tryz.ntmps47
  go_wp2_with (first | (with_reducible refine lld hL ?_) | ((with_reducible first | refine lbx hL ?_ | refine lal hL ?_ | refine lbs hL ?_); clear hL; intro bl w1 hL) | ((with_reducible refine lst' hL ?_); clear hL; intro w1 hL) | (refine loc_loadB hr hL rfl rfl ?_) | (go_at_call 48; refine (value_any _ _ (by omega) (by omega) _).mono ?_; rintro e w1 ⟨rfl, hb⟩; replace hL := hL.grow hb; clear hb; dsimp only))
  (try simp only [Exit.inBlock, Exit.then]); refine' ret1 rfl ?_ rfl ?_; (case refine'_2 => exact cRes)
  exact ⟨rfl, hL.below⟩

theorem fn3 (s : Sl) (b : Nat) (w : World) (hn : s.n ≤ 9223372036854775807) (hr : ReadsAt Tryz.prog 30 w b 2 s.v) (n : Nat) (vs : Nat → Vl) :
    FnAt Tryz.prog 47 (.pointer (some ⟨b, 0, none⟩)) w n (fun k => (vs k).v) (fun k => !isValue (vs k) s.n) :=
  ⟨enter3, fun k _ w' hb => right3_any s (vs k) b w' hn (hr.grow hb)⟩

set_option maxRecDepth 100000 in
set_option maxHeartbeats 1600000 in
theorem right4_any (s : Sl) (t : Th) (vs : Nat → Vl) (b bW : Nat) (w : World) (hn : s.n ≤ 9223372036854775807) (hn2 : t.fs.n ≤ 9223372036854775807) (hr : ReadsAt Tryz.prog 30 w b 2 s.v)
    (hw : ReadsAt Tryz.prog 82 w bW 0 (.func (.func 47) #[] #[.pointer (some ⟨b, 0, none⟩)])) (hl : ListAt Tryz.prog 61 2 w t.fs.p t.fs.n (fun k => (vs k).v)) :
    Calls Tryz.prog 50 #[t.v, .pointer (some ⟨bW, 0, none⟩)] w fun e w' => e = .returned (.bool (anyN (fun k => !isValue (vs k) s.n) t.fs.n)) ∧ Below w.heap.size w w' := by
  have HK := Lib.hid (fun w' (hb : Below w.heap.size w w') => containsValues t.fs.p t.fs.n t.fs.cap (fun k => (vs k).v) (fun k => !isValue (vs k) s.n) 47 (.pointer (some ⟨b, 0, none⟩)) w' hn2 (hl.grow hb) (fn3 s b w' hn (hr.grow hb) t.fs.n vs))
  clear hl
  have hL := Loc.start w
  go_enter Tryz.func50, Tryz.ntmps50
  go_wp2_with (first | (with_reducible refine lld hL ?_) | ((with_reducible first | refine lbx hL ?_ | refine lal hL ?_ | refine lbs hL ?_); clear hL; intro bl w1 hL) | ((with_reducible refine lst' hL ?_); clear hL; intro w1 hL) | (refine loc_loadB hw hL rfl rfl ?_) | (go_at_call 49; refine (HK.out _ hL.below).mono ?_; rintro e w1 ⟨rfl, hb⟩; replace hL := hL.grow hb; clear hb; dsimp only))
  (try simp only [Exit.inBlock, Exit.then]); refine' ret1 rfl ?_ rfl ?_; (case refine'_2 => exact cRes)
  exact ⟨rfl, hL.below⟩
end Go.Proofs.YtmbiooaeglpaiaaGreat
