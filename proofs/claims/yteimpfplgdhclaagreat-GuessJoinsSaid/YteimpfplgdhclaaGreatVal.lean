/- The types' sizes, behind the programs. Conditions: none. | Sites: where things are made. Conditions: the instructions lie in memory that was there. | The walks over small functions of runs: values, sites. Conditions: none. | The walks over slices.IndexFunc and slices.ContainsFunc, whatever the function does, if it leaves what was there as it was. Conditions: the elements lie in memory that was there. -/
import Derived.Test.YteimpfplgdhclaaGreatRefProg
import Derived.Test.YteimpfplgdhclaaGreatCod
import Derived.Test.YteimpfplgdhclaaGreatCop
set_option linter.unusedSimpArgs false
set_option linter.unusedVariables false
namespace Go.Proofs.YteimpfplgdhclaaGreat
open Go.RowKit

def isSite (p : Pg) (is : Nat → Ins) (at' : Int) : Bool := decide (0 ≤ at') && (decide (at' < p.n) && (is at'.toNat).kind == 11)

theorem site_cases (p : Pg) (is : Nat → Ins) (a : Int) : a < 0 ∨ (0 ≤ a ∧ (p.n : Int) ≤ a) ∨ ∃ k : Nat, a = k ∧ k < p.n := by
  rcases (by omega : a < 0 ∨ 0 ≤ a) with h | h
  · exact .inl h
  · rcases (by omega : a < p.n ∨ (p.n : Int) ≤ a) with h2 | h2
    · exact .inr (.inr ⟨a.toNat, by omega, by omega⟩)
    · exact .inr (.inl ⟨h, h2⟩)
set_option maxRecDepth 100000 in
set_option maxHeartbeats 1600000 in
theorem isSite_any (p : Pg) (is : Nat → Ins) (a : Int) (w : World) (hc : CodeAt w p is) :
    Calls Tryz.prog 69 #[p.v, .int .i64 a] w fun e w' => e = .returned (.bool (isSite p is a)) ∧ Below w.heap.size w w' := by
  obtain ⟨b, o, hp, hc⟩ := hc.kinds
  have HP := Lib.hid hp
  have HC := Lib.hid hc
  clear hp hc
  have hL := Loc.start w
  rcases site_cases p is a with h | ⟨h, h2⟩ | ⟨k, rfl, hk⟩
  · go_enter Tryz.func69, Tryz.ntmps69
    go_wp2_with (first | (with_reducible refine lld hL ?_) | ((with_reducible first | refine lbx hL ?_ | refine lal hL ?_ | refine lbs hL ?_); clear hL; intro bl w1 hL) | ((with_reducible refine lst' hL ?_); clear hL; intro w1 hL))
    (try simp only [Exit.inBlock, Exit.then]); refine' ret1 rfl ?_ rfl ?_; (case refine'_2 => exact cRes)
    exact ⟨by simp [isSite]; omega, hL.below⟩
  · go_enter Tryz.func69, Tryz.ntmps69
    go_wp2_with (first | (with_reducible refine lld hL ?_) | ((with_reducible first | refine lbx hL ?_ | refine lal hL ?_ | refine lbs hL ?_); clear hL; intro bl w1 hL) | ((with_reducible refine lst' hL ?_); clear hL; intro w1 hL))
    (try simp only [Exit.inBlock, Exit.then]); refine' ret1 rfl ?_ rfl ?_; (case refine'_2 => exact cRes)
    exact ⟨by simp [isSite]; omega, hL.below⟩
  · have HPC := Lib.hid (HP.out (by omega))
    have HR := Lib.hid (HC.out k hk)
    obtain ⟨vars, fields, pc, n, cap⟩ := p
    obtain rfl := HPC.out
    go_enter Tryz.func69, Tryz.ntmps69
    go_wp2_with (first | (with_reducible refine lld hL ?_) | ((with_reducible first | refine lbx hL ?_ | refine lal hL ?_ | refine lbs hL ?_); clear hL; intro bl w1 hL) | ((with_reducible refine lst' hL ?_); clear hL; intro w1 hL) | (refine loc_loadB HR.out hL (by exact cWant) rfl ?_))
    (try simp only [Exit.inBlock, Exit.then]); refine' ret1 rfl ?_ rfl ?_; (case refine'_2 => exact cRes)
    exact ⟨by simp [isSite, hk], hL.below⟩
set_option maxRecDepth 100000 in
set_option maxHeartbeats 1600000 in
theorem rIsSite_any (p : Pg) (is : Nat → Ins) (a : Int) (w : World) (hn : p.n ≤ 9223372036854775807) (hc : CodeAt w p is) :
    Calls Tryz.prog 54 #[p.v, .int .i64 a] w fun e w' => e = .returned (.bool (isSite p is a)) ∧ Below w.heap.size w w' := by
  obtain ⟨b, o, hp, hc⟩ := hc.kinds
  have HP := Lib.hid hp
  have HC := Lib.hid hc
  clear hp hc
  have hL := Loc.start w
  rcases site_cases p is a with h | ⟨h, h2⟩ | ⟨k, rfl, hk⟩
  · have hb : betw a 0 (p.n - 1) = false := by simp [betw]; omega
    have HB := Lib.hid (fun w => (by have h := between_any a 0 (p.n - 1) w; rw [hb] at h; exact h : Calls Tryz.prog 51 #[.int .i64 a, .int .i64 0, .int .i64 (p.n - 1)] w fun e w' => e = .returned (.bool false) ∧ w = w'))
    clear hb
    go_enter Tryz.func54, Tryz.ntmps54
    go_wp2_with (first | (with_reducible refine lld hL ?_) | ((with_reducible first | refine lbx hL ?_ | refine lal hL ?_ | refine lbs hL ?_); clear hL; intro bl w1 hL) | ((with_reducible refine lst' hL ?_); clear hL; intro w1 hL) | (go_at_call 51; refine (HB.out _).mono ?_; rintro e w' ⟨rfl, rfl⟩; dsimp only))
    (try simp only [Exit.inBlock, Exit.then]); refine' ret1 rfl ?_ rfl ?_; (case refine'_2 => exact cRes)
    exact ⟨by simp [isSite]; omega, hL.below⟩
  · have hb : betw a 0 (p.n - 1) = false := by simp [betw]; omega
    have HB := Lib.hid (fun w => (by have h := between_any a 0 (p.n - 1) w; rw [hb] at h; exact h : Calls Tryz.prog 51 #[.int .i64 a, .int .i64 0, .int .i64 (p.n - 1)] w fun e w' => e = .returned (.bool false) ∧ w = w'))
    clear hb
    go_enter Tryz.func54, Tryz.ntmps54
    go_wp2_with (first | (with_reducible refine lld hL ?_) | ((with_reducible first | refine lbx hL ?_ | refine lal hL ?_ | refine lbs hL ?_); clear hL; intro bl w1 hL) | ((with_reducible refine lst' hL ?_); clear hL; intro w1 hL) | (go_at_call 51; refine (HB.out _).mono ?_; rintro e w' ⟨rfl, rfl⟩; dsimp only))
    (try simp only [Exit.inBlock, Exit.then]); refine' ret1 rfl ?_ rfl ?_; (case refine'_2 => exact cRes)
    exact ⟨by simp [isSite]; omega, hL.below⟩
  · have HPC := Lib.hid (HP.out (by omega))
    have HR := Lib.hid (HC.out k hk)
    have hb : betw (k : Int) 0 (p.n - 1) = true := by simp [betw]; omega
    have HB := Lib.hid (fun w => (by have h := between_any (k : Int) 0 (p.n - 1) w; rw [hb] at h; exact h : Calls Tryz.prog 51 #[.int .i64 (k : Int), .int .i64 0, .int .i64 (p.n - 1)] w fun e w' => e = .returned (.bool true) ∧ w = w'))
    clear hb
    obtain ⟨vars, fields, pc, n, cap⟩ := p
    dsimp only at HB hk hn
    obtain rfl := HPC.out
    go_enter Tryz.func54, Tryz.ntmps54
    go_wp2_with (first | (with_reducible refine lld hL ?_) | ((with_reducible first | refine lbx hL ?_ | refine lal hL ?_ | refine lbs hL ?_); clear hL; intro bl w1 hL) | ((with_reducible refine lst' hL ?_); clear hL; intro w1 hL) | (go_at_call 51; refine (HB.out _).mono ?_; rintro e w' ⟨rfl, rfl⟩; dsimp only) | (refine loc_loadB HR.out hL (by exact cWant) rfl ?_))
    (try simp only [Exit.inBlock, Exit.then]); refine' ret1 rfl ?_ rfl ?_; (case refine'_2 => exact cRes)
    exact ⟨by simp [isSite, hk], hL.below⟩

end Go.Proofs.YteimpfplgdhclaaGreat
set_option linter.unusedSimpArgs false
set_option linter.unusedVariables false
namespace Go.Proofs.YteimpfplgdhclaaGreat
open Go.RowKit

def isValue (v : Vl) (things : Int) : Bool := if v.kind = 0 then v.n == 0 else if v.kind = 1 then betw v.n (-2147483648) 2147483647 else if v.kind = 2 then betw v.n 0 1 else if v.kind = 3 then betw v.n 0 (things - 1) else false
def countsV (v : Vl) : Bool := v.kind == 3 || (v.kind != 0 && v.n != 0)
def countsR (v : Vl) : Bool := v.kind == 3 || (v.kind == 1 || v.kind == 2) && v.n != 0

theorem counts_cases (k n : Int) : k = 3 ∨ k = 0 ∨ k = 1 ∨ k = 2 ∨ ((k == 3) = false ∧ (k == 0) = false ∧ (k != 0) = true ∧ (k == 1) = false ∧ (k == 2) = false) := by simp only [beq_eq_false_iff_ne, bne_iff_ne]; omega
def truthV (b : Bool) : Vl := ⟨2, if b then 1 else 0⟩
end Go.Proofs.YteimpfplgdhclaaGreat
set_option linter.unusedSimpArgs false
set_option linter.unusedVariables false
namespace Go.Proofs.YteimpfplgdhclaaGreat
open Go.RowKit


end Go.Proofs.YteimpfplgdhclaaGreat
