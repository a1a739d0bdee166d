/- Print, whatever program it is handed. Conditions: the library's variables; the instructions lie in memory. -/
import Derived.Test.YtdghcnopoanieaaDoorCPrint
set_option linter.unusedSimpArgs false
set_option linter.unusedVariables false
namespace Go.Proofs.YtdghcnopoanieaaDoor
open Go.RowKit

theorem list_at (is : Nat → Ins) (n k : Nat) (h : k < n) : insAt ((List.range n).map is) k = is k := by
  simp [insAt, h]
theorem CodeAt.list {w : World} {p : Pg} {is : Nat → Ins} (h : CodeAt w p is) : CodeAt w ⟨p.vars, p.fields, p.pc, ((List.range p.n).map is).length, p.cap⟩ (insAt ((List.range p.n).map is)) := by
  obtain ⟨b, o, hpc, hc⟩ := h
  have e : ((List.range p.n).map is).length = p.n := by simp
  rw [e]
  exact ⟨b, o, hpc, fun k hk => by rw [list_at is p.n k hk]; exact hc k hk⟩
set_option maxRecDepth 100000 in
set_option maxHeartbeats 800000 in
theorem print_bad (v f : Int) (pc : Option Addr) (cap : Nat) (is : List Ins) (hm : is.length ≤ 9223372036854775807) (hz : ¬ checkL v f is = 0) (w : World) (hc : CodeAt w ⟨v, f, pc, is.length, cap⟩ (insAt is)) :
    Calls Tryd.prog 10 #[Pg.v ⟨v, f, pc, is.length, cap⟩] w fun e w' => e = .returned (.tuple #[strV [], .int .i64 (checkL v f is)]) ∧ Below w.heap.size w w' := by
  have HCK := Lib.hid (fun w' (hb' : Below w.heap.size w w') => codeCheck_any ⟨v, f, pc, is.length, cap⟩ (insAt is) w' (hc.grow hb') hm)
  rw [show checkProg ⟨v, f, pc, is.length, cap⟩ (insAt is) = checkL v f is from rfl] at HCK
  clear hc hm
  generalize checkL v f is = c at *
  generalize is.length = n at *
  have hL := Loc.start w
  go_enter Tryd.func10, Tryd.ntmps10
  go_wp2_with (first | (go_at_call 15; refine (HCK.out _ hL.below).mono ?_; rintro e w1 ⟨rfl, hb⟩; replace hL := hL.grow hb; clear hb; dsimp only) | (with_reducible first | refine lld hL ?_ | ((first | refine lbx hL ?_ | refine lal hL ?_ | refine lbs hL ?_); clear hL; intro bl w1 hL) | (refine lst' hL ?_; clear hL; intro w1 hL)))
  (try simp only [Exit.inBlock, Exit.then]); refine rt2 ?_
  exact ⟨rfl, hL.below⟩
/-- What Print answers. -/
def printed (v f : Int) (is : List Ins) : Byt := if checkL v f is = 0 then printD v f is else []
theorem print_full (v f : Int) (pc : Option Addr) (cap : Nat) (is : List Ins) (hm : is.length ≤ 9223372036854775807) (w : World) (hg : Glob w) (hc : CodeAt w ⟨v, f, pc, is.length, cap⟩ (insAt is)) :
    Calls Tryd.prog 10 #[Pg.v ⟨v, f, pc, is.length, cap⟩] w fun e w' => e = .returned (.tuple #[strV (printed v f is), .int .i64 (checkL v f is)]) ∧ Below w.heap.size w w' := by
  unfold printed
  by_cases hz : checkL v f is = 0
  · rw [if_pos hz, hz]; exact print_any v f pc cap is hz w hg hc
  · rw [if_neg hz]; exact print_bad v f pc cap is hm hz w hc
theorem printed_len (v f : Int) (is : List Ins) : (printed v f is).length ≤ 5500 := by
  unfold printed
  split
  · rename_i hz
    obtain ⟨hr, -⟩ := right_pg hz
    have := printT_len hr.small hr.fsmall is hr.each
    have h2 := hr.few
    rw [printD_eq]
    omega
  · simp
end Go.Proofs.YtdghcnopoanieaaDoor
