/- The walk over run.line: the line that a value is printed as. Conditions: the library's table of powers reads as it is laid; the number is an int. -/
import Derived.Test.YtkdbehgekeidoaaDoorRunJ
import Derived.Test.YtkdbehgekeidoaaDoorShelfP2
set_option linter.unusedSimpArgs false
set_option linter.unusedVariables false
namespace Go.Proofs.YtkdbehgekeidoaaDoor
open Go.RowKit

theorem below_grow' (w : World) (k : Nat) (os : Array Obj) : Below w.heap.size w (Sort.grow (w.drewN k) os) := by
  refine ⟨rfl, rfl, rfl, by simp [Sort.grow], fun b hb => ?_⟩
  show ((w.drewN k).heap ++ os)[b]? = w.heap[b]?
  have : (w.drewN k).heap = w.heap := rfl
  rw [this, Array.getElem?_append_left hb]
/-- The library's table of powers of ten reads as it is laid. -/
def Pows (w : World) : Prop := Lib.TabIs Tryd.prog w "internal/strconv.uint64pow10" .u64 Lib.pow10Tab
theorem Pows.grow {w w' : World} (h : Pows w) (hb : Below w.heap.size w w') : Pows w' := by
  unfold Pows Lib.TabIs World.var? at *
  obtain ⟨g, hg, hc⟩ := Option.bind_eq_some_iff.1 h
  refine Option.bind_eq_some_iff.2 ⟨g, hg, ?_⟩
  cases hh : w.heap[g]? with
  | none => rw [hh] at hc; cases hc
  | some o => rw [hb.block _ (heap_lt hh)]; exact hc
def lineV (v : Vl) : ByteArray := if v.kind = 1 then ⟨(Lib.itoa v.n).toArray⟩ else if v.kind = 2 then (if v.n = 1 then ⟨#[116, 114, 117, 101]⟩ else ⟨#[102, 97, 108, 115, 101]⟩) else if v.kind = 3 then ⟨#[116, 104, 105, 110, 103]⟩ else ⟨#[110, 117, 108, 108]⟩
set_option maxRecDepth 100000 in
set_option maxHeartbeats 1600000 in
theorem line_any (v : Vl) (w : World) (h0 : -9223372036854775808 ≤ v.n) (h1 : v.n ≤ 9223372036854775807) (ht : Pows w) :
    Calls Tryd.prog 66 #[v.v] w fun e w' => e = .returned (.string (lineV v)) ∧ Below w.heap.size w w' := by
  have HT := Lib.hid ht
  clear ht
  obtain ⟨k, n⟩ := v
  dsimp only at h0 h1
  have hL := Loc.start w
  have hcase : k = 1 ∨ (k = 2 ∧ n = 1) ∨ (k = 2 ∧ (n == 1) = false) ∨ k = 3 ∨ ((k == 1) = false ∧ (k == 2) = false ∧ (k == 3) = false) := by simp only [beq_eq_false_iff_ne]; omega
  rcases hcase with rfl | ⟨rfl, rfl⟩ | ⟨rfl, hn⟩ | rfl | ⟨g0, g1, g2⟩
  · have HI := Lib.hid (fun w' (hb : Below w.heap.size w w') => itoa_lays n h0 h1 w' (HT.out.grow hb))
    clear h0 h1
    go_enter Tryd.func66, Tryd.ntmps66
    go_wp2_with (first | (with_reducible refine lld hL ?_) | ((with_reducible first | refine lbx hL ?_ | refine lal hL ?_ | refine lbs hL ?_); clear hL; intro bl w1 hL) | ((with_reducible refine lst' hL ?_); clear hL; intro w1 hL) | (go_at_call 69; refine (HI.out _ hL.below).mono ?_; rintro e w3 ⟨rfl, k3, os3, rfl⟩; replace hL := hL.grow (below_grow' _ k3 os3); dsimp only))
    (try simp only [Exit.inBlock, Exit.then]); refine' ret1 rfl ?_ rfl ?_; (case refine'_2 => exact cRes)
    exact ⟨by simp [lineV], hL.below⟩
  all_goals
    clear h0 h1
    go_enter Tryd.func66, Tryd.ntmps66
    go_wp2_with (first | (with_reducible refine lld hL ?_) | ((with_reducible first | refine lbx hL ?_ | refine lal hL ?_ | refine lbs hL ?_); clear hL; intro bl w1 hL) | ((with_reducible refine lst' hL ?_); clear hL; intro w1 hL) | go_in)
    (try simp only [Exit.inBlock, Exit.then]); refine' ret1 rfl ?_ rfl ?_; (case refine'_2 => exact cRes)
    first | exact ⟨by simp [lineV]; rfl, hL.below⟩ | exact ⟨by simp_all [lineV]; rfl, hL.below⟩ | exact ⟨by simp_all [lineV], hL.below⟩
end Go.Proofs.YtkdbehgekeidoaaDoor
