/- What the library's variables must hold for Split, Cut, Atoi and Itoa; these calls, in plain words; the program's number. Conditions: those variables. -/
import Derived.Test.YtdghcnopoanieaaDoorShelfS
import Derived.Test.YtdghcnopoanieaaDoorPows
import Derived.Test.YtdghcnopoanieaaDoorSeqP
set_option linter.unusedSimpArgs false
set_option linter.unusedVariables false
namespace Go.Proofs.YtdghcnopoanieaaDoor
open Go.RowKit

/-- The library's variables read as the library's code wants them. -/
structure Glob (w : World) : Prop where
  pows : Pows w
  maxLen : ∃ m, w.cell? ⟨0, 0, none⟩ = some (.int .i64 m)
  syn : ∃ ev, w.cell? ⟨2, 0, none⟩ = some ev ∧ (ev = .nilIface ∨ ∃ te pe, ev = .iface te pe)
  rng : ∃ ev, w.cell? ⟨3, 0, none⟩ = some ev ∧ (ev = .nilIface ∨ ∃ te pe, ev = .iface te pe)
theorem cell_lt {w : World} {b o : Nat} {v : Value} (h : w.cell? ⟨b, o, none⟩ = some v) : b < w.heap.size := by
  rcases Nat.lt_or_ge b w.heap.size with h1 | h1
  · exact h1
  · simp [World.cell?, Array.getElem?_eq_none h1] at h
theorem Glob.grow {w w' : World} (h : Glob w) (hb : Below w.heap.size w w') : Glob w' := by
  obtain ⟨h1, ⟨m, h2⟩, ⟨e3, h3, h4⟩, ⟨e5, h5, h6⟩⟩ := h
  exact ⟨h1.grow hb, ⟨m, (hb.cell (p := ⟨_, 0, none⟩) (cell_lt h2)).trans h2⟩, ⟨e3, (hb.cell (p := ⟨_, 0, none⟩) (cell_lt h3)).trans h3, h4⟩, ⟨e5, (hb.cell (p := ⟨_, 0, none⟩) (cell_lt h5)).trans h5, h6⟩⟩

theorem itoaZ (n : Int) (h0 : -9223372036854775808 ≤ n) (h1 : n ≤ 9223372036854775807) (w : World) (hg : Glob w) :
    Calls Tryd.prog 25 #[.int .i64 n] w fun e w' => e = .returned (.string ⟨(Lib.itoa n).toArray⟩) ∧ Below w.heap.size w w' := by
  refine (itoa_lays n h0 h1 w hg.pows).mono ?_
  rintro e w' ⟨rfl, k, os, rfl⟩
  exact ⟨rfl, below_grow' _ k os⟩
theorem cutZ (s : ByteArray) (c : UInt8) (hs : s.size ≤ 1000000) (w : World) (hg : Glob w) :
    Calls Tryd.prog 17 #[.string s, .string ⟨#[c]⟩] w fun e w' => e = .returned (.tuple #[strV (Lib.cut s.data.toList [c]).1, strV (Lib.cut s.data.toList [c]).2.1, .bool (Lib.cut s.data.toList [c]).2.2]) ∧ Below w.heap.size w w' := by
  obtain ⟨m, hm⟩ := hg.maxLen
  refine (Any.strings_Cut cutLays s ⟨#[c]⟩ m w (by omega) hm).mono ?_
  rintro e w' ⟨rfl, k, rfl⟩
  exact ⟨rfl, below_drewN (Below.refl _ _) k⟩
theorem splitZ (s : ByteArray) (c : UInt8) (hs : s.size ≤ 1000000) (w : World) (hg : Glob w) :
    Calls Tryd.prog 41 #[.string s, .string ⟨#[c]⟩] w fun e w' => ∃ b, e = .returned (.slice (some ⟨b, 0, none⟩) (pieces c s.data.toList).length (pieces c s.data.toList).length) ∧ Loc w w' [(b, 9, (pieces c s.data.toList).map strV)] [] := by
  obtain ⟨m, hm⟩ := hg.maxLen
  refine (Any.strings_Split splitLays (by kernel_rfl) s ⟨#[c]⟩ m w (by omega) hm (Nat.le_refl 1)).mono ?_
  rintro e w' ⟨rfl, rfl⟩
  rw [split_count, split_strings]
  exact ⟨_, rfl, (Loc.start w).box _ _⟩

/-- Does Atoi take it? -/
def atoiOk (l : List UInt8) : Bool := match Lib.atoiAll l with | .ok _ => true | _ => false
theorem atoiZ (s : ByteArray) (hs : s.size ≤ 1000000) (w : World) (hg : Glob w) :
    Calls Tryd.prog 56 #[.string s] w fun e w' => ∃ ev, e = .returned (.tuple #[.int .i64 (numV s.data.toList), ev]) ∧ Below w.heap.size w w' ∧ (atoiOk s.data.toList = true → ev = .nilIface) ∧ (atoiOk s.data.toList = false → ∃ te pe, ev = .iface te pe) := by
  unfold numV atoiOk
  rcases ha : Lib.atoiAll s.data.toList with n | _ | _
  · refine (Any.strconv_Atoi_ok atoiLays s (by omega) n ha w).mono ?_
    rintro e w' ⟨rfl, hw⟩
    refine ⟨_, rfl, ?_, fun _ => rfl, fun h => (by cases h)⟩
    rcases hw with rfl | ⟨t, rfl⟩
    · exact Below.refl _ _
    · exact Lib.bytesWorld_below _ _ _
  · obtain ⟨ev, h1, h2⟩ := hg.syn
    refine (Any.strconv_Atoi_syntax atoiLays s (by omega) ha ev w h1 h2).mono ?_
    rintro e w' ⟨N, rfl, -, -, hb⟩
    exact ⟨_, rfl, hb, fun h => (by cases h), fun _ => ⟨_, _, rfl⟩⟩
  · obtain ⟨ev, h1, h2⟩ := hg.rng
    refine (Any.strconv_Atoi_range atoiLays s (by omega) ha ev w h1 h2).mono ?_
    rintro e w' ⟨N, rfl, -, -, hb⟩
    exact ⟨_, rfl, hb, fun h => (by cases h), fun _ => ⟨_, _, rfl⟩⟩
theorem numB_parts (l : List UInt8) : numB l = (atoiOk l && (decide (l.length ≤ 11) && decide (Lib.itoa (numV l) = l))) := by
  unfold numB atoiOk numV
  cases Lib.atoiAll l <;> simp

set_option maxRecDepth 100000 in
set_option maxHeartbeats 1600000 in
/-- The number of a text. -/
theorem number_any (s : ByteArray) (hs : s.size ≤ 1000000) (w : World) (hg : Glob w) :
    Calls Tryd.prog 42 #[.string s] w fun e w' => e = .returned (.tuple #[.int .i64 (numV s.data.toList), .bool (numB s.data.toList)]) ∧ Below w.heap.size w w' := by
  have hln : s.data.toList.length = s.size := Array.length_toList
  have HNB := Lib.hid (numB_parts s.data.toList)
  have HG := Lib.hid hg
  have HA := Lib.hid (atoiZ s hs w hg)
  obtain ⟨hb1, hb2⟩ := numV_bounds s.data.toList
  have HI := Lib.hid (fun w' (hb : Below w.heap.size w w') => itoaZ (numV s.data.toList) hb1 hb2 w' (HG.out.grow hb))
  clear hg
  generalize numV s.data.toList = n at HNB HA HI hb1 hb2 ⊢
  generalize atoiOk s.data.toList = ok at HNB HA
  have hL := Loc.start w
  go_enter Tryd.func42, Tryd.ntmps42
  cases ok with
  | false =>
    go_wp2_with (first | (go_at_call 56; refine HA.out.mono ?_; rintro e w3 ⟨ev, rfl, hb, -, hev⟩; obtain ⟨te, pe, rfl⟩ := hev rfl; replace hL := hL.grow hb; clear hb; dsimp only))
    (try simp only [Exit.inBlock, Exit.then]); refine rt2 ?_
    exact ⟨by rw [HNB.out]; rfl, hL.below⟩
  | true =>
    by_cases h11 : s.size ≤ 11
    · have hd : decide ((s.size : Int) ≤ 11) = true := by simp; omega
      go_wp2_with (first | (go_at_call 56; refine HA.out.mono ?_; rintro e w3 ⟨ev, rfl, hb, hev, -⟩; obtain rfl := hev rfl; replace hL := hL.grow hb; clear hb; dsimp only) | (go_at_call 25; refine (HI.out _ hL.below).mono ?_; rintro e w1 ⟨rfl, hb⟩; replace hL := hL.grow hb; clear hb; dsimp only))
      (try simp only [Exit.inBlock, Exit.then]); refine rt2 ?_
      refine ⟨?_, hL.below⟩
      rw [HNB.out, show (decide (s.data.toList.length ≤ 11)) = true by simp; omega, show decide (Lib.itoa n = s.data.toList) = (Lib.itoa n == s.toList) by rw [Lib.toList_data, Bool.eq_iff_iff]; simp]
      rfl
    · have hd : decide ((s.size : Int) ≤ 11) = false := by simp; omega
      go_wp2_with (first | (go_at_call 56; refine HA.out.mono ?_; rintro e w3 ⟨ev, rfl, hb, hev, -⟩; obtain rfl := hev rfl; replace hL := hL.grow hb; clear hb; dsimp only) | (go_at_call 25; refine (HI.out _ hL.below).mono ?_; rintro e w1 ⟨rfl, hb⟩; replace hL := hL.grow hb; clear hb; dsimp only))
      (try simp only [Exit.inBlock, Exit.then]); refine rt2 ?_
      exact ⟨by rw [HNB.out, show (decide (s.data.toList.length ≤ 11)) = false by simp; omega]; rfl, hL.below⟩
end Go.Proofs.YtdghcnopoanieaaDoor
