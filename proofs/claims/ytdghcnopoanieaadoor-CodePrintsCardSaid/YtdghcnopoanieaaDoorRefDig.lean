/- The walk over the reference's Digits. Conditions: the number has at most twelve digits. -/
import Derived.Test.YtdghcnopoanieaaDoorCod
import Derived.Laws.IdiomStrings
import Derived.Lib.ItoaLen
set_option linter.unusedSimpArgs false
set_option linter.unusedVariables false
namespace Go.Proofs.YtdghcnopoanieaaDoor
open Go.RowKit

def digs (n : Int) : ByteArray := ⟨(Lib.itoa n).toArray⟩
theorem digs_pos {n : Nat} (h : 10 ≤ n) : Lib.itoa (n : Int) = Lib.itoa ((n : Int) / 10) ++ Lib.itoa ((n : Int) % 10) := by
  show Lib.itoa (n : Int) = Lib.itoa ((n / 10 : Nat) : Int) ++ Lib.itoa ((n % 10 : Nat) : Int)
  unfold Lib.itoa
  rw [if_neg (by omega), if_neg (by omega), if_neg (by omega)]
  simp only [Int.toNat_natCast]
  rw [Lib.decDigits, dif_neg (by omega), Lib.decDigits_one (i := n % 10) (by omega)]
theorem digs_neg1 {n : Nat} (h : 1 ≤ n) : Lib.itoa (-(n : Int)) = 45 :: Lib.itoa (n : Int) := by
  unfold Lib.itoa
  rw [if_pos (by omega), if_neg (by omega)]
  simp
theorem digs_size {n : Int} (h : -1000000000000 ≤ n ∧ n ≤ 1000000000000) : (digs n).size ≤ 21 := by
  have := Lib.itoa_length_le n (by omega) (by omega)
  show (Lib.itoa n).toArray.size ≤ 21
  simpa using this
theorem append_bytes (a b : List UInt8) : (⟨a.toArray⟩ : ByteArray) ++ (⟨b.toArray⟩ : ByteArray) = ⟨(a ++ b).toArray⟩ := by
  apply ByteArray.ext
  simp

theorem wp_conv1 {ops : Array Oper} {Q : Exit → Act → World → Prop} {act : Act} {w : World} {rest : List Oper} {d : Option Tmp} {ty : TypeId} {pos : String} {after : Array Edge} {x : Operand} {b : Nat} {v : Int} {u : UInt8} (hx : act.eval x = .slice (some ⟨b, 0, none⟩) 1 1) (hh : w.heap[b]? = some (.cells #[.int .u8 v] 5 (0, 0))) (hv : v = (u.toNat : Int))
    (h : wpList Tryd.prog ops Q rest (act.put d (.string ⟨#[u]⟩)) w) : wpList Tryd.prog ops Q (⟨d, .convert 56 9 x, ty, pos, after, none⟩ :: rest) act w := by
  refine wpList_val (o := ⟨d, .convert 56 9 x, ty, pos, after, none⟩) (v := .string ⟨#[u]⟩) (w' := w) rfl ?_ h
  have hr := run_convert_bytes_back (P := Tryd.prog) w 56 9 5 ⟨b, 0, none⟩ 1 [u] (by kernel_rfl) (by kernel_rfl) (by kernel_rfl) (fun j hj => by
    have h0 : j = 0 := by simpa using hj
    subst h0
    rw [add_addr]
    simp [World.cell?, hh, hv])
  have hr2 : (convert 56 9 (.slice (some ⟨b, 0, none⟩) 1 1)).run Tryd.prog w = .ok (.string ⟨#[u]⟩) w := hr
  simp only [execOp, Sem.run_bind, hx]
  rw [hr2]; rfl
set_option maxRecDepth 100000 in
set_option maxHeartbeats 1600000 in
theorem rDigits_pos (m : Nat) : ∀ (n : Nat), n < m → n ≤ 1000000000000 → ∀ w : World, Calls Tryd.prog 35 #[.int .i64 (n : Int)] w fun e w' => e = .returned (.string (digs n)) ∧ Below w.heap.size w w' := by
  induction m with
  | zero => intro n h; omega
  | succ m ih =>
    intro n hn hb w
    by_cases h10 : n < 10
    · have hL := Loc.start w
      clear ih
      obtain ⟨u, hu⟩ : ∃ u, u = UInt8.ofNat (48 + n) := ⟨_, rfl⟩
      have HU := Lib.hid (show (48 + (n : Int)) = (u.toNat : Int) by rw [hu, UInt8.toNat_ofNat']; omega)
      have HD := Lib.hid (show digs (n : Int) = ⟨#[u]⟩ by
        unfold digs Lib.itoa
        rw [if_neg (by omega), Int.toNat_natCast, Lib.decDigits_one h10, hu])
      have hlt0 : decide ((n : Int) < 0) = false := by simp
      have hlt10 : decide ((n : Int) < 10) = true := by simp; omega
      clear hu
      go_enter Tryd.func35, Tryd.ntmps35
      go_wp2_with (refine wp_conv1 rfl (heap_new _ _) HU.out ?_)
      go_ret
      rw [HD.out]
      exact ⟨rfl, (Below.refl _ _).alloc (Nat.le_refl _) _⟩
    · have H1 := Lib.hid (fun w' => (by have h := ih (n / 10) (by omega) (by omega) w'; exact h : Calls Tryd.prog 35 #[.int .i64 ((n : Int) / 10)] w' fun e w'' => e = .returned (.string (digs ((n : Int) / 10))) ∧ Below w'.heap.size w' w''))
      have H2 := Lib.hid (fun w' => (by have h := ih (n % 10) (by omega) (by omega) w'; exact h : Calls Tryd.prog 35 #[.int .i64 ((n : Int) % 10)] w' fun e w'' => e = .returned (.string (digs ((n : Int) % 10))) ∧ Below w'.heap.size w' w''))
      have HD := Lib.hid (digs_pos (n := n) (by omega))
      have hs1 : (digs ((n : Int) / 10)).size ≤ 21 := digs_size (by omega)
      have hs2 : (digs ((n : Int) % 10)).size ≤ 21 := digs_size (by omega)
      have hd1 : decide ((n : Int) < 10) = false := by simp; omega
      have hd0 : decide ((n : Int) < 0) = false := by simp
      clear ih h10
      have hL := Loc.start w
      go_enter Tryd.func35, Tryd.ntmps35
      go_wp2_with (first | (go_at_call 35; (with_reducible refine (H1.out _).mono ?_); rintro e w3 ⟨rfl, hb⟩; replace hL := hL.grow hb; clear hb; dsimp only) | (go_at_call 35; (with_reducible refine (H2.out _).mono ?_); rintro e w3 ⟨rfl, hb⟩; replace hL := hL.grow hb; clear hb; dsimp only))
      go_ret
      refine ⟨?_, hL.below⟩
      show Ending.returned (Value.string (digs _ ++ digs _)) = _
      unfold digs
      rw [append_bytes, ← HD.out]
theorem rDigits_any (n : Int) (h : -1000000000000 ≤ n ∧ n ≤ 1000000000000) (w : World) :
    Calls Tryd.prog 35 #[.int .i64 n] w fun e w' => e = .returned (.string (digs n)) ∧ Below w.heap.size w w' := by
  rcases Int.lt_or_le n 0 with h0 | h0
  · obtain ⟨m, hm⟩ : ∃ m : Nat, n = -(m : Int) := ⟨(-n).toNat, by omega⟩
    subst hm
    have hm1 : 1 ≤ m := by omega
    have HD := Lib.hid (digs_neg1 hm1)
    by_cases h10 : m < 10
    · have HP := Lib.hid (fun w' => (rDigits_pos (m + 1) m (by omega) (by omega) w' : Calls Tryd.prog 35 #[.int .i64 (m : Int)] w' fun e w'' => e = .returned (.string (digs (m : Int))) ∧ Below w'.heap.size w' w''))
      have hb1 : 0 < m := by omega
      have hml : (m : Int) < 10 := by omega
      have hs1 : (digs (m : Int)).size ≤ 21 := digs_size (by omega)
      clear h h0 h10
      have hL := Loc.start w
      go_enter Tryd.func35, Tryd.ntmps35
      go_wp2_with (go_at_call 35; (with_reducible refine (HP.out _).mono ?_); rintro e w3 ⟨rfl, hb⟩; replace hL := hL.grow hb; clear hb; dsimp only)
      go_ret
      refine ⟨?_, hL.below⟩
      show Ending.returned (Value.string ((⟨[45].toArray⟩ : ByteArray) ++ digs _)) = _
      unfold digs
      rw [append_bytes, HD.out]; rfl
    · have HP := Lib.hid (fun w' => (by exact rDigits_pos (m / 10 + 1) (m / 10) (by omega) (by omega) w' : Calls Tryd.prog 35 #[.int .i64 ((m : Int) / 10)] w' fun e w'' => e = .returned (.string (digs ((m : Int) / 10))) ∧ Below w'.heap.size w' w''))
      have HP2 := Lib.hid (fun w' => (by exact rDigits_pos (m % 10 + 1) (m % 10) (by omega) (by omega) w' : Calls Tryd.prog 35 #[.int .i64 ((m : Int) % 10)] w' fun e w'' => e = .returned (.string (digs ((m : Int) % 10))) ∧ Below w'.heap.size w' w''))
      have HD2 := Lib.hid (digs_pos (n := m) (by omega))
      have hb1 : 0 < m := by omega
      have hs1 : (digs ((m : Int) / 10)).size ≤ 21 := digs_size (by omega)
      have hs2 : (digs ((m : Int) % 10)).size ≤ 21 := digs_size (by omega)
      have hb2 : decide ((m : Int) < 10) = false := by simp; omega
      have hml : (m : Int) ≤ 1000000000000 := by omega
      have hmg : 10 ≤ (m : Int) := by omega
      clear h h0 h10
      have hL := Loc.start w
      go_enter Tryd.func35, Tryd.ntmps35
      go_wp2_with (first | (go_at_call 35; (with_reducible refine (HP.out _).mono ?_); rintro e w3 ⟨rfl, hb⟩; replace hL := hL.grow hb; clear hb; dsimp only) | (go_at_call 35; (with_reducible refine (HP2.out _).mono ?_); rintro e w3 ⟨rfl, hb⟩; replace hL := hL.grow hb; clear hb; dsimp only))
      go_ret
      refine ⟨?_, hL.below⟩
      show Ending.returned (Value.string (((⟨[45].toArray⟩ : ByteArray) ++ digs _) ++ digs _)) = _
      unfold digs
      rw [append_bytes, append_bytes, HD.out, HD2.out]; rfl
  · obtain ⟨m, rfl⟩ : ∃ m : Nat, n = m := ⟨n.toNat, by omega⟩
    exact rDigits_pos (m + 1) m (by omega) (by omega) w

end Go.Proofs.YtdghcnopoanieaaDoor
