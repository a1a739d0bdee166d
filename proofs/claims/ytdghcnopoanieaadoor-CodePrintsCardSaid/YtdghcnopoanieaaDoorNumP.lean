/- Plain: numerals of at most eleven bytes, as strconv's Atoi and Itoa tell them and as the document does. Conditions: none. -/
import Derived.Lib.ItoaLen
import Derived.Lib.AtoiTie
import Derived.Lib.AtoiAllCases
set_option linter.unusedSimpArgs false
set_option linter.unusedVariables false
namespace Go.Proofs.YtdghcnopoanieaaDoor

/-- Is a text the numeral of a number, in at most eleven bytes? -/
def numB (l : List UInt8) : Bool := match Lib.atoiAll l with | .ok n => decide (l.length ≤ 11) && decide (Lib.itoa n = l) | _ => false
/-- What Atoi hands back beside its error. -/
def numV (l : List UInt8) : Int := match Lib.atoiAll l with | .ok n => n | .range => Lib.atoiSat l | _ => 0

theorem decFrom_app : ∀ (l r : List UInt8) (a : Nat), Lib.decFrom a (l ++ r) = (Lib.decFrom a l).bind (fun m => Lib.decFrom m r)
  | [], r, a => rfl
  | b :: l, r, a => by
    simp only [List.cons_append, Lib.decFrom]
    cases Lib.digitVal b with
    | none => rfl
    | some d => exact decFrom_app l r _
theorem digit_val {u : Nat} (h : u < 10) : Lib.digitVal (UInt8.ofNat (48 + u)) = some u := by
  have e : (UInt8.ofNat (48 + u)).toNat = 48 + u := by rw [UInt8.toNat_ofNat']; omega
  unfold Lib.digitVal
  rw [e, if_pos (by omega)]
  congr 1
  omega
theorem dec_digits (u : Nat) : Lib.decFrom 0 (Lib.decDigits u) = some u := by
  induction u using Nat.strongRecOn with
  | _ u ih =>
    rw [Lib.decDigits]
    split
    · rename_i h
      simp only [Lib.decFrom, digit_val h]
      congr 1
      omega
    · rename_i h
      rw [decFrom_app, ih (u / 10) (by omega)]
      simp only [Option.bind_some, Lib.decFrom, digit_val (Nat.mod_lt u (by omega))]
      congr 1
      omega
theorem digits_head (u : Nat) : ∃ c r, Lib.decDigits u = c :: r ∧ 48 ≤ c.toNat ∧ c.toNat ≤ 57 := by
  induction u using Nat.strongRecOn with
  | _ u ih =>
    rw [Lib.decDigits]
    split
    · rename_i h
      refine ⟨_, [], rfl, ?_⟩
      rw [UInt8.toNat_ofNat']
      omega
    · rename_i h
      obtain ⟨c, r, e, h2⟩ := ih (u / 10) (by omega)
      exact ⟨c, r ++ [UInt8.ofNat (48 + u % 10)], by rw [e]; rfl, h2⟩
theorem atoi_itoa (n : Int) : Lib.atoi (Lib.itoa n) = some n := by
  unfold Lib.itoa
  split
  · rename_i h
    obtain ⟨c, r, e, h2⟩ := digits_head n.natAbs
    have hd := dec_digits n.natAbs
    simp only [Lib.atoi, Lib.decNat, beq_self_eq_true, if_true]
    rw [hd, e]
    simp
    omega
  · rename_i h
    obtain ⟨c, r, e, h2⟩ := digits_head n.toNat
    have hd := dec_digits n.toNat
    rw [e] at hd ⊢
    have h45 : (c == 45) = false := by rw [beq_eq_false_iff_ne]; rintro rfl; exact absurd h2.1 (by decide)
    have h43 : (c == 43) = false := by rw [beq_eq_false_iff_ne]; rintro rfl; exact absurd h2.1 (by decide)
    simp only [Lib.atoi, h45, h43, Lib.decNat, hd, List.isEmpty_cons]
    simp
    omega
theorem itoa_inj {n m : Int} (h : Lib.itoa n = Lib.itoa m) : n = m := by
  have h1 := atoi_itoa n
  rw [h, atoi_itoa m] at h1
  exact (Option.some.inj h1).symm
theorem all_itoa {n : Int} (h : (Lib.itoa n).length ≤ 18) : Lib.atoiAll (Lib.itoa n) = .ok n := by
  rw [Lib.atoiAll_short _ h, atoi_itoa]; rfl
theorem numB_iff {l : List UInt8} : numB l = true ↔ l.length ≤ 11 ∧ ∃ n, Lib.itoa n = l := by
  unfold numB
  constructor
  · intro h
    split at h
    · simp at h; exact ⟨h.1, _, h.2⟩
    · cases h
  · rintro ⟨h, n, rfl⟩
    rw [all_itoa (by omega)]
    simpa using h
theorem numV_itoa {n : Int} (h : (Lib.itoa n).length ≤ 18) : numV (Lib.itoa n) = n := by
  unfold numV; rw [all_itoa h]
theorem numV_of {l : List UInt8} (h : numB l = true) : Lib.itoa (numV l) = l := by
  obtain ⟨h1, n, rfl⟩ := numB_iff.1 h
  rw [numV_itoa (by omega)]
theorem numV_bounds (l : List UInt8) : -9223372036854775808 ≤ numV l ∧ numV l ≤ 9223372036854775807 := by
  unfold numV
  split
  · rename_i h; exact Lib.atoiAll_bounds h
  · exact Lib.atoiSat_bounds l
  · decide

/-! ### The document's way -/
/-- Behind the sign. -/
def tailD (l : List UInt8) : List UInt8 := if l.head? = some 45 then l.tail else l
def signD (l : List UInt8) (m : Nat) : Int := if l.head? = some 45 then -(m : Int) else m
def undB (l : List UInt8) : Bool := if tailD l = [] ∨ 11 < l.length then false else match Lib.decFrom 0 (tailD l) with | none => false | some m => decide (Lib.itoa (signD l m) = l)
def undV (l : List UInt8) : Int := if tailD l = [] ∨ 11 < l.length then 0 else match Lib.decFrom 0 (tailD l) with | none => 0 | some m => signD l m
theorem und_itoa (n : Int) : tailD (Lib.itoa n) ≠ [] ∧ ∃ m, Lib.decFrom 0 (tailD (Lib.itoa n)) = some m ∧ signD (Lib.itoa n) m = n := by
  unfold Lib.itoa
  split
  · rename_i h
    obtain ⟨c, r, e, h2⟩ := digits_head n.natAbs
    refine ⟨by simp [tailD, e], n.natAbs, by simpa [tailD] using dec_digits n.natAbs, ?_⟩
    simp [signD]
    omega
  · rename_i h
    obtain ⟨c, r, e, h2⟩ := digits_head n.toNat
    have h45 : ¬ c = 45 := by rintro rfl; exact absurd h2.1 (by decide)
    have hd := dec_digits n.toNat
    rw [e] at hd ⊢
    have ht : tailD (c :: r) = c :: r := by simp [tailD, h45]
    refine ⟨by rw [ht]; simp, n.toNat, by rw [ht]; exact hd, ?_⟩
    simp [signD, h45]
    omega
theorem und_num (l : List UInt8) : undB l = numB l := by
  rw [Bool.eq_iff_iff, numB_iff]
  constructor
  · intro h
    unfold undB at h
    split at h
    · cases h
    · rename_i h1
      split at h
      · cases h
      · rename_i m hm
        exact ⟨by omega, _, by simpa using h⟩
  · rintro ⟨h, n, rfl⟩
    obtain ⟨h1, m, h2, h3⟩ := und_itoa n
    unfold undB
    rw [if_neg (by rintro (h4 | h4); exact h1 h4; omega), h2]
    simp [h3]
theorem undV_num {l : List UInt8} (h : numB l = true) : undV l = numV l := by
  obtain ⟨h, n, rfl⟩ := numB_iff.1 h
  obtain ⟨h1, m, h2, h3⟩ := und_itoa n
  rw [numV_itoa (by omega)]
  unfold undV
  rw [if_neg (by rintro (h4 | h4); exact h1 h4; omega), h2]
  exact h3
end Go.Proofs.YtdghcnopoanieaaDoor
