/- Plain: what a text parses to, line by line, and what a program prints as. Conditions: none. -/
import Derived.Test.YtdghcnopoanieaaDoorStrP
import Derived.Test.YtdghcnopoanieaaDoorCop
set_option linter.unusedSimpArgs false
set_option linter.unusedVariables false
namespace Go.Proofs.YtdghcnopoanieaaDoor

abbrev Byt := List UInt8
def zeroI (k : Int) : Ins := ⟨k, 0, 0, 0, 0, 0⟩
def setC (i : Ins) (c v : Int) : Ins := if c = 118 then { i with to := v } else if c = 97 then { i with a := v } else if c = 98 then { i with b := v } else if c = 103 then { i with goto := v } else { i with n := v }
/-- An instruction of kind k whose letters are vs. -/
def fillI (ns : ByteArray) (k : Int) (vs : Nat → Int) : Nat → Ins
  | 0 => zeroI k
  | j + 1 => setC (fillI ns k vs j) (letter ns j) (vs j)
def kindsI : List Int := [1, 2, 3, 4, 5, 6, 7, 8, 9, 10, 11, 12, 13, 14, 15, 16, 17, 18, 19]
theorem mem_kinds {k : Int} : k ∈ kindsI ↔ betw k 1 19 = true := by
  simp [kindsI, betw]; omega
/-- The kind of a word. -/
def kindW (wd : Byt) : Option Int := kindsI.find? (fun k => decide ((wordS k).data.toList = wd))
def wordOf (k : Int) : Byt := (wordS k).data.toList
theorem kindW_some {wd : Byt} {k : Int} (h : kindW wd = some k) : betw k 1 19 = true ∧ wordOf k = wd := by
  have h1 := List.mem_of_find?_eq_some h
  have h2 := List.find?_some h
  exact ⟨mem_kinds.1 h1, by simpa [wordOf] using h2⟩
theorem kindW_none {wd : Byt} (h : kindW wd = none) : ∀ k, betw k 1 19 = true → wordOf k ≠ wd := fun k hk => by
  have := List.find?_eq_none.1 h k (mem_kinds.2 hk)
  simpa [wordOf] using this
set_option maxRecDepth 100000 in
theorem words_apart : (kindsI.all fun a => kindsI.all fun b => decide (wordOf a = wordOf b → a = b)) = true := by decide +kernel
theorem word_inj {a b : Int} (ha : betw a 1 19 = true) (hb : betw b 1 19 = true) (h : wordOf a = wordOf b) : a = b := by
  have h1 := List.all_eq_true.1 words_apart a (mem_kinds.2 ha)
  have h2 := List.all_eq_true.1 h1 b (mem_kinds.2 hb)
  exact (of_decide_eq_true h2) h
theorem kindW_word {k : Int} (h : betw k 1 19 = true) : kindW (wordOf k) = some k := by
  cases hk : kindW (wordOf k) with
  | none => exact absurd rfl (kindW_none hk k h)
  | some j =>
    obtain ⟨h1, h2⟩ := kindW_some hk
    rw [word_inj h1 h h2]
/-- An instruction's words: its word, then its numbers. -/
def instrW : List Byt → Option Ins
  | [] => none
  | wd :: args => match kindW wd with
    | none => none
    | some k => if args.length = (namesS k).size ∧ args.all numB = true then some (fillI (namesS k) k (fun j => numV (args.getD j [])) (namesS k).size) else none
def instrD (line : Byt) : Option Ins := instrW (pieces 32 line)
def varsW : Byt := [118, 97, 114, 115]
def fieldsW : Byt := [102, 105, 101, 108, 100, 115]
def headW : List Byt → Option (Int × Int)
  | [a, b, c, d] => if a = varsW ∧ c = fieldsW ∧ numB b = true ∧ numB d = true then some (numV b, numV d) else none
  | _ => none
def headD (line : Byt) : Option (Int × Int) := headW (pieces 32 line)
/-- The lines behind the head; n is the line's number; an error tells the line. -/
def bodyD : Nat → List Byt → Except Nat (List Ins)
  | _, [] => .ok []
  | n, [l] => if l = [] then .ok [] else .error n
  | n, l :: r => match instrD l with
    | none => .error n
    | some i => match bodyD (n + 1) r with
      | .ok is => .ok (i :: is)
      | .error m => .error m
theorem bodyD_cons {n : Nat} {l : Byt} {r : List Byt} (h : r ≠ []) : bodyD n (l :: r) = match instrD l with
    | none => .error n
    | some i => match bodyD (n + 1) r with
      | .ok is => .ok (i :: is)
      | .error m => .error m := by
  cases r with
  | nil => exact absurd rfl h
  | cons => rfl
def linesD : List Byt → Except Nat ((Int × Int) × List Ins)
  | l :: r => if r = [] then .error 1 else match headD l with
    | none => .error 1
    | some h => match bodyD 2 r with
      | .ok is => .ok (h, is)
      | .error m => .error m
  | [] => .error 1
def parseD (s : Byt) : Except Nat ((Int × Int) × List Ins) := linesD (pieces 10 s)

/-! ### Printing -/
def namesOf (k : Int) : Byt := (namesS k).data.toList
def argsD (i : Ins) : List Byt := (namesOf i.kind).map (fun c => Lib.itoa (getC i (c.toNat : Int)))
def lineD (i : Ins) : Byt := glue 32 (wordOf i.kind :: argsD i)
def headT (v f : Int) : Byt := glue 32 [varsW, Lib.itoa v, fieldsW, Lib.itoa f]
def printD (v f : Int) (is : List Ins) : Byt := glue 10 (headT v f :: (is.map lineD ++ [[]]))

theorem names_size (k : Int) : (namesS k).size = (namesOf k).length := (Array.length_toList).symm
theorem letter_at {k : Int} {j : Nat} (h : j < (namesS k).size) : letter (namesS k) j = (((namesOf k)[j]'(by rw [← names_size]; exact h)).toNat : Int) := by
  have h2 : j < (namesOf k).length := by rw [← names_size]; exact h
  show (((namesOf k).getD j 0).toNat : Int) = _
  rw [List.getD_eq_getElem?_getD, List.getElem?_eq_getElem h2, Option.getD_some]
theorem args_len (i : Ins) : (argsD i).length = (namesS i.kind).size := by rw [argsD, List.length_map, names_size]
theorem args_at {i : Ins} {j : Nat} (h : j < (namesS i.kind).size) : (argsD i).getD j [] = Lib.itoa (getC i (letter (namesS i.kind) j)) := by
  have h2 : j < (namesOf i.kind).length := by rw [← names_size]; exact h
  rw [letter_at h, argsD, List.getD_eq_getElem?_getD, List.getElem?_map, List.getElem?_eq_getElem h2]
  rfl
/-- The letters of an instruction tell it. -/
theorem fill_get {k : Int} (hk : betw k 1 19 = true) (vs : Nat → Int) : ∀ j, j < (namesS k).size → getC (fillI (namesS k) k vs (namesS k).size) (letter (namesS k) j) = vs j := by
  intro j hj
  have h3 : j = 0 ∨ j = 1 ∨ j = 2 := by
    have : (namesS k).size ≤ 3 := by rcases kinds_of hk with rfl | rfl | rfl | rfl | rfl | rfl | rfl | rfl | rfl | rfl | rfl | rfl | rfl | rfl | rfl | rfl | rfl | rfl | rfl <;> decide +kernel
    omega
  rcases kinds_of hk with rfl | rfl | rfl | rfl | rfl | rfl | rfl | rfl | rfl | rfl | rfl | rfl | rfl | rfl | rfl | rfl | rfl | rfl | rfl <;> rcases h3 with rfl | rfl | rfl <;>
    first
      | (exact absurd hj (by decide))
      | (simp [namesS, namesL, ByteArray.size, fillI, letter, setC, getC, zeroI])
theorem fill_kind (ns : ByteArray) (k : Int) (vs : Nat → Int) : ∀ j, (fillI ns k vs j).kind = k
  | 0 => rfl
  | j + 1 => by
    rw [fillI, setC]
    split; exact fill_kind ns k vs j
    split; exact fill_kind ns k vs j
    split; exact fill_kind ns k vs j
    split; exact fill_kind ns k vs j
    exact fill_kind ns k vs j
theorem fill_congr {ns : ByteArray} {k : Int} {vs ws : Nat → Int} : ∀ {j : Nat}, (∀ t, t < j → vs t = ws t) → fillI ns k vs j = fillI ns k ws j
  | 0, _ => rfl
  | j + 1, h => by rw [fillI, fillI, fill_congr (fun t ht => h t (by omega)), h j (by omega)]
/-- An instruction of its form is what its letters fill in. -/
theorem fill_self {i : Ins} (hk : betw i.kind 1 19 = true) (hf : restOf (namesS i.kind) i (namesS i.kind).size = ⟨i.kind, 0, 0, 0, 0, 0⟩) : fillI (namesS i.kind) i.kind (fun j => getC i (letter (namesS i.kind) j)) (namesS i.kind).size = i := by
  obtain ⟨kd, to, a, b, n, g⟩ := i
  dsimp only at hk hf ⊢
  rcases kinds_of hk with rfl | rfl | rfl | rfl | rfl | rfl | rfl | rfl | rfl | rfl | rfl | rfl | rfl | rfl | rfl | rfl | rfl | rfl | rfl <;>
    (simp [namesS, namesL, ByteArray.size, restOf, letter, zeroC] at hf; simp [namesS, namesL, ByteArray.size, fillI, letter, setC, getC, zeroI, hf])

theorem digits_dig (u : Nat) : ∀ c ∈ Lib.decDigits u, 48 ≤ c.toNat ∧ c.toNat ≤ 57 := by
  induction u using Nat.strongRecOn with
  | _ u ih =>
    rw [Lib.decDigits]
    split
    · rename_i h
      intro c hc
      rw [List.mem_singleton.1 hc, UInt8.toNat_ofNat']
      omega
    · rename_i h
      intro c hc
      rcases List.mem_append.1 hc with hc | hc
      · exact ih (u / 10) (by omega) c hc
      · rw [List.mem_singleton.1 hc, UInt8.toNat_ofNat']
        omega
theorem itoa_dig {n : Int} {c : UInt8} (h : c ∈ Lib.itoa n) : 45 ≤ c.toNat := by
  unfold Lib.itoa at h
  split at h
  · rcases List.mem_cons.1 h with rfl | h
    · decide
    · have := digits_dig _ c h; omega
  · have := digits_dig _ c h; omega
theorem itoa_no {n : Int} {c : UInt8} (hc : c.toNat < 45) : c ∉ Lib.itoa n := fun h => by have := itoa_dig h; omega
theorem word_no {k : Int} (hk : betw k 1 19 = true) : 32 ∉ wordOf k ∧ 10 ∉ wordOf k := by
  rcases kinds_of hk with rfl | rfl | rfl | rfl | rfl | rfl | rfl | rfl | rfl | rfl | rfl | rfl | rfl | rfl | rfl | rfl | rfl | rfl | rfl <;> decide +kernel
theorem glue_mem {c x : UInt8} : ∀ {ps : List Byt}, x ∈ glue c ps → x = c ∨ ∃ p ∈ ps, x ∈ p
  | [], h => by simp [glue] at h
  | [p], h => .inr ⟨p, List.mem_cons_self, h⟩
  | p :: q :: qs, h => by
    rw [glue_cons (by simp)] at h
    rcases List.mem_append.1 h with h | h
    · exact .inr ⟨p, List.mem_cons_self, h⟩
    · rcases List.mem_cons.1 h with h | h
      · exact .inl h
      · rcases glue_mem h with h | ⟨r, hr, h⟩
        · exact .inl h
        · exact .inr ⟨r, List.mem_cons_of_mem _ hr, h⟩
theorem line_no {i : Ins} (hk : betw i.kind 1 19 = true) : 10 ∉ lineD i := fun h => by
  rcases glue_mem h with h | ⟨p, hp, h⟩
  · exact absurd h (by decide)
  · rcases List.mem_cons.1 hp with rfl | hp
    · exact (word_no hk).2 h
    · obtain ⟨c, _, rfl⟩ := List.mem_map.1 hp
      exact itoa_no (by decide) h
theorem head_no (v f : Int) : 10 ∉ headT v f := fun h => by
  rcases glue_mem h with h | ⟨p, hp, h⟩
  · exact absurd h (by decide)
  · simp only [List.mem_cons, List.not_mem_nil, or_false] at hp
    rcases hp with rfl | rfl | rfl | rfl
    · exact absurd h (by decide)
    · exact itoa_no (by decide) h
    · exact absurd h (by decide)
    · exact itoa_no (by decide) h
/-- A number of 32 bits has at most eleven bytes. -/
theorem itoa_short {n : Int} (h : -2147483648 ≤ n ∧ n ≤ 2147483647) : (Lib.itoa n).length ≤ 11 := by
  have hd : ∀ u : Nat, u < 10000000000 → (Lib.decDigits u).length ≤ 10 := fun u hu => by
    rw [Lib.decDigits_length]
    rcases Nat.lt_or_ge u 10 with h1 | h1
    · rw [Lib.nDigits_small h1]; omega
    have hp := Lib.nDigits_pos u
    rcases Nat.lt_or_ge (Lib.nDigits u) 11 with h2 | h2
    · omega
    · exfalso
      have : ∀ k v : Nat, k + 1 < Lib.nDigits v → 10 ^ (k + 1) ≤ v := by
        intro k
        induction k with
        | zero =>
          intro v hv
          rcases Nat.lt_or_ge v 10 with h3 | h3
          · rw [Lib.nDigits_small h3] at hv; omega
          · simpa using h3
        | succ k ih =>
          intro v hv
          rcases Nat.lt_or_ge v 10 with h3 | h3
          · rw [Lib.nDigits_small h3] at hv; omega
          · rw [Lib.nDigits_big (by omega)] at hv
            have := ih (v / 10) (by omega)
            rw [Nat.pow_succ]
            omega
      have := this 9 u (by omega)
      omega
  unfold Lib.itoa
  split
  · have := hd n.natAbs (by omega)
    simp; omega
  · have := hd n.toNat (by omega)
    omega
theorem numB_itoa {n : Int} (h : -2147483648 ≤ n ∧ n ≤ 2147483647) : numB (Lib.itoa n) = true := numB_iff.2 ⟨itoa_short h, n, rfl⟩
end Go.Proofs.YtdghcnopoanieaaDoor
