/- Plain: what is printed parses to what it was, and nothing else does; the document's way to take numbers and to print. Conditions: none. -/
import Derived.Test.YtdghcnopoanieaaDoorParP
set_option linter.unusedSimpArgs false
set_option linter.unusedVariables false
namespace Go.Proofs.YtdghcnopoanieaaDoor

/-! ### A program that is right prints as a text that parses to it -/
theorem checkOne_parts {p : Pg} {i : Ins} (h : checkOne p i = 0) : betw i.kind 1 19 = true ∧ noneB p i = false ∧ rangeB i = false ∧ formB i = false := by
  unfold checkOne at h
  cases h1 : betw i.kind 1 19 <;> cases h2 : noneB p i <;> cases h3 : rangeB i <;> cases h4 : formB i <;> simp_all
theorem small_num {p : Pg} (hp : Small p) {i : Ins} (h : checkOne p i = 0) : ∀ j, j < (namesS i.kind).size → -2147483648 ≤ getC i (letter (namesS i.kind) j) ∧ getC i (letter (namesS i.kind) j) ≤ 2147483647 := by
  obtain ⟨hb, hn, hr, -⟩ := checkOne_parts h
  obtain ⟨v1, v2, f1, f2, n1⟩ := hp
  clear h
  intro j hj
  have h3 := few hj (names_few hb)
  obtain ⟨kd, to, a, b, n, g⟩ := i
  dsimp only at hb hn hr hj ⊢
  rcases kinds_of hb with rfl | rfl | rfl | rfl | rfl | rfl | rfl | rfl | rfl | rfl | rfl | rfl | rfl | rfl | rfl | rfl | rfl | rfl | rfl <;> rcases h3 with rfl | rfl | rfl <;>
    first
      | (exact absurd hj (by decide))
      | (simp [noneB, nTo, nA, nB, nGoto, betw] at hn; simp [rangeB, betw] at hr; simp [letter, namesS, namesL, getC]; omega)
theorem instr_line {p : Pg} (hp : Small p) {i : Ins} (h : checkOne p i = 0) : instrD (lineD i) = some i := by
  obtain ⟨hb, -, -, hf⟩ := checkOne_parts h
  have hs := small_num hp h
  have hp32 : pieces 32 (lineD i) = wordOf i.kind :: argsD i := pieces_glue (by simp) (fun q hq => by
    rcases List.mem_cons.1 hq with rfl | hq
    · exact (word_no hb).1
    · obtain ⟨c, _, rfl⟩ := List.mem_map.1 hq
      exact itoa_no (by decide))
  have hall : (argsD i).all numB = true := by
    rw [List.all_eq_true]
    intro q hq
    obtain ⟨j, hj, rfl⟩ := List.mem_iff_getElem.1 hq
    have hj2 : j < (namesS i.kind).size := by rw [← args_len]; exact hj
    have := args_at hj2
    rw [List.getD_eq_getElem?_getD, List.getElem?_eq_getElem hj, Option.getD_some] at this
    rw [this]
    exact numB_itoa (hs j hj2)
  unfold instrD
  rw [hp32, instrW, kindW_word hb]
  dsimp only
  rw [if_pos ⟨args_len i, hall⟩]
  congr 1
  rw [fill_congr (ws := fun j => getC i (letter (namesS i.kind) j)) (fun t ht => ?_)]
  · exact fill_self hb ((form_iff hb).1 hf)
  · rw [args_at ht]
    exact numV_itoa (Nat.le_trans (itoa_short (hs t ht)) (by decide))
theorem body_print {p : Pg} (hp : Small p) : ∀ (is : List Ins) (n : Nat), (∀ i ∈ is, checkOne p i = 0) → bodyD n (is.map lineD ++ [[]]) = .ok is
  | [], n, _ => rfl
  | i :: is, n, h => by
    rw [List.map_cons, List.cons_append, bodyD_cons (by simp), instr_line hp (h i List.mem_cons_self)]
    dsimp only
    rw [body_print hp is (n + 1) (fun j hj => h j (List.mem_cons_of_mem _ hj))]
theorem head_print {v f : Int} (hv : -2147483648 ≤ v ∧ v ≤ 2147483647) (hf : -2147483648 ≤ f ∧ f ≤ 2147483647) : headD (headT v f) = some (v, f) := by
  have h32 : pieces 32 (headT v f) = [varsW, Lib.itoa v, fieldsW, Lib.itoa f] := pieces_glue (by simp) (fun q hq => by
    simp only [List.mem_cons, List.not_mem_nil, or_false] at hq
    rcases hq with rfl | rfl | rfl | rfl
    · decide
    · exact itoa_no (by decide)
    · decide
    · exact itoa_no (by decide))
  unfold headD
  rw [h32, headW, if_pos ⟨rfl, rfl, numB_itoa hv, numB_itoa hf⟩, numV_itoa (Nat.le_trans (itoa_short hv) (by decide)), numV_itoa (Nat.le_trans (itoa_short hf) (by decide))]
theorem parse_print {p : Pg} (hp : Small p) {is : List Ins} (h : ∀ i ∈ is, checkOne p i = 0) : parseD (printD p.vars p.fields is) = .ok ((p.vars, p.fields), is) := by
  have h10 : pieces 10 (printD p.vars p.fields is) = headT p.vars p.fields :: (is.map lineD ++ [[]]) := pieces_glue (by simp) (fun q hq => by
    rcases List.mem_cons.1 hq with rfl | hq
    · exact head_no _ _
    · rcases List.mem_append.1 hq with hq | hq
      · obtain ⟨i, hi, rfl⟩ := List.mem_map.1 hq
        exact line_no (checkOne_parts (h i hi)).1
      · rw [List.mem_singleton.1 hq]; simp)
  obtain ⟨v1, v2, f1, f2, n1⟩ := hp
  unfold parseD
  rw [h10, linesD, if_neg (by simp), head_print (by omega) (by omega), body_print ⟨v1, v2, f1, f2, n1⟩ is 2 h]

/-! ### A text that parses is what is printed -/
theorem line_of {l : Byt} {i : Ins} (h : instrD l = some i) : lineD i = l := by
  unfold instrD at h
  have hg := glue_pieces 32 l
  cases hp : pieces 32 l with
  | nil => exact absurd hp (pieces_ne _ _)
  | cons wd args =>
    rw [hp] at h hg
    unfold instrW at h
    dsimp only at h
    cases hk : kindW wd with
    | none => rw [hk] at h; cases h
    | some k =>
      rw [hk] at h
      dsimp only at h
      split at h
      · rename_i hc
        obtain ⟨hlen, hall⟩ := hc
        obtain ⟨hb, hw⟩ := kindW_some hk
        have hi := Option.some.inj h
        subst hi
        unfold lineD
        rw [fill_kind, hw]
        have ha : argsD (fillI (namesS k) k (fun j => numV (args.getD j [])) (namesS k).size) = args := by
          apply List.ext_getElem?
          intro j
          by_cases hj : j < (namesS k).size
          · have hj2 : j < args.length := by omega
            have h1 := args_at (i := fillI (namesS k) k (fun j => numV (args.getD j [])) (namesS k).size) (j := j) (by rw [fill_kind]; exact hj)
            rw [fill_kind, fill_get hb _ j hj, List.getD_eq_getElem?_getD, List.getD_eq_getElem?_getD, List.getElem?_eq_getElem hj2, Option.getD_some] at h1
            have hnb := List.all_eq_true.1 hall args[j] (List.getElem_mem hj2)
            rw [numV_of hnb] at h1
            have hj3 : j < (argsD (fillI (namesS k) k (fun j => numV (args.getD j [])) (namesS k).size)).length := by rw [args_len, fill_kind]; exact hj
            rw [List.getElem?_eq_getElem hj3, Option.getD_some] at h1
            rw [List.getElem?_eq_getElem hj3, List.getElem?_eq_getElem hj2, h1]
          · rw [List.getElem?_eq_none (by rw [args_len, fill_kind]; omega), List.getElem?_eq_none (by omega)]
        rw [ha]
        exact hg
      · cases h
theorem body_of : ∀ (r : List Byt) (n : Nat) (is : List Ins), r ≠ [] → bodyD n r = .ok is → r = is.map lineD ++ [[]]
  | [], _, _, h, _ => absurd rfl h
  | [l], n, is, _, h => by
    unfold bodyD at h
    split at h
    · rename_i h1
      cases h
      subst h1
      rfl
    · cases h
  | l :: q :: r, n, is, _, h => by
    rw [bodyD_cons (by simp)] at h
    cases hi : instrD l with
    | none => rw [hi] at h; cases h
    | some i =>
      rw [hi] at h
      dsimp only at h
      cases hb : bodyD (n + 1) (q :: r) with
      | error m => rw [hb] at h; cases h
      | ok js =>
        rw [hb] at h
        cases h
        rw [body_of (q :: r) (n + 1) js (by simp) hb, List.map_cons, List.cons_append, line_of hi]
theorem head_of {l : Byt} {v f : Int} (h : headD l = some (v, f)) : headT v f = l := by
  unfold headD at h
  have hg := glue_pieces 32 l
  generalize pieces 32 l = ps at h hg
  unfold headW at h
  split at h
  · rename_i a b c d
    split at h
    · rename_i hc
      obtain ⟨rfl, rfl, h1, h2⟩ := hc
      cases h
      unfold headT
      rw [numV_of h1, numV_of h2]
      exact hg
    · cases h
  · cases h
theorem print_parse {s : Byt} {v f : Int} {is : List Ins} (h : parseD s = .ok ((v, f), is)) : printD v f is = s := by
  have hg := glue_pieces 10 s
  unfold parseD at h
  cases hp : pieces 10 s with
  | nil => exact absurd hp (pieces_ne _ _)
  | cons l r =>
    rw [hp] at h hg
    unfold linesD at h
    dsimp only at h
    split at h
    · cases h
    · rename_i hr
      cases hh : headD l with
      | none => rw [hh] at h; cases h
      | some q =>
        rw [hh] at h
        dsimp only at h
        cases hb : bodyD 2 r with
        | error m => rw [hb] at h; cases h
        | ok js =>
          rw [hb] at h
          cases h
          rw [printD, head_of hh, ← body_of r 2 is hr hb]
          exact hg

/-! ### Printing, piece by piece -/
theorem glue_lines (l : Byt) (is : List Ins) : glue 10 (l :: (is.map lineD ++ [[]])) = l ++ 10 :: is.flatMap (fun i => lineD i ++ [10]) := by
  induction is generalizing l with
  | nil => simp [glue]
  | cons i is ih =>
    rw [List.map_cons, List.cons_append, glue_cons (by simp), ih]
    simp
/-- What is printed of the first instructions. -/
def printT (v f : Int) (is : List Ins) : Byt := headT v f ++ 10 :: is.flatMap (fun i => lineD i ++ [10])
theorem printD_eq (v f : Int) (is : List Ins) : printD v f is = printT v f is := glue_lines _ _
theorem printT_snoc (v f : Int) (is : List Ins) (i : Ins) : printT v f (is ++ [i]) = printT v f is ++ (lineD i ++ [10]) := by
  simp [printT, List.flatMap_append]
theorem itoa_len {n : Int} (h0 : -9223372036854775808 ≤ n) (h1 : n ≤ 9223372036854775807) : (Lib.itoa n).length ≤ 21 := Lib.itoa_length_le n h0 h1
theorem word_len {k : Int} (hk : betw k 1 19 = true) : (wordOf k).length ≤ 6 := by
  rcases kinds_of hk with rfl | rfl | rfl | rfl | rfl | rfl | rfl | rfl | rfl | rfl | rfl | rfl | rfl | rfl | rfl | rfl | rfl | rfl | rfl <;> decide +kernel
/-- What is printed of an instruction up to its k-th letter. -/
def lineT (i : Ins) (k : Nat) : Byt := wordOf i.kind ++ ((argsD i).take k).flatMap (fun a => 32 :: a)
theorem glue_flat (w : Byt) (al : List Byt) : glue 32 (w :: al) = w ++ al.flatMap (fun a => 32 :: a) := by
  induction al generalizing w with
  | nil => simp [glue]
  | cons a al ih => rw [glue_cons (by simp), ih]; simp
theorem lineT_all {i : Ins} {k : Nat} (h : k = (namesS i.kind).size) : lineT i k = lineD i := by
  rw [lineT, lineD, glue_flat, List.take_of_length_le (by rw [args_len]; omega)]
theorem lineT_succ {i : Ins} {k : Nat} (h : k < (namesS i.kind).size) : lineT i (k + 1) = lineT i k ++ 32 :: Lib.itoa (getC i (letter (namesS i.kind) k)) := by
  have hk : k < (argsD i).length := by rw [args_len]; exact h
  have h1 := args_at h
  rw [List.getD_eq_getElem?_getD, List.getElem?_eq_getElem hk, Option.getD_some] at h1
  unfold lineT
  rw [← List.take_append_getElem hk, List.flatMap_append, List.append_assoc, h1]
  simp
/-- The document's line. -/
def lineR (i : Ins) : Byt :=
  if i.kind = 13 then wordOf i.kind ++ 32 :: Lib.itoa i.a ++ 32 :: Lib.itoa i.n ++ 32 :: Lib.itoa i.b else
  (((((wordOf i.kind ++ (if nTo i.kind then 32 :: Lib.itoa i.to else [])) ++ (if nA i.kind then 32 :: Lib.itoa i.a else [])) ++ (if nB i.kind then 32 :: Lib.itoa i.b else [])) ++ (if nN i.kind then 32 :: Lib.itoa i.n else [])) ++ (if nGoto i.kind then 32 :: Lib.itoa i.goto else []))
theorem lineR_eq {i : Ins} (hb : betw i.kind 1 19 = true) : lineR i = lineD i := by
  rw [lineD, glue_flat]
  obtain ⟨kd, to, a, b, n, g⟩ := i
  dsimp only at hb
  unfold lineR argsD namesOf
  dsimp only
  generalize hw : wordOf kd = wd
  clear hw
  rcases kinds_of hb with rfl | rfl | rfl | rfl | rfl | rfl | rfl | rfl | rfl | rfl | rfl | rfl | rfl | rfl | rfl | rfl | rfl | rfl | rfl <;>
    simp [namesS, namesL, getC, nTo, nA, nB, nN, nGoto, betw]

/-! ### The document's way to take an instruction's numbers -/
def takeR (ns : List Int) (is : Bool) (at' : Nat) : Int × Nat := if is && decide (at' < ns.length) then (ns.getD at' 0, at' + 1) else (0, if is then 99 else at')
def insR (ns : List Int) (k : Int) : Ins × Nat :=
  let t1 := takeR ns (nTo k) 0
  let t2 := takeR ns (nA k) t1.2
  let t3 := if k = 13 then takeR ns true t2.2 else (0, t2.2)
  let t4 := takeR ns (nB k) t3.2
  let t5 := if k = 13 then (t3.1, t4.2) else takeR ns (nN k) t4.2
  let t6 := takeR ns (nGoto k) t5.2
  (⟨k, t1.1, t2.1, t4.1, t5.1, t6.1⟩, t6.2)
theorem insR_eq {k : Int} (hb : betw k 1 19 = true) (ns : List Int) : (ns.length = (namesS k).size → insR ns k = (fillI (namesS k) k (fun j => ns.getD j 0) (namesS k).size, ns.length)) ∧ (ns.length ≠ (namesS k).size → (insR ns k).2 ≠ ns.length) := by
  match ns with
  | [] => rcases kinds_of hb with rfl | rfl | rfl | rfl | rfl | rfl | rfl | rfl | rfl | rfl | rfl | rfl | rfl | rfl | rfl | rfl | rfl | rfl | rfl <;> simp [insR, takeR, namesS, namesL, ByteArray.size, nTo, nA, nB, nN, nGoto, betw, fillI, letter, setC, zeroI]
  | [a] => rcases kinds_of hb with rfl | rfl | rfl | rfl | rfl | rfl | rfl | rfl | rfl | rfl | rfl | rfl | rfl | rfl | rfl | rfl | rfl | rfl | rfl <;> simp [insR, takeR, namesS, namesL, ByteArray.size, nTo, nA, nB, nN, nGoto, betw, fillI, letter, setC, zeroI]
  | [a, b] => rcases kinds_of hb with rfl | rfl | rfl | rfl | rfl | rfl | rfl | rfl | rfl | rfl | rfl | rfl | rfl | rfl | rfl | rfl | rfl | rfl | rfl <;> simp [insR, takeR, namesS, namesL, ByteArray.size, nTo, nA, nB, nN, nGoto, betw, fillI, letter, setC, zeroI]
  | [a, b, c] => rcases kinds_of hb with rfl | rfl | rfl | rfl | rfl | rfl | rfl | rfl | rfl | rfl | rfl | rfl | rfl | rfl | rfl | rfl | rfl | rfl | rfl <;> simp [insR, takeR, namesS, namesL, ByteArray.size, nTo, nA, nB, nN, nGoto, betw, fillI, letter, setC, zeroI]
  | a :: b :: c :: d :: r =>
    refine ⟨fun h => ?_, fun _ => ?_⟩
    · have : (namesS k).size ≤ 3 := names_few hb
      simp only [List.length_cons] at h; omega
    · rcases kinds_of hb with rfl | rfl | rfl | rfl | rfl | rfl | rfl | rfl | rfl | rfl | rfl | rfl | rfl | rfl | rfl | rfl | rfl | rfl | rfl <;> simp [insR, takeR, nTo, nA, nB, nN, nGoto, betw] <;> omega
end Go.Proofs.YtdghcnopoanieaaDoor
