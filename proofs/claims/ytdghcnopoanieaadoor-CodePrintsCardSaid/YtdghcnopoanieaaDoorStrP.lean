/- Plain: a text cut at a sign. Conditions: none. -/
import Derived.Lib.SplitLaws
import Derived.Test.YtdghcnopoanieaaDoorNumP
set_option linter.unusedSimpArgs false
set_option linter.unusedVariables false
namespace Go.Proofs.YtdghcnopoanieaaDoor

/-- The pieces of a text between the signs c. -/
def pieces (c : UInt8) : List UInt8 → List (List UInt8)
  | [] => [[]]
  | b :: r => if b = c then [] :: pieces c r else match pieces c r with | p :: ps => (b :: p) :: ps | [] => [[b]]
theorem pieces_ne (c : UInt8) : ∀ s, pieces c s ≠ []
  | [] => by simp [pieces]
  | b :: r => by
    unfold pieces
    split
    · simp
    · split <;> simp
theorem pieces_cons {c b : UInt8} {r : List UInt8} (h : b ≠ c) : ∃ p ps, pieces c r = p :: ps ∧ pieces c (b :: r) = (b :: p) :: ps := by
  cases hp : pieces c r with
  | nil => exact absurd hp (pieces_ne c r)
  | cons p ps => exact ⟨p, ps, rfl, by rw [pieces, if_neg h, hp]⟩
theorem pieces_idx (c : UInt8) : ∀ s : List UInt8, (Lib.index s [c] = -1 → pieces c s = [s]) ∧ (∀ i : Nat, Lib.index s [c] = i → pieces c s = s.take i :: pieces c (s.drop (i + 1)))
  | [] => ⟨fun _ => rfl, fun i h => by simp [Lib.index] at h⟩
  | b :: r => by
    obtain ⟨h1, h2⟩ := pieces_idx c r
    by_cases hb : b = c
    · subst hb
      refine ⟨fun h => ?_, fun i h => ?_⟩
      · simp [Lib.index, List.isPrefixOf] at h
      · have : i = 0 := by simp [Lib.index, List.isPrefixOf] at h; omega
        subst this
        simp [pieces]
    · have hp : [c].isPrefixOf (b :: r) = false := by
        have : (c == b) = false := by rw [beq_eq_false_iff_ne]; exact fun h => hb h.symm
        simp [List.isPrefixOf, this]
      have hge := Lib.index_ge r [c]
      refine ⟨fun h => ?_, fun i h => ?_⟩
      · have hm : Lib.index r [c] = -1 := by
          rw [Lib.index, hp] at h
          simp only [Bool.false_eq_true, if_false] at h
          split at h
          · rename_i h3; simpa using h3
          · omega
        rw [pieces, if_neg hb, h1 hm]
      · rw [Lib.index, hp] at h
        simp only [Bool.false_eq_true, if_false] at h
        split at h
        · omega
        · rename_i h3
          simp at h3
          obtain ⟨j, rfl⟩ : ∃ j, i = j + 1 := ⟨i - 1, by omega⟩
          rw [pieces, if_neg hb, h2 j (by omega)]
          simp
theorem pieces_split (c : UInt8) : ∀ (k : Nat) (s : List UInt8), Lib.count s [c] = k → Lib.splitK [c] 0 k s = pieces c s
  | 0, s, h => by
    rcases Lib.index_spec s [c] with ⟨h1, _⟩ | ⟨i, h1, _⟩
    · rw [(pieces_idx c s).1 h1]; rfl
    · rw [Lib.count_hit (by simp) h1] at h; omega
  | k + 1, s, h => by
    rcases Lib.index_spec s [c] with ⟨h1, _⟩ | ⟨i, h1, _⟩
    · rw [Lib.count_miss h1] at h; omega
    · rw [Lib.count_hit (by simp) h1] at h
      have hn : ¬ (Lib.index s [c] == -1) = true := by rw [h1, beq_iff_eq]; omega
      rw [Lib.splitK, if_neg hn, (pieces_idx c s).2 i h1, h1]
      simp only [Int.toNat_natCast, Nat.add_zero, List.length_cons, List.length_nil, Nat.zero_add]
      rw [pieces_split c k _ (by simp only [List.length_cons, List.length_nil, Nat.zero_add] at h; omega)]
/-- What strings.Split hands back at a sep of one byte. -/
theorem split_pieces (c : UInt8) (s : ByteArray) : (Lib.splitB ⟨#[c]⟩ 0 (Lib.countB s ⟨#[c]⟩) s).map (·.data.toList) = pieces c s.data.toList := by
  rw [Lib.splitB_data]
  exact pieces_split c _ _ rfl
theorem split_strings (c : UInt8) (s : ByteArray) : (Lib.splitB ⟨#[c]⟩ 0 (Lib.countB s ⟨#[c]⟩) s).map Value.string = (pieces c s.data.toList).map (fun l => Value.string ⟨l.toArray⟩) := by
  rw [← split_pieces, List.map_map]
  refine List.map_congr_left fun x _ => ?_
  simp
theorem split_count (c : UInt8) (s : ByteArray) : Lib.countB s ⟨#[c]⟩ + 1 = (pieces c s.data.toList).length := by
  have h := congrArg List.length (split_pieces c s)
  rw [List.length_map, Lib.splitB_all ⟨#[c]⟩ (Nat.le_refl 1) 0 _ s rfl] at h
  exact h
/-- What strings.Cut hands back at a sep of one byte. -/
theorem cut_pieces (c : UInt8) (s : List UInt8) : ((Lib.cut s [c]).2.2 = false ∧ pieces c s = [s] ∧ Lib.cut s [c] = (s, [], false)) ∨
    ((Lib.cut s [c]).2.2 = true ∧ pieces c s = (Lib.cut s [c]).1 :: pieces c (Lib.cut s [c]).2.1 ∧ (Lib.cut s [c]).1.length + (Lib.cut s [c]).2.1.length + 1 = s.length) := by
  rcases Lib.index_spec s [c] with ⟨h1, _⟩ | ⟨i, h1, h2, _⟩
  · refine .inl ?_
    have e : Lib.cut s [c] = (s, [], false) := by unfold Lib.cut; rw [h1, if_neg (by omega)]
    exact ⟨by rw [e], (pieces_idx c s).1 h1, e⟩
  · refine .inr ?_
    have hr := Lib.index_room s [c] (by omega)
    simp only [List.length_cons, List.length_nil, Nat.zero_add] at hr
    have e : Lib.cut s [c] = (s.take i, s.drop (i + 1), true) := by unfold Lib.cut; rw [h1, if_pos (by omega)]; simp
    rw [e]
    exact ⟨rfl, (pieces_idx c s).2 i h1, by simp; omega⟩
/-- The pieces put together again. -/
def glue (c : UInt8) : List (List UInt8) → List UInt8
  | [] => []
  | [p] => p
  | p :: ps => p ++ c :: glue c ps
theorem glue_cons {c : UInt8} {p : List UInt8} {ps : List (List UInt8)} (h : ps ≠ []) : glue c (p :: ps) = p ++ c :: glue c ps := by
  cases ps with
  | nil => exact absurd rfl h
  | cons => rfl
theorem glue_pieces (c : UInt8) : ∀ s, glue c (pieces c s) = s
  | [] => rfl
  | b :: r => by
    by_cases h : b = c
    · subst h
      rw [pieces, if_pos rfl, glue_cons (pieces_ne b r), glue_pieces b r]; rfl
    · obtain ⟨p, ps, h1, h2⟩ := pieces_cons (r := r) h
      have ih := glue_pieces c r
      rw [h2]
      rw [h1] at ih
      cases ps with
      | nil => simp only [glue] at ih ⊢; rw [ih]
      | cons q qs => simp only [glue] at ih ⊢; rw [List.cons_append, ih]
theorem pieces_none {c : UInt8} : ∀ {s : List UInt8}, c ∉ s → pieces c s = [s]
  | [], _ => rfl
  | b :: r, h => by
    simp only [List.mem_cons, not_or] at h
    rw [pieces, if_neg (fun e => h.1 e.symm), pieces_none h.2]
theorem pieces_app {c : UInt8} : ∀ {p r : List UInt8}, c ∉ p → pieces c (p ++ c :: r) = p :: pieces c r
  | [], r, _ => by rw [List.nil_append, pieces, if_pos rfl]
  | b :: p, r, h => by
    simp only [List.mem_cons, not_or] at h
    rw [List.cons_append, pieces, if_neg (fun e => h.1 e.symm), pieces_app h.2]
theorem pieces_glue {c : UInt8} : ∀ {ps : List (List UInt8)}, ps ≠ [] → (∀ p ∈ ps, c ∉ p) → pieces c (glue c ps) = ps
  | [], h, _ => absurd rfl h
  | [p], _, h => by rw [glue, pieces_none (h p List.mem_cons_self)]
  | p :: q :: qs, _, h => by
    rw [glue_cons (by simp), pieces_app (h p List.mem_cons_self), pieces_glue (by simp) (fun x hx => h x (List.mem_cons_of_mem _ hx))]
theorem pieces_mem {c : UInt8} : ∀ {s p : List UInt8}, p ∈ pieces c s → c ∉ p
  | [], p, h => by simp [pieces] at h; subst h; simp
  | b :: r, p, h => by
    by_cases hb : b = c
    · subst hb
      rw [pieces, if_pos rfl] at h
      rcases List.mem_cons.1 h with rfl | h
      · simp
      · exact pieces_mem h
    · obtain ⟨q, ps, h1, h2⟩ := pieces_cons (r := r) hb
      rw [h2] at h
      rcases List.mem_cons.1 h with rfl | h
      · have := pieces_mem (s := r) (p := q) (c := c) (by rw [h1]; exact List.mem_cons_self)
        simp only [List.mem_cons, not_or]
        exact ⟨fun e => hb e.symm, this⟩
      · exact pieces_mem (s := r) (by rw [h1]; exact List.mem_cons_of_mem _ h)
theorem pieces_len {c : UInt8} : ∀ {s p : List UInt8}, p ∈ pieces c s → p.length ≤ s.length
  | [], p, h => by simp [pieces] at h; subst h; simp
  | b :: r, p, h => by
    by_cases hb : b = c
    · subst hb
      rw [pieces, if_pos rfl] at h
      rcases List.mem_cons.1 h with rfl | h
      · simp
      · have := pieces_len h; simp; omega
    · obtain ⟨q, ps, h1, h2⟩ := pieces_cons (r := r) hb
      rw [h2] at h
      rcases List.mem_cons.1 h with rfl | h
      · have := pieces_len (s := r) (p := q) (c := c) (by rw [h1]; exact List.mem_cons_self)
        simp; omega
      · have := pieces_len (s := r) (c := c) (by rw [h1]; exact List.mem_cons_of_mem _ h : p ∈ pieces c r)
        simp; omega
theorem pieces_count (c : UInt8) : ∀ s : List UInt8, (pieces c s).length ≤ s.length + 1
  | [] => by simp [pieces]
  | b :: r => by
    have ih := pieces_count c r
    by_cases hb : b = c
    · subst hb; rw [pieces, if_pos rfl]; simp; omega
    · obtain ⟨q, ps, h1, h2⟩ := pieces_cons (r := r) hb
      rw [h2]; rw [h1] at ih; simp at ih ⊢; omega
end Go.Proofs.YtdghcnopoanieaaDoor
