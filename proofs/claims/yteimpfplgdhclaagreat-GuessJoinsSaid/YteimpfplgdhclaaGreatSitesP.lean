/- Plain facts on lists of ints: sorted and compacted they are the ascending list of their members. Conditions: none. -/
import Derived.Test.YteimpfplgdhclaaGreatGuessB
import Derived.Lib.SlicesCompact
set_option linter.unusedSimpArgs false
set_option linter.unusedVariables false
namespace Go.Proofs.YteimpfplgdhclaaGreat
open Go.RowKit

theorem asc_ext : ∀ {l m : List Int}, l.Pairwise (fun a b => a < b) → m.Pairwise (fun a b => a < b) → (∀ x, x ∈ l ↔ x ∈ m) → l = m
  | [], [], _, _, _ => rfl
  | [], b :: m, _, _, h => absurd ((h b).2 List.mem_cons_self) (by simp)
  | a :: l, [], _, _, h => absurd ((h a).1 List.mem_cons_self) (by simp)
  | a :: l, b :: m, hl, hm, h => by
    rw [List.pairwise_cons] at hl hm
    have hab : a = b := by
      rcases List.mem_cons.1 ((h a).1 List.mem_cons_self) with e | e
      · exact e
      · rcases List.mem_cons.1 ((h b).2 List.mem_cons_self) with e2 | e2
        · exact e2.symm
        · have := hl.1 b e2
          have := hm.1 a e
          omega
    subst hab
    refine congrArg (a :: ·) (asc_ext hl.2 hm.2 fun x => ⟨fun hx => ?_, fun hx => ?_⟩)
    · rcases List.mem_cons.1 ((h x).1 (List.mem_cons_of_mem _ hx)) with e | e
      · subst e; exact absurd (hl.1 x hx) (by omega)
      · exact e
    · rcases List.mem_cons.1 ((h x).2 (List.mem_cons_of_mem _ hx)) with e | e
      · subst e; exact absurd (hm.1 x hx) (by omega)
      · exact e

theorem compactUpTo_asc (d : Array Int) (hd : ∀ i j, i ≤ j → j < d.size → d[i]! ≤ d[j]!) : ∀ m, m ≤ d.size → (Lib.compactUpTo d m).Pairwise (fun a b => a < b) ∧ ∀ x, x ∈ Lib.compactUpTo d m ↔ ∃ j, j < m ∧ d[j]! = x
  | 0, _ => ⟨by simp [Lib.compactUpTo], fun x => by simp [Lib.compactUpTo]⟩
  | m + 1, hm => by
    obtain ⟨h1, h2⟩ := compactUpTo_asc d hd m (by omega)
    rw [Lib.compactUpTo_succ]
    by_cases hk : Lib.keeps d m = true
    · rw [if_pos hk]
      have hk' : m = 0 ∨ d[m]! ≠ d[m - 1]! := by simpa [Lib.keeps] using hk
      refine ⟨?_, fun x => ?_⟩
      · rw [List.pairwise_append]
        refine ⟨h1, by simp, fun a ha b hb => ?_⟩
        rw [List.mem_singleton.1 hb]
        obtain ⟨j, hj, rfl⟩ := (h2 a).1 ha
        have h3 := hd j (m - 1) (by omega) (by omega)
        have h4 := hd (m - 1) m (by omega) (by omega)
        rcases hk' with h | h
        · omega
        · have : d[m - 1]! ≠ d[m]! := fun e => h e.symm
          omega
      · rw [List.mem_append, List.mem_singleton, h2]
        constructor
        · rintro (⟨j, hj, h⟩ | h)
          · exact ⟨j, by omega, h⟩
          · exact ⟨m, by omega, h.symm⟩
        · rintro ⟨j, hj, h⟩
          rcases Nat.lt_or_ge j m with h5 | h5
          · exact .inl ⟨j, h5, h⟩
          · obtain rfl : j = m := by omega
            exact .inr h.symm
    · rw [if_neg hk, List.append_nil]
      have hk' : m ≠ 0 ∧ d[m]! = d[m - 1]! := by
        have : ¬ (m = 0 ∨ d[m]! ≠ d[m - 1]!) := by simpa [Lib.keeps] using hk
        exact ⟨fun e => this (.inl e), Classical.not_not.1 fun e => this (.inr e)⟩
      refine ⟨h1, fun x => ?_⟩
      rw [h2]
      constructor
      · rintro ⟨j, hj, h⟩
        exact ⟨j, by omega, h⟩
      · rintro ⟨j, hj, h⟩
        rcases Nat.lt_or_ge j m with h5 | h5
        · exact ⟨j, h5, h⟩
        · obtain rfl : j = m := by omega
          exact ⟨j - 1, by omega, by rw [← hk'.2]; exact h⟩

theorem compact_asc {zs : List Int} (h : zs.Pairwise (fun a b => a ≤ b)) : (Lib.compact zs).Pairwise (fun a b => a < b) ∧ ∀ x, x ∈ Lib.compact zs ↔ x ∈ zs := by
  have hg : ∀ i, i < zs.length → zs.toArray[i]! = zs.getD i 0 := fun i hi => by simp [List.getD_eq_getElem?_getD, hi]
  have hd : ∀ i j, i ≤ j → j < zs.toArray.size → zs.toArray[i]! ≤ zs.toArray[j]! := fun i j hij hj => by
    have hj' : j < zs.length := by simpa using hj
    rw [hg i (by omega), hg j hj', List.getD_eq_getElem?_getD, List.getD_eq_getElem?_getD, List.getElem?_eq_getElem (by omega), List.getElem?_eq_getElem hj']
    show zs[i] ≤ zs[j]
    rcases Nat.lt_or_ge i j with h1 | h1
    · exact List.pairwise_iff_getElem.1 h i j (by omega) hj' h1
    · obtain rfl : i = j := by omega
      exact Int.le_refl _
  obtain ⟨h1, h2⟩ := compactUpTo_asc zs.toArray hd zs.length (by simp)
  refine ⟨h1, fun x => (h2 x).trans ?_⟩
  constructor
  · rintro ⟨j, hj, hx⟩
    rw [hg j hj, List.getD_eq_getElem?_getD, List.getElem?_eq_getElem hj] at hx
    have : zs[j] = x := hx
    exact this ▸ List.getElem_mem hj
  · intro hx
    obtain ⟨j, hj, he⟩ := List.mem_iff_getElem.1 hx
    exact ⟨j, hj, by rw [hg j hj, List.getD_eq_getElem?_getD, List.getElem?_eq_getElem hj]; exact he⟩

/-- Both lists' members, ascending. -/
def mixS (l m : List Int) : List Int := Lib.compact ((l ++ m).mergeSort fun x y => decide (x ≤ y))
def unionS (l m : List Int) : List Int := ((List.range 60).map fun k : Nat => (k : Int)).filter fun s => hasI l s || hasI m s
def inS (l : List Int) : Prop := ∀ x ∈ l, 0 ≤ x ∧ x < 60
def ascS (l : List Int) : Prop := l.Pairwise (fun a b => a < b)

theorem mix_asc (l m : List Int) : ascS (mixS l m) ∧ ∀ x, x ∈ mixS l m ↔ x ∈ l ∨ x ∈ m := by
  have hs : ((l ++ m).mergeSort fun x y => decide (x ≤ y)).Pairwise (fun a b => a ≤ b) := by
    have := List.pairwise_mergeSort (le := fun x y : Int => decide (x ≤ y)) (fun a b c h1 h2 => by simp only [decide_eq_true_eq] at *; omega) (fun a b => by simp only [Bool.or_eq_true, decide_eq_true_eq]; omega) (l ++ m)
    exact this.imp (fun h => by simpa using h)
  obtain ⟨h1, h2⟩ := compact_asc hs
  exact ⟨h1, fun x => by rw [mixS, h2, List.mem_mergeSort, List.mem_append]⟩
theorem union_asc (l m : List Int) : ascS (unionS l m) := by
  unfold unionS ascS
  refine List.Pairwise.filter _ ?_
  rw [List.pairwise_map]
  exact List.pairwise_lt_range.imp (fun h => by omega)
theorem mix_union {l m : List Int} (hl : inS l) (hm : inS m) : mixS l m = unionS l m := by
  obtain ⟨h1, h2⟩ := mix_asc l m
  refine asc_ext h1 (union_asc l m) fun x => ?_
  rw [h2, unionS, List.mem_filter, List.mem_map, Bool.or_eq_true, hasI_iff, hasI_iff]
  constructor
  · intro h
    have h3 : 0 ≤ x ∧ x < 60 := h.elim (hl x) (hm x)
    exact ⟨⟨x.toNat, List.mem_range.2 (by omega), by omega⟩, h⟩
  · exact fun h => h.2
theorem mix_nil {l : List Int} (h : ascS l) : mixS l [] = l :=
  asc_ext (mix_asc l []).1 h fun x => by rw [(mix_asc l []).2]; simp
/-- Does one place hold no more than the place before it? -/
def dropI (l : List Int) : Bool := anyN (fun k => decide (l.getD (k + 1) 0 ≤ l.getD k 0)) (l.length - 1)
theorem ascS_of {l : List Int} (h : dropI l = false) : ascS l := by
  have hs : ∀ k, k + 1 < l.length → l.getD k 0 < l.getD (k + 1) 0 := fun k hk => by
    have : ¬ anyN (fun k => decide (l.getD (k + 1) 0 ≤ l.getD k 0)) (l.length - 1) = true := by
      show ¬ dropI l = true
      rw [h]; decide
    rw [anyN_iff] at this
    have h2 : ¬ (l.getD (k + 1) 0 ≤ l.getD k 0) := fun e => this ⟨k, by omega, by simpa using e⟩
    omega
  have hm : ∀ j i, i < j → j < l.length → l.getD i 0 < l.getD j 0 := fun j => by
    induction j with
    | zero => intro i hi; omega
    | succ j ih =>
      intro i hi hj
      rcases Nat.lt_or_ge i j with h1 | h1
      · exact Int.lt_trans (ih i h1 (by omega)) (hs j hj)
      · obtain rfl : i = j := by omega
        exact hs i hj
  unfold ascS
  rw [List.pairwise_iff_getElem]
  intro i j hi hj hij
  have := hm j i hij hj
  rwa [List.getD_eq_getElem?_getD, List.getD_eq_getElem?_getD, List.getElem?_eq_getElem hi, List.getElem?_eq_getElem hj] at this
end Go.Proofs.YteimpfplgdhclaaGreat
