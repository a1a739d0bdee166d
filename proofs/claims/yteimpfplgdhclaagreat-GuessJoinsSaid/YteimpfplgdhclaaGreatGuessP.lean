/- Plain facts on guesses: what a right guess is; when two are the same. Conditions: those of each law. -/
import Derived.Test.YteimpfplgdhclaaGreatGuessE
import Derived.Test.YteimpfplgdhclaaGreatGuessL
import Derived.Test.YteimpfplgdhclaaGreatGuessJ
set_option linter.unusedSimpArgs false
set_option linter.unusedVariables false
namespace Go.Proofs.YteimpfplgdhclaaGreat
open Go.RowKit

structure RightGu (g : Gu) (l : List Int) : Prop where
  span : checkSpan g.span = 0
  n : g.s.n = l.length
  ins : inS l
  asc : ascS l
  le : l.length ≤ 60
theorem fewS {l : List Int} (h1 : inS l) (h2 : ascS l) : l.length ≤ 60 := by
  have h3 := mix_union (m := []) h1 (fun x hx => by cases hx)
  rw [mix_nil h2] at h3
  rw [h3, ← unionTo_60]
  exact unionTo_le _ _ _
theorem RightGu.of {p : Pg} {is : Nat → Ins} {g : Gu} {l : List Int} (h : rightG p is g l = 0) (hp : checkProg p is = 0) (hn : g.s.n = l.length) : RightGu g l := by
  unfold rightG at h
  by_cases h1 : checkSpan g.span = 0
  · rw [if_neg (by omega)] at h
    by_cases h2 : siteBadG p is l = true
    · rw [if_pos h2] at h; omega
    · rw [if_neg h2] at h
      by_cases h3 : dropI l = true
      · rw [if_pos h3] at h; omega
      · have ha : ascS l := ascS_of (by simpa using h3)
        have hi : inS l := by
          intro x hx
          obtain ⟨k, hk, he⟩ := List.mem_iff_getElem.1 hx
          have h4 : (!isSite p is (l.getD k 0)) = false := by
            cases h5 : (!isSite p is (l.getD k 0)) with
            | false => rfl
            | true => exact absurd (anyN_yes (q := fun k => !isSite p is (l.getD k 0)) hk h5) h2
          rw [List.getD_eq_getElem?_getD, List.getElem?_eq_getElem hk] at h4
          simp only [Option.getD_some, he] at h4
          have hpn : p.n ≤ 60 := by
            unfold checkProg at hp
            split at hp
            · omega
            · split at hp
              · omega
              · omega
          simp [isSite] at h4
          omega
        exact ⟨h1, hn, hi, ha, fewS hi ha⟩
  · rw [if_pos h1] at h
    exact absurd h h1
theorem both_none {s : Span} (h : checkSpan s = 0) : both s noSpan = s := by
  obtain ⟨_, _, h3⟩ := checkSpan_zero h
  obtain ⟨n, lo, hi⟩ := s
  cases n with
  | true =>
    obtain ⟨rfl, rfl⟩ := h3 rfl
    rfl
  | false => rfl
theorem common_nil (l m : List Int) (h : l = []) : commonI l m = false := by
  subst h
  rfl
theorem one_single (g : Gu) : oneG g = true ↔ (g.s.n = 0 ∧ cnt4 g.null (!g.span.none) g.tr g.fa = 1 ∧ g.span.lo = g.span.hi) := by
  have h0 : 0 ≤ cnt4 g.null g.tr g.fa (!g.span.none) := by
    unfold cnt4 cntB
    cases g.null <;> cases g.tr <;> cases g.fa <;> cases g.span.none <;> decide
  have h1 : cnt4 g.null (!g.span.none) g.tr g.fa = cnt4 g.null g.tr g.fa (!g.span.none) := by
    unfold cnt4
    omega
  rw [h1]
  simp only [oneG, Bool.and_eq_true, beq_iff_eq]
  omega
theorem single_neg (g : Gu) (h : oneG g = false) : singleG g = -1 := by
  have h1 := one_single g
  rw [h] at h1
  unfold singleG
  have : (cnt4 g.null (!g.span.none) g.tr g.fa != 1 || decide (0 < g.s.n) || g.span.lo != g.span.hi) = true := by
    simp only [Bool.or_eq_true, bne_iff_ne, decide_eq_true_eq, ne_eq]
    have h2 : ¬ (g.s.n = 0 ∧ cnt4 g.null (!g.span.none) g.tr g.fa = 1 ∧ g.span.lo = g.span.hi) := fun hh => by
      have := h1.2 hh
      cases this
    omega
  rw [this]
  rfl
theorem single_pos (g : Gu) (h : oneG g = true) : singleG g = whichN (pick4 g.null (!g.span.none) g.tr g.fa) 4 ∧ cnt4 g.null (!g.span.none) g.tr g.fa = 1 ∧ g.s.n = 0 ∧ g.span.lo = g.span.hi := by
  obtain ⟨h1, h2, h3⟩ := (one_single g).1 h
  refine ⟨?_, h2, h1, h3⟩
  unfold singleG
  rw [h2, h1, h3]
  simp
theorem which_one {a b c d : Bool} (h : cnt4 a b c d = 1) : (a = true ∧ b = false ∧ c = false ∧ d = false ∧ whichN (pick4 a b c d) 4 = 0) ∨ (a = false ∧ b = true ∧ c = false ∧ d = false ∧ whichN (pick4 a b c d) 4 = 1) ∨ (a = false ∧ b = false ∧ c = true ∧ d = false ∧ whichN (pick4 a b c d) 4 = 2) ∨ (a = false ∧ b = false ∧ c = false ∧ d = true ∧ whichN (pick4 a b c d) 4 = 3) := by
  cases a <;> cases b <;> cases c <;> cases d <;> first | (exact absurd h (by decide)) | (simp [whichN, pick4])
theorem same_eq {g h : Gu} {l m : List Int} (hg : RightGu g l) (hh : RightGu h m) : notSame g h l m = rNotSame g h := by
  unfold notSame rNotSame
  cases h1 : oneG g with
  | false => simp [single_neg g h1]
  | true =>
    obtain ⟨s1, c1, n1, e1⟩ := single_pos g h1
    cases h2 : oneG h with
    | false =>
      have : singleG h = -1 := single_neg h h2
      rcases which_one c1 with ⟨_, _, _, _, hw⟩ | ⟨_, _, _, _, hw⟩ | ⟨_, _, _, _, hw⟩ | ⟨_, _, _, _, hw⟩ <;> simp [this, s1, hw]
    | true =>
      obtain ⟨s2, c2, n2, e2⟩ := single_pos h h2
      have hl : l = [] := List.eq_nil_of_length_eq_zero (by rw [← hg.n]; exact n1)
      rw [s1, s2]
      unfold maySame
      rw [common_nil l m hl]
      obtain ⟨_, _, z1⟩ := checkSpan_zero hg.span
      obtain ⟨_, _, z2⟩ := checkSpan_zero hh.span
      obtain ⟨gl, ⟨gn, glo, ghi⟩, gt, gf, gs⟩ := g
      obtain ⟨hl', ⟨hn, hlo, hhi⟩, ht, hf, hs⟩ := h
      dsimp only at *
      subst e1 e2
      rcases which_one c1 with ⟨a1, a2, a3, a4, hw⟩ | ⟨a1, a2, a3, a4, hw⟩ | ⟨a1, a2, a3, a4, hw⟩ | ⟨a1, a2, a3, a4, hw⟩ <;>
      rcases which_one c2 with ⟨b1, b2, b3, b4, hv⟩ | ⟨b1, b2, b3, b4, hv⟩ | ⟨b1, b2, b3, b4, hv⟩ | ⟨b1, b2, b3, b4, hv⟩ <;>
      (rw [hw, hv]; simp only [Bool.not_eq_false', Bool.not_eq_true'] at a2 b2; subst a1 a2 a3 a4 b1 b2 b3 b4; simp at z1 z2; simp [common, z1, z2])
      by_cases he : glo = hlo
      · subst he; simp
      · have h7 : min glo hlo < max glo hlo := by omega
        rw [if_pos h7]
        simp [he]
end Go.Proofs.YteimpfplgdhclaaGreat
