/- The reference's StepOf answers the plain step. Conditions: the program is right, and the run's values are. -/
import Derived.Test.YtkdbehgekeidoaaDoorStepAll
set_option linter.unusedSimpArgs false
set_option linter.unusedVariables false
namespace Go.Proofs.YtkdbehgekeidoaaDoor
open Go.RowKit

theorem firstErr_zero {f : Nat → Int} : ∀ {m k : Nat}, firstErr f k m = 0 → ∀ j, j < m → f (k + j) = 0
  | 0, _, _, j, hj => absurd hj (by omega)
  | m + 1, k, h, j, hj => by
    unfold firstErr at h
    split at h
    · rename_i h1; exact absurd h h1
    · rename_i h1
      rcases Nat.eq_zero_or_pos j with rfl | hj0
      · simpa using h1
      · have := firstErr_zero h (j - 1) (by omega)
        rwa [show k + 1 + (j - 1) = k + j by omega] at this
theorem prog_right {p : Pg} {is : Nat → Ins} (h : checkProg p is = 0) : Small p ∧ ∀ k, k < p.n → checkOne p (is k) = 0 := by
  unfold checkProg at h
  split at h
  · cases h
  rename_i h1
  split at h
  · cases h
  rename_i h2
  exact ⟨small_of (by simpa using h1) h2, fun k hk => by simpa using firstErr_zero h k hk⟩

structure ValidV (v : Vl) (n : Nat) : Prop where
  k : 0 ≤ v.kind ∧ v.kind ≤ 3
  z : v.kind = 0 → v.n = 0
  i : v.kind = 1 → Num32 v.n
  t : v.kind = 2 → 0 ≤ v.n ∧ v.n ≤ 1
  th : v.kind = 3 → 0 ≤ v.n ∧ v.n < n
theorem valid_of {v : Vl} {n : Nat} (h : isValue v n = true) : ValidV v n := by
  obtain ⟨k, m⟩ := v
  unfold isValue at h
  dsimp only at h
  split at h
  · rename_i h1; subst h1
    have : m = 0 := by simpa using h
    exact ⟨by simp, fun _ => this, fun h => (by simp at h), fun h => (by simp at h), fun h => (by simp at h)⟩
  split at h
  · rename_i h1; subst h1
    have : -2147483648 ≤ m ∧ m ≤ 2147483647 := by simpa [betw] using h
    exact ⟨by simp, fun h => (by simp at h), fun _ => this, fun h => (by simp at h), fun h => (by simp at h)⟩
  split at h
  · rename_i h1; subst h1
    have : 0 ≤ m ∧ m ≤ 1 := by simpa [betw] using h
    exact ⟨by simp, fun h => (by simp at h), fun h => (by simp at h), fun _ => this, fun h => (by simp at h)⟩
  split at h
  · rename_i h1; subst h1
    have : 0 ≤ m ∧ m ≤ n - 1 := by simpa [betw] using h
    exact ⟨by simp, fun h => (by simp at h), fun h => (by simp at h), fun h => (by simp at h), fun _ => ⟨this.1, by show m < n; omega⟩⟩
  · cases h
theorem ValidV.counts {v : Vl} {n : Nat} (h : ValidV v n) : countsR v = countsV v := by
  obtain ⟨k, m⟩ := v
  have hk := h.k
  dsimp only at hk
  have hz := h.z
  dsimp only at hz
  have : k = 0 ∨ k = 1 ∨ k = 2 ∨ k = 3 := by omega
  rcases this with rfl | rfl | rfl | rfl <;> simp [countsR, countsV]
theorem ValidV.small {v : Vl} {n : Nat} (h : ValidV v n) (hn : n ≤ 100) : -9223372036854775808 ≤ v.n ∧ v.n ≤ 9223372036854775807 := by
  have h1 := h.k
  have h2 := h.z
  have h3 := h.i
  have h4 := h.t
  have h5 := h.th
  unfold Num32 at h3
  have : v.kind = 0 ∨ v.kind = 1 ∨ v.kind = 2 ∨ v.kind = 3 := by omega
  rcases this with e | e | e | e
  · have := h2 e; omega
  · have := h3 e; omega
  · have := h4 e; omega
  · have := h5 e; omega
theorem fits_of {p : Pg} {s : Rs} (h : RightS p s) (hp : Small p) (hl : s.lines.length * 16 ≤ 140737488351232) : Fits s := by
  refine ⟨by have := h.nv; have := hp.v2; omega, h.nt, fun k => ?_, hl⟩
  by_cases hk : k < s.things.length
  · have := h.nf k hk; have := hp.f2; omega
  · simp [Rs.thing, List.getD_eq_getElem?_getD, List.getElem?_eq_none (Nat.le_of_not_lt hk), dT]

theorem same_kin {va vb : Vl} (h : va.kind = vb.kind) : truthV (sameB va vb) = ⟨2, if (va.n == vb.n) then 1 else 0⟩ := by simp [truthV, sameB, h]
theorem same_no {va vb : Vl} (h : (va.kind == vb.kind) = false) : truthV (sameB va vb) = ⟨2, 0⟩ := by simp [truthV, sameB, h]
theorem truth_not {va : Vl} (h : countsR va = countsV va) : truthV (!countsV va) = ⟨2, if (!countsR va) then 1 else 0⟩ := by rw [h]; rfl
set_option maxRecDepth 100000 in
set_option maxHeartbeats 4000000 in
theorem rstep_all (p : Pg) (is : Nat → Ins) (ins : Sl) (xs : Nat → Int) (r0 : Rn) (s : Rs) (w : World) (hr : RunIs w r0 s) (hR : RightS p s) (hP : checkProg p is = 0) (hc : CodeAt w p is) (hin : InputsAt w ins xs) (hl : s.lines.length * 16 ≤ 140737488351232) :
    Calls Tryd.prog 10 #[p.v, r0.v, ins.v] w fun e w' => Gives w (stepS p is ins xs s) e w' := by
  obtain ⟨hsm, hone⟩ := prog_right hP
  have hfit := fits_of hR hsm hl
  by_cases he : ¬ s.ending = 0
  · rw [show stepS p is ins xs s = s by rw [stepS, if_neg he]]
    exact rstep_over p ins r0 s w hr hfit (by simpa using he)
  replace he : s.ending = 0 := Classical.not_not.1 he
  rw [show stepS p is ins xs s = stepM p is ins xs s by rw [stepS, if_pos he]]
  by_cases hn : s.at' = p.n
  · rw [show stepM p is ins xs s = { s with ending := 1 } by rw [stepM, if_pos hn]]
    exact rstep_end p ins r0 s w hr hfit he hn
  have ha := hR.a
  obtain ⟨k, hk⟩ : ∃ k : Nat, s.at' = k := ⟨s.at'.toNat, by omega⟩
  have hkn : k < p.n := by omega
  have hrd := ready_of (hone k hkn)
  have hk6 := hsm.n1
  have hvl : 0 < s.vars.length := by have := hR.nv; have := hsm.v1; omega
  rw [show stepM p is ins xs s = stepI p ins xs (is k) s by rw [stepM, if_neg hn, hk]; rfl]
  rcases hi : is k with ⟨kind, to, ia, ib, num, goto⟩
  rw [hi] at hrd
  obtain ⟨kd, r1, r2, r3, r4, r5, r6, r7, r8⟩ := hrd
  dsimp only at kd r1 r2 r3 r4 r5 r6 r7 r8
  have nv := hR.nv
  have hvv : ∀ x : Nat, x < s.vars.length → ValidV (s.val x) s.things.length := fun x hx => valid_of (hR.vals x hx)
  rcases kinds_of kd with rfl | rfl | rfl | rfl | rfl | rfl | rfl | rfl | rfl | rfl | rfl | rfl | rfl | rfl | rfl | rfl | rfl | rfl | rfl
  · have h1 := r1 rfl
    obtain ⟨t, rfl⟩ : ∃ t : Nat, to = t := ⟨to.toNat, by omega⟩
    rw [show stepI p ins xs ⟨1, (t : Int), ia, ib, num, goto⟩ s = s.set t ⟨1, num⟩ by simp [stepI]]
    exact rstep_1 (ins := ins) (w := w) (hr := hr) (hf := hfit) (hend := he) (hk := hk) (hkn := hkn) (hk6 := hk6) (hc := hc) (hv := hvl) (hi := hi) (ht := by omega)
  · have h1 := r1 rfl
    obtain ⟨t, rfl⟩ : ∃ t : Nat, to = t := ⟨to.toNat, by omega⟩
    have h7 := r7 rfl
    have e : stepI p ins xs ⟨2, (t : Int), ia, ib, num, goto⟩ s = s.set t ⟨2, num⟩ := by
      have : num = 0 ∨ num = 1 := by omega
      rcases this with rfl | rfl <;> simp [stepI, truthV]
    rw [e]
    exact rstep_2 (ins := ins) (w := w) (hr := hr) (hf := hfit) (hend := he) (hk := hk) (hkn := hkn) (hk6 := hk6) (hc := hc) (hv := hvl) (hi := hi) (ht := by omega)
  · have h1 := r1 rfl
    obtain ⟨t, rfl⟩ : ∃ t : Nat, to = t := ⟨to.toNat, by omega⟩
    rw [show stepI p ins xs ⟨3, (t : Int), ia, ib, num, goto⟩ s = s.set t ⟨0, 0⟩ by simp [stepI, dV]]
    exact rstep_3 (ins := ins) (w := w) (hr := hr) (hf := hfit) (hend := he) (hk := hk) (hkn := hkn) (hk6 := hk6) (hc := hc) (hv := hvl) (hi := hi) (ht := by omega)
  · have h1 := r1 rfl
    obtain ⟨t, rfl⟩ : ∃ t : Nat, to = t := ⟨to.toNat, by omega⟩
    have h2 := r2 rfl
    obtain ⟨a, rfl⟩ : ∃ a : Nat, ia = a := ⟨ia.toNat, by omega⟩
    have hva := hvv a (by omega)
    rw [show stepI p ins xs ⟨4, (t : Int), (a : Int), ib, num, goto⟩ s = s.set t (s.val a) by simp [stepI]]
    exact rstep_4 (ins := ins) (w := w) (hr := hr) (hf := hfit) (hend := he) (hk := hk) (hkn := hkn) (hk6 := hk6) (hc := hc) (hv := hvl) (hi := hi) (ht := by omega) (ha := by omega) (hva := rfl)
  · have h1 := r1 rfl
    obtain ⟨t, rfl⟩ : ∃ t : Nat, to = t := ⟨to.toNat, by omega⟩
    have h2 := r2 rfl
    obtain ⟨a, rfl⟩ : ∃ a : Nat, ia = a := ⟨ia.toNat, by omega⟩
    have hva := hvv a (by omega)
    have h3 := r3 rfl
    obtain ⟨b, rfl⟩ : ∃ b : Nat, ib = b := ⟨ib.toNat, by omega⟩
    have hvb := hvv b (by omega)
    have hS : stepI p ins xs ⟨5, (t : Int), (a : Int), (b : Int), num, goto⟩ s = countS 5 t a b s := by simp [stepI]
    rw [hS]
    by_cases hka : (s.val a).kind = 1
    · by_cases hkb : (s.val b).kind = 1
      · have na := hva.i hka
        have nb := hvb.i hkb
        have e : countS 5 t a b s = s.set t ⟨1, wrap32 (wrap64 ((s.val a).n + (s.val b).n))⟩ := by
          rw [countS, if_pos ⟨hka, hkb⟩, if_neg (by decide), Go.IntWalk.wrap64_in _ (by unfold Num32 at na nb; omega)]
          simp [arith]
        rw [e]
        exact rstep_5_yes (ins := ins) (w := w) (hr := hr) (hf := hfit) (hend := he) (hk := hk) (hkn := hkn) (hk6 := hk6) (hc := hc) (hv := hvl) (hi := hi) (ht := by omega) (ha := by omega) (hb := by omega) (hva := by rw [← hka]) (hvb := by rw [← hkb]) (hn := ⟨na, nb⟩)
      · rw [show countS 5 t a b s = { s with ending := 2 } by rw [countS, if_neg (fun h => hkb h.2)]]
        exact rstep_5_noB (ins := ins) (w := w) (hr := hr) (hf := hfit) (hend := he) (hk := hk) (hkn := hkn) (hk6 := hk6) (hc := hc) (hv := hvl) (hi := hi) (ht := by omega) (ha := by omega) (hb := by omega) (hva := by rw [← hka]) (hvb := rfl) (hq := bne_iff_ne.2 hkb)
    · rw [show countS 5 t a b s = { s with ending := 2 } by rw [countS, if_neg (fun h => hka h.1)]]
      exact rstep_5_noA (ins := ins) (w := w) (hr := hr) (hf := hfit) (hend := he) (hk := hk) (hkn := hkn) (hk6 := hk6) (hc := hc) (hv := hvl) (hi := hi) (ht := by omega) (ha := by omega) (hb := by omega) (hva := rfl) (hvb := rfl) (hq := bne_iff_ne.2 hka)
  · have h1 := r1 rfl
    obtain ⟨t, rfl⟩ : ∃ t : Nat, to = t := ⟨to.toNat, by omega⟩
    have h2 := r2 rfl
    obtain ⟨a, rfl⟩ : ∃ a : Nat, ia = a := ⟨ia.toNat, by omega⟩
    have hva := hvv a (by omega)
    have h3 := r3 rfl
    obtain ⟨b, rfl⟩ : ∃ b : Nat, ib = b := ⟨ib.toNat, by omega⟩
    have hvb := hvv b (by omega)
    have hS : stepI p ins xs ⟨6, (t : Int), (a : Int), (b : Int), num, goto⟩ s = countS 6 t a b s := by simp [stepI]
    rw [hS]
    by_cases hka : (s.val a).kind = 1
    · by_cases hkb : (s.val b).kind = 1
      · have na := hva.i hka
        have nb := hvb.i hkb
        have e : countS 6 t a b s = s.set t ⟨1, wrap32 (wrap64 ((s.val a).n - (s.val b).n))⟩ := by
          rw [countS, if_pos ⟨hka, hkb⟩, if_neg (by decide), Go.IntWalk.wrap64_in _ (by unfold Num32 at na nb; omega)]
          simp [arith]
        rw [e]
        exact rstep_6_yes (ins := ins) (w := w) (hr := hr) (hf := hfit) (hend := he) (hk := hk) (hkn := hkn) (hk6 := hk6) (hc := hc) (hv := hvl) (hi := hi) (ht := by omega) (ha := by omega) (hb := by omega) (hva := by rw [← hka]) (hvb := by rw [← hkb]) (hn := ⟨na, nb⟩)
      · rw [show countS 6 t a b s = { s with ending := 2 } by rw [countS, if_neg (fun h => hkb h.2)]]
        exact rstep_6_noB (ins := ins) (w := w) (hr := hr) (hf := hfit) (hend := he) (hk := hk) (hkn := hkn) (hk6 := hk6) (hc := hc) (hv := hvl) (hi := hi) (ht := by omega) (ha := by omega) (hb := by omega) (hva := by rw [← hka]) (hvb := rfl) (hq := bne_iff_ne.2 hkb)
    · rw [show countS 6 t a b s = { s with ending := 2 } by rw [countS, if_neg (fun h => hka h.1)]]
      exact rstep_6_noA (ins := ins) (w := w) (hr := hr) (hf := hfit) (hend := he) (hk := hk) (hkn := hkn) (hk6 := hk6) (hc := hc) (hv := hvl) (hi := hi) (ht := by omega) (ha := by omega) (hb := by omega) (hva := rfl) (hvb := rfl) (hq := bne_iff_ne.2 hka)
  · have h1 := r1 rfl
    obtain ⟨t, rfl⟩ : ∃ t : Nat, to = t := ⟨to.toNat, by omega⟩
    have h2 := r2 rfl
    obtain ⟨a, rfl⟩ : ∃ a : Nat, ia = a := ⟨ia.toNat, by omega⟩
    have hva := hvv a (by omega)
    have h3 := r3 rfl
    obtain ⟨b, rfl⟩ : ∃ b : Nat, ib = b := ⟨ib.toNat, by omega⟩
    have hvb := hvv b (by omega)
    have hS : stepI p ins xs ⟨7, (t : Int), (a : Int), (b : Int), num, goto⟩ s = countS 7 t a b s := by simp [stepI]
    rw [hS]
    by_cases hka : (s.val a).kind = 1
    · by_cases hkb : (s.val b).kind = 1
      · have na := hva.i hka
        have nb := hvb.i hkb
        have e : countS 7 t a b s = s.set t ⟨1, wrap32 (wrap64 ((s.val a).n * (s.val b).n))⟩ := by
          rw [countS, if_pos ⟨hka, hkb⟩, if_neg (by decide), Go.IntWalk.wrap64_in _ (by have := mul_fits na nb; omega)]
          simp [arith]
        rw [e]
        exact rstep_7_yes (ins := ins) (w := w) (hr := hr) (hf := hfit) (hend := he) (hk := hk) (hkn := hkn) (hk6 := hk6) (hc := hc) (hv := hvl) (hi := hi) (ht := by omega) (ha := by omega) (hb := by omega) (hva := by rw [← hka]) (hvb := by rw [← hkb]) (hn := ⟨na, nb⟩)
      · rw [show countS 7 t a b s = { s with ending := 2 } by rw [countS, if_neg (fun h => hkb h.2)]]
        exact rstep_7_noB (ins := ins) (w := w) (hr := hr) (hf := hfit) (hend := he) (hk := hk) (hkn := hkn) (hk6 := hk6) (hc := hc) (hv := hvl) (hi := hi) (ht := by omega) (ha := by omega) (hb := by omega) (hva := by rw [← hka]) (hvb := rfl) (hq := bne_iff_ne.2 hkb)
    · rw [show countS 7 t a b s = { s with ending := 2 } by rw [countS, if_neg (fun h => hka h.1)]]
      exact rstep_7_noA (ins := ins) (w := w) (hr := hr) (hf := hfit) (hend := he) (hk := hk) (hkn := hkn) (hk6 := hk6) (hc := hc) (hv := hvl) (hi := hi) (ht := by omega) (ha := by omega) (hb := by omega) (hva := rfl) (hvb := rfl) (hq := bne_iff_ne.2 hka)
  · have h1 := r1 rfl
    obtain ⟨t, rfl⟩ : ∃ t : Nat, to = t := ⟨to.toNat, by omega⟩
    have h2 := r2 rfl
    obtain ⟨a, rfl⟩ : ∃ a : Nat, ia = a := ⟨ia.toNat, by omega⟩
    have hva := hvv a (by omega)
    have h3 := r3 rfl
    obtain ⟨b, rfl⟩ : ∃ b : Nat, ib = b := ⟨ib.toNat, by omega⟩
    have hvb := hvv b (by omega)
    have hS : stepI p ins xs ⟨8, (t : Int), (a : Int), (b : Int), num, goto⟩ s = countS 8 t a b s := by simp [stepI]
    rw [hS]
    by_cases hka : (s.val a).kind = 1
    · by_cases hkb : (s.val b).kind = 1
      · rw [show countS 8 t a b s = s.set t (truthV (decide ((s.val a).n < (s.val b).n))) by rw [countS, if_pos ⟨hka, hkb⟩, if_pos rfl]]
        exact rstep_8_yes (ins := ins) (w := w) (hr := hr) (hf := hfit) (hend := he) (hk := hk) (hkn := hkn) (hk6 := hk6) (hc := hc) (hv := hvl) (hi := hi) (ht := by omega) (ha := by omega) (hb := by omega) (hva := by rw [← hka]) (hvb := by rw [← hkb]) (hz := rfl)
      · rw [show countS 8 t a b s = { s with ending := 2 } by rw [countS, if_neg (fun h => hkb h.2)]]
        exact rstep_8_noB (ins := ins) (w := w) (hr := hr) (hf := hfit) (hend := he) (hk := hk) (hkn := hkn) (hk6 := hk6) (hc := hc) (hv := hvl) (hi := hi) (ht := by omega) (ha := by omega) (hb := by omega) (hva := by rw [← hka]) (hvb := rfl) (hq := bne_iff_ne.2 hkb)
    · rw [show countS 8 t a b s = { s with ending := 2 } by rw [countS, if_neg (fun h => hka h.1)]]
      exact rstep_8_noA (ins := ins) (w := w) (hr := hr) (hf := hfit) (hend := he) (hk := hk) (hkn := hkn) (hk6 := hk6) (hc := hc) (hv := hvl) (hi := hi) (ht := by omega) (ha := by omega) (hb := by omega) (hva := rfl) (hvb := rfl) (hq := bne_iff_ne.2 hka)
  · have h1 := r1 rfl
    obtain ⟨t, rfl⟩ : ∃ t : Nat, to = t := ⟨to.toNat, by omega⟩
    have h2 := r2 rfl
    obtain ⟨a, rfl⟩ : ∃ a : Nat, ia = a := ⟨ia.toNat, by omega⟩
    have hva := hvv a (by omega)
    have h3 := r3 rfl
    obtain ⟨b, rfl⟩ : ∃ b : Nat, ib = b := ⟨ib.toNat, by omega⟩
    have hvb := hvv b (by omega)
    by_cases hkk : (s.val a).kind = (s.val b).kind
    · rw [show stepI p ins xs ⟨9, (t : Int), (a : Int), (b : Int), num, goto⟩ s = s.set t (truthV (sameB (s.val a) (s.val b))) from rfl, same_kin hkk]
      exact rstep_9_kin (ins := ins) (w := w) (hr := hr) (hf := hfit) (hend := he) (hk := hk) (hkn := hkn) (hk6 := hk6) (hc := hc) (hv := hvl) (hi := hi) (ht := by omega) (ha := by omega) (hb := by omega) (hva := rfl) (hvb := by show (⟨(s.val a).kind, (s.val b).n⟩ : Vl) = s.val b; rw [hkk]) (hz := rfl)
    · rw [show stepI p ins xs ⟨9, (t : Int), (a : Int), (b : Int), num, goto⟩ s = s.set t (truthV (sameB (s.val a) (s.val b))) from rfl, same_no (beq_eq_false_iff_ne.2 hkk)]
      exact rstep_9_no (ins := ins) (w := w) (hr := hr) (hf := hfit) (hend := he) (hk := hk) (hkn := hkn) (hk6 := hk6) (hc := hc) (hv := hvl) (hi := hi) (ht := by omega) (ha := by omega) (hb := by omega) (hva := rfl) (hvb := rfl) (hq := beq_eq_false_iff_ne.2 hkk)
  · have h1 := r1 rfl
    obtain ⟨t, rfl⟩ : ∃ t : Nat, to = t := ⟨to.toNat, by omega⟩
    have h2 := r2 rfl
    obtain ⟨a, rfl⟩ : ∃ a : Nat, ia = a := ⟨ia.toNat, by omega⟩
    have hva := hvv a (by omega)
    rw [show stepI p ins xs ⟨10, (t : Int), (a : Int), ib, num, goto⟩ s = s.set t (truthV (!countsV (s.val a))) from rfl, truth_not hva.counts]
    exact rstep_10 (ins := ins) (w := w) (hr := hr) (hf := hfit) (hend := he) (hk := hk) (hkn := hkn) (hk6 := hk6) (hc := hc) (hv := hvl) (hi := hi) (ht := by omega) (ha := by omega) (hva := rfl) (hz := rfl)
  · have h1 := r1 rfl
    obtain ⟨t, rfl⟩ : ∃ t : Nat, to = t := ⟨to.toNat, by omega⟩
    obtain ⟨m, hm⟩ : ∃ m : Nat, p.fields = m := ⟨p.fields.toNat, by have := hsm.f1; omega⟩
    have hS : stepI p ins xs ⟨11, (t : Int), ia, ib, num, goto⟩ s = createS t m s := by simp [stepI, hm]
    rw [hS]
    by_cases h100 : s.things.length = 100
    · rw [show createS t m s = { s with ending := 5 } by rw [createS, if_pos h100]]
      exact rstep_11_full (ins := ins) (w := w) (hr := hr) (hf := hfit) (hend := he) (hk := hk) (hkn := hkn) (hk6 := hk6) (hc := hc) (hv := hvl) (hi := hi) (ht := by omega) (hq := h100)
    · rw [show createS t m s = Rs.set { s with things := s.things ++ [(s.at', List.replicate m dV)] } t ⟨3, (s.things.length : Int)⟩ by rw [createS, if_neg h100]]
      exact rstep_11_new (ins := ins) (w := w) (hr := hr) (hf := hfit) (hend := he) (hk := hk) (hkn := hkn) (hk6 := hk6) (hc := hc) (hv := hvl) (hi := hi) (ht := by omega) (hq := ⟨⟨hm, by have := hsm.f2; omega⟩, hR.nt, h100⟩)
  · have h1 := r1 rfl
    obtain ⟨t, rfl⟩ : ∃ t : Nat, to = t := ⟨to.toNat, by omega⟩
    have h2 := r2 rfl
    obtain ⟨a, rfl⟩ : ∃ a : Nat, ia = a := ⟨ia.toNat, by omega⟩
    have hva := hvv a (by omega)
    have h5 := r4 (by simp)
    obtain ⟨f, rfl⟩ : ∃ f : Nat, num = f := ⟨num.toNat, by omega⟩
    by_cases hka : (s.val a).kind = 3
    · have hth := hva.th hka
      obtain ⟨kk, hkk⟩ : ∃ kk : Nat, (s.val a).n = kk := ⟨(s.val a).n.toNat, by omega⟩
      have hlk : kk < s.things.length := by omega
      have hfl := hR.nf kk hlk
      have e : stepI p ins xs ⟨12, (t : Int), (a : Int), ib, (f : Int), goto⟩ s = s.set t (s.field kk f) := by
        rw [show stepI p ins xs ⟨12, (t : Int), (a : Int), ib, (f : Int), goto⟩ s = (if (s.val a).kind = 3 then s.set t (s.field (s.val a).n.toNat f) else { s with ending := 2 }) from rfl, if_pos hka, hkk, Int.toNat_natCast]
      rw [e]
      exact rstep_12_yes (ins := ins) (w := w) (hr := hr) (hfit := hfit) (hend := he) (hk := hk) (hkn := hkn) (hk6 := hk6) (hc := hc) (hv := hvl) (hi := hi) (ht := by omega) (ha := by omega) (hva := by rw [← hka, ← hkk]) (hkk := hlk) (hf := by omega)
    · have e : stepI p ins xs ⟨12, (t : Int), (a : Int), ib, (f : Int), goto⟩ s = { s with ending := 2 } := by
        rw [show stepI p ins xs ⟨12, (t : Int), (a : Int), ib, (f : Int), goto⟩ s = (if (s.val a).kind = 3 then s.set t (s.field (s.val a).n.toNat f) else { s with ending := 2 }) from rfl, if_neg hka]
      rw [e]
      exact rstep_12_no (ins := ins) (w := w) (hr := hr) (hf := hfit) (hend := he) (hk := hk) (hkn := hkn) (hk6 := hk6) (hc := hc) (hv := hvl) (hi := hi) (ht := by omega) (ha := by omega) (hva := rfl) (hq := bne_iff_ne.2 hka)
  · have h2 := r2 rfl
    obtain ⟨a, rfl⟩ : ∃ a : Nat, ia = a := ⟨ia.toNat, by omega⟩
    have hva := hvv a (by omega)
    have h3 := r3 rfl
    obtain ⟨b, rfl⟩ : ∃ b : Nat, ib = b := ⟨ib.toNat, by omega⟩
    have hvb := hvv b (by omega)
    have h5 := r4 (by simp)
    obtain ⟨f, rfl⟩ : ∃ f : Nat, num = f := ⟨num.toNat, by omega⟩
    by_cases hka : (s.val a).kind = 3
    · have hth := hva.th hka
      obtain ⟨kk, hkk⟩ : ∃ kk : Nat, (s.val a).n = kk := ⟨(s.val a).n.toNat, by omega⟩
      have hlk : kk < s.things.length := by omega
      have hfl := hR.nf kk hlk
      have e : stepI p ins xs ⟨13, to, (a : Int), (b : Int), (f : Int), goto⟩ s = putS kk f (s.val b) s := by
        rw [show stepI p ins xs ⟨13, to, (a : Int), (b : Int), (f : Int), goto⟩ s = (if (s.val a).kind = 3 then putS (s.val a).n.toNat f (s.val b) s else { s with ending := 2 }) from rfl, if_pos hka, hkk, Int.toNat_natCast]
      rw [e]
      exact rstep_13_yes (ins := ins) (w := w) (hr := hr) (hfit := hfit) (hend := he) (hk := hk) (hkn := hkn) (hk6 := hk6) (hc := hc) (hv := hvl) (hi := hi) (hb := by omega) (ha := by omega) (hva := by rw [← hka, ← hkk]) (hvb := rfl) (hkk := hlk) (hf := by omega)
    · have e : stepI p ins xs ⟨13, to, (a : Int), (b : Int), (f : Int), goto⟩ s = { s with ending := 2 } := by
        rw [show stepI p ins xs ⟨13, to, (a : Int), (b : Int), (f : Int), goto⟩ s = (if (s.val a).kind = 3 then putS (s.val a).n.toNat f (s.val b) s else { s with ending := 2 }) from rfl, if_neg hka]
      rw [e]
      exact rstep_13_no (ins := ins) (w := w) (hr := hr) (hf := hfit) (hend := he) (hk := hk) (hkn := hkn) (hk6 := hk6) (hc := hc) (hv := hvl) (hi := hi) (hb := by omega) (ha := by omega) (hva := rfl) (hvb := rfl) (hq := bne_iff_ne.2 hka)
  · have h1 := r1 rfl
    obtain ⟨t, rfl⟩ : ∃ t : Nat, to = t := ⟨to.toNat, by omega⟩
    have h8 := r8 rfl
    have htk := hR.tk
    have hS : stepI p ins xs ⟨14, (t : Int), ia, ib, num, goto⟩ s = takeS ⟨14, (t : Int), ia, ib, num, goto⟩ t ins xs s := by simp [stepI]
    rw [hS]
    by_cases hlt : s.taken < ins.n
    · obtain ⟨j, hj⟩ : ∃ j : Nat, s.taken = j := ⟨s.taken.toNat, by omega⟩
      obtain ⟨b0, o0, hp0, hc0⟩ := hin.1.ex
      have hjn : j < ins.n := by omega
      have hrd : ReadsAt Tryd.prog 3 w b0 (o0 + j) (.int .i64 (xs j)) := by have h := ReadsAt.cell (P := Tryd.prog) tInt (hc0 j hjn).1 ((hc0 j hjn).2 0 _ rfl); rw [Nat.mul_one, Nat.add_zero] at h; exact h
      have hq : ∀ c1 c2 : Prop, c1 → c2 → s.taken = (j : Int) ∧ ins.p = some ⟨b0, o0, none⟩ ∧ j < ins.n ∧ ins.n ≤ 9223372036854775807 ∧ ReadsAt Tryd.prog 3 w b0 (o0 + j) (.int .i64 (xs j)) ∧ 0 ≤ num ∧ num ≤ 1000000 ∧ c1 ∧ c2 := fun c1 c2 h1 h2 => ⟨hj, hp0 (by omega), hjn, hin.2, hrd, h8.1, h8.2, h1, h2⟩
      have hT : takeS ⟨14, (t : Int), ia, ib, num, goto⟩ t ins xs s = Rs.set { s with taken := wrap64 (s.taken + 1) } t ⟨1, max (-num) (min num (xs j))⟩ := by
        unfold takeS inputV; rw [if_pos hlt, hj]; rfl
      rw [hT]
      by_cases hm : num < xs j
      · rw [show max (-num) (min num (xs j)) = num by omega]
        exact rstep_14_most (ins := ins) (w := w) (hr := hr) (hf := hfit) (hend := he) (hk := hk) (hkn := hkn) (hk6 := hk6) (hc := hc) (hv := hvl) (hi := hi) (ht := by omega) (hq := hq _ _ (by simpa using hm) trivial)
      · by_cases hl2 : xs j < -num
        · rw [show max (-num) (min num (xs j)) = -num by omega]
          exact rstep_14_least (ins := ins) (w := w) (hr := hr) (hf := hfit) (hend := he) (hk := hk) (hkn := hkn) (hk6 := hk6) (hc := hc) (hv := hvl) (hi := hi) (ht := by omega) (hq := hq _ _ (by simpa using hm) (by simpa using hl2))
        · rw [show max (-num) (min num (xs j)) = xs j by omega]
          exact rstep_14_mid (ins := ins) (w := w) (hr := hr) (hf := hfit) (hend := he) (hk := hk) (hkn := hkn) (hk6 := hk6) (hc := hc) (hv := hvl) (hi := hi) (ht := by omega) (hq := hq _ _ (by simpa using hm) (by simpa using hl2))
    · have hT : takeS ⟨14, (t : Int), ia, ib, num, goto⟩ t ins xs s = Rs.set { s with taken := wrap64 (s.taken + 1) } t ⟨1, 0⟩ := by
        unfold takeS inputV; rw [if_neg hlt]
      rw [hT]
      exact rstep_14_none (ins := ins) (w := w) (hr := hr) (hf := hfit) (hend := he) (hk := hk) (hkn := hkn) (hk6 := hk6) (hc := hc) (hv := hvl) (hi := hi) (ht := by omega) (hq := ⟨by omega, htk.2, h8.1, h8.2⟩)
  · have h2 := r2 rfl
    obtain ⟨a, rfl⟩ : ∃ a : Nat, ia = a := ⟨ia.toNat, by omega⟩
    have hva := hvv a (by omega)
    cases hcv : countsR (s.val a) with
    | true =>
      rw [show stepI p ins xs ⟨15, to, (a : Int), ib, num, goto⟩ s = { s with at' := goto } by
        have hcv := hva.counts.symm.trans hcv
        rw [show stepI p ins xs ⟨15, to, (a : Int), ib, num, goto⟩ s = onwardS 15 goto a s from rfl, onwardS, if_neg (by decide), if_pos rfl, if_pos hcv]]
      exact rstep_15_yes (ins := ins) (w := w) (hr := hr) (hf := hfit) (hend := he) (hk := hk) (hkn := hkn) (hk6 := hk6) (hc := hc) (hv := hvl) (hi := hi) (ha := by omega) (hva := rfl) (hq := hcv)
    | false =>
      rw [show stepI p ins xs ⟨15, to, (a : Int), ib, num, goto⟩ s = { s with at' := s.at' + 1 } by
        have hcv := hva.counts.symm.trans hcv
        rw [show stepI p ins xs ⟨15, to, (a : Int), ib, num, goto⟩ s = onwardS 15 goto a s from rfl, onwardS, if_neg (by decide), if_pos rfl, if_neg (by rw [hcv]; decide)]]
      exact rstep_15_no (ins := ins) (w := w) (hr := hr) (hf := hfit) (hend := he) (hk := hk) (hkn := hkn) (hk6 := hk6) (hc := hc) (hv := hvl) (hi := hi) (ha := by omega) (hva := rfl) (hq := hcv)
  · rw [show stepI p ins xs ⟨16, to, ia, ib, num, goto⟩ s = { s with at' := goto } by simp [stepI, onwardS]]
    exact rstep_16 (ins := ins) (w := w) (hr := hr) (hf := hfit) (hend := he) (hk := hk) (hkn := hkn) (hk6 := hk6) (hc := hc) (hv := hvl) (hi := hi)
  · have h2 := r2 rfl
    obtain ⟨a, rfl⟩ : ∃ a : Nat, ia = a := ⟨ia.toNat, by omega⟩
    have hva := hvv a (by omega)
    cases hcv : countsR (s.val a) with
    | true =>
      rw [show stepI p ins xs ⟨17, to, (a : Int), ib, num, goto⟩ s = { s with at' := s.at' + 1 } by
        have hcv := hva.counts.symm.trans hcv
        rw [show stepI p ins xs ⟨17, to, (a : Int), ib, num, goto⟩ s = onwardS 17 goto a s from rfl, onwardS, if_neg (by decide), if_neg (by decide), if_pos rfl, if_pos hcv]]
      exact rstep_17_yes (ins := ins) (w := w) (hr := hr) (hf := hfit) (hend := he) (hk := hk) (hkn := hkn) (hk6 := hk6) (hc := hc) (hv := hvl) (hi := hi) (ha := by omega) (hva := rfl) (hq := hcv)
    | false =>
      rw [show stepI p ins xs ⟨17, to, (a : Int), ib, num, goto⟩ s = { s with ending := 3 } by
        have hcv := hva.counts.symm.trans hcv
        rw [show stepI p ins xs ⟨17, to, (a : Int), ib, num, goto⟩ s = onwardS 17 goto a s from rfl, onwardS, if_neg (by decide), if_neg (by decide), if_pos rfl, if_neg (by rw [hcv]; decide)]]
      exact rstep_17_no (ins := ins) (w := w) (hr := hr) (hf := hfit) (hend := he) (hk := hk) (hkn := hkn) (hk6 := hk6) (hc := hc) (hv := hvl) (hi := hi) (ha := by omega) (hva := rfl) (hq := hcv)
  · have h2 := r2 rfl
    obtain ⟨a, rfl⟩ : ∃ a : Nat, ia = a := ⟨ia.toNat, by omega⟩
    have hva := hvv a (by omega)
    rw [show stepI p ins xs ⟨18, to, (a : Int), ib, num, goto⟩ s = { s with lines := s.lines ++ [lineV (s.val a)], at' := s.at' + 1 } by simp [stepI, onwardS]]
    exact rstep_18 (ins := ins) (w := w) (hr := hr) (hf := hfit) (hend := he) (hk := hk) (hkn := hkn) (hk6 := hk6) (hc := hc) (hv := hvl) (hi := hi) (ha := by omega) (hva := rfl) (hq := ⟨by omega, hva.i, hva.k⟩)
  · rw [show stepI p ins xs ⟨19, to, ia, ib, num, goto⟩ s = { s with ending := 1 } by simp [stepI, onwardS]]
    exact rstep_19 (ins := ins) (w := w) (hr := hr) (hf := hfit) (hend := he) (hk := hk) (hkn := hkn) (hk6 := hk6) (hc := hc) (hv := hvl) (hi := hi)
end Go.Proofs.YtkdbehgekeidoaaDoor
