/- A region that draws its order, walked once, in the order of the text: each operation is shown by what it waits for alone. Over any program. Conditions: none. -/
import Derived.Test.YtodamdjnbnkmdaaLaws
import Derived.StillTail
set_option linter.unusedSimpArgs false
set_option linter.unusedVariables false
namespace Go.Proofs.Ytodamdjnbnkmdaa
open Go.RowKit

/-- The slots ds as g says. -/
def fillD (t : List Value) (ds : List Nat) (g : Nat → Value) : List Value := ds.foldl (fun t d => t.set d (g d)) t
def upd (g : Nat → Value) (d : Nat) (v : Value) : Nat → Value := fun k => if k = d then v else g k

theorem fillD_get (g : Nat → Value) (k : Nat) : ∀ (ds : List Nat) (t : List Value), (fillD t ds g)[k]? = if k ∈ ds ∧ k < t.length then some (g k) else t[k]?
  | [], t => by simp [fillD]
  | d :: ds, t => by
    show (fillD (t.set d (g d)) ds g)[k]? = _
    rw [fillD_get g k ds]
    by_cases hk : k ∈ ds
    · by_cases hl : k < t.length
      · simp [hk, hl]
      · simp [hk, hl, List.getElem?_set]
        try (intro h; subst h; omega)
    · by_cases hd : k = d
      · subst hd
        by_cases hl : k < t.length <;> simp [hk, hl, List.getElem?_set]
      · simp [hk, hd, List.getElem?_set, Ne.symm hd]

theorem fillD_len (g : Nat → Value) : ∀ (ds : List Nat) (t : List Value), (fillD t ds g).length = t.length
  | [], _ => rfl
  | d :: ds, t => by show (fillD (t.set d (g d)) ds g).length = _; rw [fillD_len g ds]; simp

theorem fillD_set {t : List Value} {ds : List Nat} {g : Nat → Value} {d : Nat} (hd : d ∈ ds) (v : Value) : (fillD t ds g).set d v = fillD t ds (upd g d v) := by
  apply List.ext_getElem?
  intro k
  rw [List.getElem?_set, fillD_get, fillD_get, fillD_len]
  by_cases hk : d = k
  · subst hk
    by_cases hl : d < t.length <;> simp [hd, hl, upd]
  · have hk' : ¬ k = d := fun h => hk h.symm
    simp [hk, upd, hk']

theorem fillD_self (t : List Value) (ds : List Nat) : fillD t ds (fun d => t.getD d undef) = t := by
  apply List.ext_getElem?
  intro k
  rw [fillD_get]
  by_cases h : k ∈ ds ∧ k < t.length
  · simp [h]
  · rw [if_neg h]

def RAt (Rs : List (Value → World → Prop)) (ds : List Nat) (j : Nat) (g : Nat → Value) (w : World) : Prop :=
  match Rs[j]?, ds[j]? with
  | some R, some d => R (g d) w
  | _, _ => True

def depsOf (o : Oper) : List Nat := (o.after.toList.filter (Region.binds .any)).map (·.on)

def DrawPost (a0 : Act) (d : Nat) (w : World) (R : Value → World → Prop) : Exit → Act → World → Prop := fun e a' w' =>
  e = .normal ∧ ∃ v, a' = a0.put (some d) v ∧ Below w.heap.size w w' ∧ R v w'

/-- What operation i may still lean on: the slots of operations that wait for it hold what they held. -/
def Unturned (ops : Array Oper) (t : List Value) (ds : List Nat) (i : Nat) (g : Nat → Value) : Prop :=
  ∀ (j : Nat) (oj : Oper) (d : Nat), ops[j]? = some oj → i ∈ depsOf oj → ds[j]? = some d → g d = t.getD d undef
def Stable (R : Value → World → Prop) : Prop := ∀ v w w', Below w.heap.size w w' → R v w → R v w'

structure Drawn (P : Program) (ops : Array Oper) (t : List Value) (df : List Deferred) (ds : List Nat) (w1 : World) (Rs : List (Value → World → Prop)) : Prop where
  short : Rs.length ≤ ds.length
  stable : ∀ R ∈ Rs, Stable R
  ok : ∀ (i : Nat) (o : Oper) (d : Nat) (R : Value → World → Prop), ops[i]? = some o → ds[i]? = some d → Rs[i]? = some R → ∀ g w, Below w1.heap.size w1 w → (∀ j ∈ depsOf o, RAt Rs ds j g w) → Unturned ops t ds i g →
    wpList P ops (DrawPost ⟨(fillD t ds g).toArray, df⟩ d w R) [o] ⟨(fillD t ds g).toArray, df⟩ w

theorem Drawn.nil {P : Program} {ops : Array Oper} {t : List Value} {df : List Deferred} {ds : List Nat} {w1 : World} : Drawn P ops t df ds w1 [] :=
  ⟨Nat.zero_le _, fun _ h => (by cases h), fun i o d R _ _ h => (by simp at h)⟩

theorem RAt.pre {Rs : List (Value → World → Prop)} {R : Value → World → Prop} {ds : List Nat} {j : Nat} {g : Nat → Value} {w : World} (h : RAt (Rs ++ [R]) ds j g w) : RAt Rs ds j g w := by
  unfold RAt at *
  rcases Nat.lt_or_ge j Rs.length with hj | hj
  · rw [List.getElem?_append_left hj] at h; exact h
  · rw [List.getElem?_eq_none hj]; trivial

theorem Drawn.step {P : Program} {ops : Array Oper} {t : List Value} {df : List Deferred} {ds : List Nat} {w1 : World} {Rs : List (Value → World → Prop)} (h : Drawn P ops t df ds w1 Rs) (R : Value → World → Prop)
    {o : Oper} {d : Nat} (ho : ops[Rs.length]? = some o) (hd : ds[Rs.length]? = some d) (hR : Stable R)
    (hk : ∀ g w, Below w1.heap.size w1 w → (∀ j ∈ depsOf o, RAt Rs ds j g w) → Unturned ops t ds Rs.length g → wpList P ops (DrawPost ⟨(fillD t ds g).toArray, df⟩ d w R) [o] ⟨(fillD t ds g).toArray, df⟩ w) :
    Drawn P ops t df ds w1 (Rs ++ [R]) := by
  refine ⟨by have := (List.getElem?_eq_some_iff.1 hd).1; simp; omega, fun R' hR' => ?_, fun i o' d' R' ho' hd' hR' g w hb hdeps hun => ?_⟩
  · rcases List.mem_append.1 hR' with h1 | h1
    · exact h.stable R' h1
    · rw [List.mem_singleton.1 h1]; exact hR
  · have hdeps' : ∀ j ∈ depsOf o', RAt Rs ds j g w := fun j hj => (hdeps j hj).pre
    rcases Nat.lt_or_ge i Rs.length with hi | hi
    · rw [List.getElem?_append_left hi] at hR'
      exact h.ok i o' d' R' ho' hd' hR' g w hb hdeps' hun
    · have hi' : i = Rs.length := by
        have := (List.getElem?_eq_some_iff.1 hR').1
        simp at this; omega
      subst hi'
      have e1 : o' = o := Option.some.inj (ho'.symm.trans ho)
      have e2 : d' = d := Option.some.inj (hd'.symm.trans hd)
      have e3 : R' = R := by simpa using hR'.symm
      subst e1; subst e2; subst e3
      exact hk g w hb hdeps' hun

theorem Oper.wp_mono2 {P : Program} {Q Q' : Exit → Act → World → Prop} {o : Oper} {a : Act} {w : World} {K K' : Act → World → Prop} (h : ∀ a w, K a w → K' a w)
    (hp : ∀ c a w, ¬ Q (.panic c) a w) (ho : ∀ a w, ¬ Q .outgrown a w) (hh : o.wp P a w K Q) : o.wp P a w K' Q' := by
  unfold Oper.wp at *
  generalize (execOp a.eval o).run P w = r at *
  cases r with
  | ok n w' =>
    cases n <;> simp only [Oper.upon] at hh ⊢ <;>
      first
        | exact h _ _ hh
        | exact Calls.mono hh (fun e w'' he => by
            cases e with
            | returned v => exact h _ _ he
            | panicked c => exact (hp _ _ _ he).elim
            | outgrown => obtain ⟨a, w, hq⟩ := he; exact (ho _ _ hq).elim)
        | exact Rows.mono hh (fun _ _ he => h _ _ he)
  | halt x w' =>
    cases x <;> simp only [Oper.upon] at hh ⊢
    case panic v => exact (hp _ _ _ hh).elim

theorem wpOp_of_single {P : Program} {ops : Array Oper} {Q Q' : Exit → Act → World → Prop} {i : Nat} {o : Oper} {a : Act} {w : World} {K : Act → World → Prop} (hi : ops[i]? = some o)
    (hp : ∀ c a w, ¬ Q (.panic c) a w) (ho : ∀ a w, ¬ Q .outgrown a w) (hK : ∀ a w, Q .normal a w → K a w) (h : wpList P ops Q [o] a w) : wpOp P ops Q' i K a w := by
  unfold wpOp
  simp only [hi]
  unfold wpList at h
  split
  · rename_i hw
    rw [if_pos hw] at h
    rcases h with h | ⟨_, a', w', hq⟩
    · exact .inl (Oper.wp_mono2 (fun a w hq => hK a w hq) hp ho h)
    · exact (ho _ _ hq).elim
  · rename_i hw
    rw [if_neg hw] at h
    exact hK _ _ h

def Region.orderB (ops : Array Oper) : Bool := (List.range ops.size).all fun i => match ops[i]? with | some o => (depsOf o).all (fun j => decide (j < i)) | none => true
def Region.fullA (ops : Array Oper) (n : Nat) : Array Bool := ((List.range ops.size).map fun i => decide (i < n)).toArray
def Region.dstB (ops : Array Oper) (ds : List Nat) : Bool := (List.range ds.length).all fun i => ((ops[i]?).bind (·.dst)) == ds[i]?
def Region.drawB (ops : Array Oper) (ds : List Nat) : Bool :=
  Region.orderB ops && Region.dstB ops ds && decide ds.Nodup && Region.seqB .any ops (ops.size - ds.length) ds.length (Region.fullA ops ds.length) &&
    (decide (ds.length = ops.size) || (decide (ds.length < ops.size) && Region.sinkB .any ops ds.length && Region.chainB .any ops ds.length))

theorem filter_one {p p' : Nat → Bool} {i : Nat} : ∀ (l : List Nat), l.Nodup → i ∈ l → p i = true → p' i = false → (∀ k, k ≠ i → p' k = p k) → (l.filter p).length = (l.filter p').length + 1
  | [], _, h, _, _, _ => by cases h
  | x :: l, hn, hm, h1, h2, h3 => by
    simp only [List.nodup_cons] at hn
    by_cases hx : x = i
    · subst hx
      have e : l.filter p' = l.filter p := List.filter_congr fun k hk => h3 k (fun hki => hn.1 (hki ▸ hk))
      simp [List.filter_cons, h1, h2, e]
    · have hm' : i ∈ l := by rcases List.mem_cons.1 hm with h | h; exact (hx h.symm).elim; exact h
      have ih := filter_one l hn.2 hm' h1 h2 h3
      have e := h3 x hx
      cases hp : p x <;> simp [List.filter_cons, hp, e, ih]

section
variable {P : Program} {ops : Array Oper} {Q : Exit → Act → World → Prop} {t : List Value} {df : List Deferred} {ds : List Nat} {w1 : World} {Rs : List (Value → World → Prop)}

theorem depsOf_spec {o : Oper} {e : Edge} (he : e ∈ o.after) (hb : Region.binds .any e = true) : e.on ∈ depsOf o := by
  unfold depsOf
  exact List.mem_map.2 ⟨e, List.mem_filter.2 ⟨by simpa using he, hb⟩, rfl⟩
theorem depsOf_mem {o : Oper} {j : Nat} (h : j ∈ depsOf o) : ∃ e ∈ o.after, Region.binds .any e = true ∧ e.on = j := by
  unfold depsOf at h
  obtain ⟨e, he, rfl⟩ := List.mem_map.1 h
  obtain ⟨h1, h2⟩ := List.mem_filter.1 he
  exact ⟨e, by simpa using h1, h2, rfl⟩

theorem order_spec (h : Region.orderB ops = true) {i : Nat} {o : Oper} (hi : ops[i]? = some o) {j : Nat} (hj : j ∈ depsOf o) : j < i := by
  have hlt := (Array.getElem?_eq_some_iff.1 hi).1
  have h1 := List.all_eq_true.1 h i (List.mem_range.2 hlt)
  simp only [hi] at h1
  simpa using List.all_eq_true.1 h1 j hj

theorem ready_some (ho : Region.orderB ops = true) {n : Nat} (hn : n ≤ ops.size) {listed : Array Bool} (hs : listed.size = ops.size) : ∀ (i : Nat), i < n → listed.getD i true = false → Region.ready .any ops listed ≠ [] := by
  intro i
  induction i using Nat.strongRecOn with
  | _ i ih =>
    intro hi hu hr
    have hlt : i < ops.size := by omega
    have hoi : ops[i]? = some ops[i] := Array.getElem?_eq_getElem hlt
    by_cases hall : ∀ e ∈ ops[i].after, Region.binds .any e = true → listed.getD e.on false = true
    · have : i ∈ Region.ready .any ops listed := mem_ready.2 ⟨hu, _, hoi, hall⟩
      rw [hr] at this; cases this
    · obtain ⟨e, he⟩ := Classical.not_forall.1 hall
      obtain ⟨he, h2⟩ := Classical.not_imp.1 he
      obtain ⟨hb, hl⟩ := Classical.not_imp.1 h2
      replace hl : listed.getD e.on false = false := by simpa using hl
      have hei := order_spec ho hoi (depsOf_spec he hb)
      exact ih e.on hei (by omega) (getD_in (by omega) hl) hr

theorem unturned_of {n i : Nat} {listed : Array Bool} {g : Nat → Value} (inv : HeadInv .any ops n listed) (hun : listed.getD i true = false) (hU : ∀ j d, ds[j]? = some d → listed.getD j true = false → g d = t.getD d undef) : Unturned ops t ds i g := by
  intro j oj d hoj hij hd
  refine hU j d hd ?_
  obtain ⟨e, he, hb, hon⟩ := depsOf_mem hij
  cases hl : listed.getD j false with
  | false => exact getD_in (by rw [inv.size]; exact (Array.getElem?_eq_some_iff.1 hoj).1) hl
  | true =>
    have h2 := inv.closed j oj hoj hl e he hb
    rw [hon, getD_both hun] at h2
    cases h2
theorem turn_of {i d0 : Nat} {listed : Array Bool} {g : Nat → Value} {v : Value} (hnd : ds.Nodup) (hdi : ds[i]? = some d0) (hU : ∀ j d, ds[j]? = some d → listed.getD j true = false → g d = t.getD d undef) :
    ∀ j d, ds[j]? = some d → (listed.setIfInBounds i true).getD j true = false → upd g d0 v d = t.getD d undef := by
  intro j d hd hl
  by_cases hji : j = i
  · subst hji
    by_cases hlt : j < listed.size
    · simp [hlt] at hl
    · simp [hlt] at hl
  · rw [getD_set_ne true (Ne.symm hji)] at hl
    have hne : d ≠ d0 := by
      rintro rfl
      obtain ⟨h1, e1⟩ := List.getElem?_eq_some_iff.1 hd
      obtain ⟨h2, e2⟩ := List.getElem?_eq_some_iff.1 hdi
      rcases Nat.lt_or_gt_of_ne hji with h | h
      · exact List.pairwise_iff_getElem.1 hnd j i h1 h2 h (e1.trans e2.symm)
      · exact List.pairwise_iff_getElem.1 hnd i j h2 h1 h (e2.trans e1.symm)
    rw [show upd g d0 v d = g d from if_neg hne]
    exact hU j d hd hl
theorem draw_core (hB : Region.drawB ops ds = true) (hlen : Rs.length = ds.length) (hD : Drawn P ops t df ds w1 Rs)
    (hfin : ∀ g w, Below w1.heap.size w1 w → (∀ j, j < ds.length → RAt Rs ds j g w) → wpList P ops Q (ops.toList.drop ds.length) ⟨(fillD t ds g).toArray, df⟩ w) :
    ∀ (c : Nat) (listed : Array Bool) (g : Nat → Value) (w : World), HeadInv .any ops ds.length listed → ((List.range ds.length).filter fun i => !listed.getD i true).length = c →
      Below w1.heap.size w1 w → (∀ j, j < ds.length → listed.getD j false = true → RAt Rs ds j g w) → (∀ j d, ds[j]? = some d → listed.getD j true = false → g d = t.getD d undef) →
      wpAny P .any ops Q (c + (ops.size - ds.length)) listed ⟨(fillD t ds g).toArray, df⟩ w := by
  simp only [Region.drawB, Bool.and_eq_true, Bool.or_eq_true, decide_eq_true_eq] at hB
  obtain ⟨⟨⟨⟨hord, hdst⟩, hnd⟩, hseq⟩, hsz⟩ := hB
  have hle : ds.length ≤ ops.size := by rcases hsz with h | h <;> omega
  intro c
  induction c with
  | zero =>
    intro listed g w inv hc hb hR hU
    have hall : ∀ i, i < ds.length → listed.getD i false = true := by
      intro i hi
      have h0 := List.length_eq_zero_iff.1 hc
      have h1 : i ∉ ((List.range ds.length).filter fun i => !listed.getD i true) := by rw [h0]; simp
      have h2 : listed.getD i true = true := by
        cases hg : listed.getD i true with
        | true => rfl
        | false => exact (h1 (List.mem_filter.2 ⟨List.mem_range.2 hi, by simp [hg]⟩)).elim
      have hil : i < listed.size := by rw [inv.size]; omega
      simp [hil] at h2 ⊢; exact h2
    have hfull : listed = Region.fullA ops ds.length := by
      apply Array.ext
      · simp [Region.fullA, inv.size]
      · intro i h1 h2
        simp only [Region.fullA, List.getElem_toArray, List.getElem_map, List.getElem_range]
        by_cases hi : i < ds.length
        · have := hall i hi; simp [h1] at this; simp [hi, this]
        · have := inv.tail i (by omega) (by rw [← inv.size]; exact h1); simp [h1] at this; simp [hi, this]
    have hl : (ops.toList.drop ds.length).length = ops.size - ds.length := by simp
    rw [Nat.zero_add, ← hl]
    refine wpAny_of_seq _ ds.length listed _ w (fun j => by simp) (by rw [hl, hfull]; exact hseq) (hfin g w hb fun j hj => hR j hj (hall j hj))
  | succ c ih =>
    intro listed g w inv hc hb hR hU
    obtain ⟨i0, hi0, hu0⟩ : ∃ i, i < ds.length ∧ listed.getD i true = false := by
      cases hf : (List.range ds.length).filter fun i => !listed.getD i true with
      | nil => rw [hf] at hc; cases hc
      | cons i l =>
        have : i ∈ (List.range ds.length).filter fun i => !listed.getD i true := by rw [hf]; exact List.mem_cons_self
        obtain ⟨h1, h2⟩ := List.mem_filter.1 this
        exact ⟨i, List.mem_range.1 h1, by simpa using h2⟩
    rw [show c + 1 + (ops.size - ds.length) = (c + (ops.size - ds.length)) + 1 by omega]
    refine ⟨fun h => absurd h (ready_some hord hle inv.size i0 hi0 hu0), fun i hi => ?_⟩
    obtain ⟨hun, o, hoi, hall⟩ := mem_ready.1 hi
    have hin : i < ds.length := by
      rcases hsz with h | ⟨⟨h, hs⟩, hcn⟩
      · rw [h]; exact (Array.getElem?_eq_some_iff.1 hoi).1
      · rcases Nat.lt_or_ge i ds.length with h' | h'
        · exact h'
        · exact absurd hi (tail_waits hs hcn h inv _ i0 rfl hi0 hu0 i h')
    have hdi : ds[i]? = some ds[i] := List.getElem?_eq_getElem hin
    have hRi : Rs[i]? = some (Rs[i]'(by omega)) := List.getElem?_eq_getElem (by omega)
    have hdeps : ∀ j ∈ depsOf o, RAt Rs ds j g w := fun j hj => by
      obtain ⟨e, he, hbd, rfl⟩ := depsOf_mem hj
      have := order_spec hord hoi hj
      exact hR _ (by omega) (hall e he hbd)
    refine wpOp_of_single hoi (fun _ _ _ h => by cases h.1) (fun _ _ h => by cases h.1) (fun a' w' h => ?_) (hD.ok i o _ _ hoi hdi hRi g w hb hdeps (unturned_of inv hun hU))
    obtain ⟨_, v, rfl, hbw, hv⟩ := h
    have hput : (⟨(fillD t ds g).toArray, df⟩ : Act).put (some ds[i]) v = ⟨(fillD t ds (upd g ds[i] v)).toArray, df⟩ := by
      simp only [Act.put, List.setIfInBounds_toArray]
      rw [fillD_set (List.getElem_mem hin)]
    rw [hput]
    have hb' : Below w1.heap.size w1 w' := hb.trans (hbw.mono hb.size)
    refine ih _ _ _ (inv.set hi hin) ?_ hb' (fun j hj hl => ?_) (turn_of hnd hdi hU)
    · have hcount := filter_one (p := fun k => !listed.getD k true) (p' := fun k => !(listed.setIfInBounds i true).getD k true) (i := i) (List.range ds.length) List.nodup_range (List.mem_range.2 hin) (by simp [hun])
        (by
          have : i < listed.size := by rw [inv.size]; omega
          simp [this])
        (fun k hk => by rw [getD_set_ne true (Ne.symm hk)])
      omega
    · have hdj : ds[j]? = some ds[j] := List.getElem?_eq_getElem hj
      have hRj : Rs[j]? = some (Rs[j]'(by omega)) := List.getElem?_eq_getElem (by omega)
      by_cases hji : j = i
      · subst hji
        unfold RAt
        simp only [hdj, hRj, upd, if_true]
        exact hv
      · rw [getD_set_ne false (Ne.symm hji)] at hl
        have h0 := hR j hj hl
        unfold RAt at h0 ⊢
        simp only [hdj, hRj] at h0 ⊢
        have hne : ds[j] ≠ ds[i] := by
          rcases Nat.lt_or_gt_of_ne hji with h | h
          · exact List.pairwise_iff_getElem.1 hnd j i hj hin h
          · exact fun he => List.pairwise_iff_getElem.1 hnd i j hin hj h he.symm
        rw [show upd g ds[i] v ds[j] = g ds[j] from if_neg hne]
        exact hD.stable _ (List.getElem_mem _) _ _ _ hbw h0

theorem draw_region {id : Nat} {L : List LBlk} {D : List Datum} {w0 : World} (hm : P.follows .mixedOrders = true) (hL : Loc w0 w1 L D) (hB : Region.drawB ops ds = true) (hlen : Rs.length = ds.length) (hD : Drawn P ops t df ds w1 Rs)
    (hfin : ∀ g w, Below w1.heap.size w1 w → (∀ j, j < ds.length → RAt Rs ds j g w) → wpList P ops Q (ops.toList.drop ds.length) ⟨(fillD t ds g).toArray, df⟩ w) : (Code.region id ops true).wp P Q ⟨t.toArray, df⟩ w1 := by
  refine wp_region_any hm ?_
  have hle : ds.length ≤ ops.size := by
    simp only [Region.drawB, Bool.and_eq_true, Bool.or_eq_true, decide_eq_true_eq] at hB
    rcases hB.2 with h | h <;> omega
  have h := draw_core (Q := Q) hB hlen hD hfin ds.length (Array.replicate ops.size false) (fun d => t.getD d undef) w1.drew
    ⟨by simp, fun j oj _ hl => (by rw [getD_replicate_false] at hl; cases hl), fun k _ hk => (by simp [hk])⟩
    (by
      have : ((List.range ds.length).filter fun i => !(Array.replicate ops.size false).getD i true) = List.range ds.length := by
        rw [List.filter_eq_self]
        intro i hi
        have : i < ops.size := by have := List.mem_range.1 hi; omega
        simp [this]
      rw [this]; simp)
    ((Below.refl _ _).drew) (fun j _ hl => (by rw [getD_replicate_false] at hl; cases hl)) (fun _ _ _ _ => rfl)
  rw [fillD_self, show ds.length + (ops.size - ds.length) = ops.size by omega] at h
  exact h

def AllR (Rs : List (Value → World → Prop)) (ds : List Nat) (g : Nat → Value) (w : World) : List Nat → Prop
  | [] => True
  | j :: l => RAt Rs ds j g w ∧ AllR Rs ds g w l
theorem allR_of {g : Nat → Value} {w : World} : ∀ {l : List Nat}, (∀ j ∈ l, RAt Rs ds j g w) → AllR Rs ds g w l
  | [], _ => trivial
  | _ :: _, h => ⟨h _ List.mem_cons_self, allR_of fun j hj => h j (List.mem_cons_of_mem _ hj)⟩

theorem heap_new (w : World) (o : Obj) : (w.alloc o).heap[w.heap.size]? = some o := by
  show (w.heap.push _)[w.heap.size]? = _; simp

/-- v is a slice over n elements of type E in memory that nobody writes, their cells cs. -/
def RowR (E : TypeId) (n : Nat) (cs : List Value) : Value → World → Prop := fun v w => ∃ b, v = .slice (some ⟨b, 0, none⟩) n n ∧ w.heap[b]? = some (.cells cs.toArray E (0, 0))
/-- v leads to a new variable of type T, its cells cs; B: how many blocks there were. -/
def PtrR (B : Nat) (T : TypeId) (cs : List Value) : Value → World → Prop := fun v w => ∃ b, B ≤ b ∧ v = .pointer (some ⟨b, 0, none⟩) ∧ w.heap[b]? = some (.cells cs.toArray T (0, 0))
/-- The same, in memory that has come since there were B blocks. -/
def RowP (B : Nat) (E : TypeId) (n : Nat) (cs : List Value) : Value → World → Prop := fun v w => ∃ b, B ≤ b ∧ v = .slice (some ⟨b, 0, none⟩) n n ∧ w.heap[b]? = some (.cells cs.toArray E (0, 0))
theorem RowP.stable {B E n cs} : Stable (RowP B E n cs) := by
  rintro v w w' hb ⟨b, h, hv, hc⟩
  exact ⟨b, h, hv, (hb.block _ (heap_lt hc)).trans hc⟩
theorem allR_get {Rs : List (Value → World → Prop)} {ds : List Nat} {g : Nat → Value} {w : World} : ∀ {l : List Nat} {j : Nat}, AllR Rs ds g w l → j ∈ l → RAt Rs ds j g w
  | [], _, _, h => by cases h
  | x :: l, j, h, hj => by
    rcases List.mem_cons.1 hj with rfl | hj
    · exact h.1
    · exact allR_get h.2 hj
theorem RowR.stable {E n cs} : Stable (RowR E n cs) := by
  rintro v w w' hb ⟨b, hv, hc⟩
  exact ⟨b, hv, (hb.block _ (heap_lt hc)).trans hc⟩
theorem PtrR.stable {B T cs} : Stable (PtrR B T cs) := by
  rintro v w w' hb ⟨b, h, hv, hc⟩
  exact ⟨b, h, hv, (hb.block _ (heap_lt hc)).trans hc⟩
theorem heap_cell {w : World} {b : Nat} {cs : List Value} {T : TypeId} (h : w.heap[b]? = some (.cells cs.toArray T (0, 0))) (j : Nat) {v : Value} (hj : cs[j]? = some v) : w.cell? ⟨b, j, none⟩ = some v := by
  simp [World.cell?, h, hj]

def DrawGoal (P : Program) (ops : Array Oper) (Q : Exit → Act → World → Prop) (id : Nat) (t : List Value) (df : List Deferred) (ds : List Nat) (w1 : World) (Rs : List (Value → World → Prop)) (os : List Oper) (dr : List Nat) : Prop :=
  ops.toList.drop Rs.length = os → ds.drop Rs.length = dr → Drawn P ops t df ds w1 Rs → (Code.region id ops true).wp P Q ⟨t.toArray, df⟩ w1

theorem draw_begin {id : Nat} {l : List Oper} (ds : List Nat) (h : DrawGoal P l.toArray Q id t df ds w1 [] l ds) : (Code.region id l.toArray true).wp P Q ⟨t.toArray, df⟩ w1 := h rfl rfl Drawn.nil
theorem drop_head {α : Type} {l : List α} {k : Nat} {x : α} {r : List α} (h : l.drop k = x :: r) : l[k]? = some x ∧ l.drop (k + 1) = r := by
  have h1 : (l.drop k)[0]? = some x := by rw [h]; rfl
  refine ⟨by simpa using h1, ?_⟩
  rw [← List.drop_drop, h]; rfl
theorem draw_next {id : Nat} (R : Value → World → Prop) {o : Oper} {os : List Oper} {d : Nat} {dr : List Nat} (hR : Stable R)
    (hk : ∀ g w, Below w1.heap.size w1 w → AllR Rs ds g w (depsOf o) → wpList P ops (DrawPost ⟨(fillD t ds g).toArray, df⟩ d w R) [o] ⟨(fillD t ds g).toArray, df⟩ w)
    (h : DrawGoal P ops Q id t df ds w1 (Rs ++ [R]) os dr) : DrawGoal P ops Q id t df ds w1 Rs (o :: os) (d :: dr) := fun h1 h2 hD => by
  obtain ⟨a1, a2⟩ := drop_head h1
  obtain ⟨b1, b2⟩ := drop_head h2
  exact h (by simpa using a2) (by simpa using b2) (hD.step R (by simpa using a1) b1 hR fun g w hb hdep _ => hk g w hb (allR_of hdep))
/-- The same where the operation reads slots that later ones write: us: these operations, and their slots. -/
def HoldsB (ops : Array Oper) (ds : List Nat) (i : Nat) (us : List (Nat × Nat)) : Bool := us.all fun p => (ds[p.1]? == some p.2) && (match ops[p.1]? with | some oj => (depsOf oj).contains i | none => false)
def AllU (t : List Value) (g : Nat → Value) : List (Nat × Nat) → Prop
  | [] => True
  | p :: l => g p.2 = t.getD p.2 undef ∧ AllU t g l
theorem allU_of {i : Nat} {g : Nat → Value} (hU : Unturned ops t ds i g) : ∀ {us : List (Nat × Nat)}, HoldsB ops ds i us = true → AllU t g us
  | [], _ => trivial
  | p :: l, h => by
    simp only [HoldsB, List.all_cons, Bool.and_eq_true, beq_iff_eq] at h
    obtain ⟨⟨h1, h2⟩, h3⟩ := h
    refine ⟨?_, allU_of hU h3⟩
    cases ho : ops[p.1]? with
    | none => simp [ho] at h2
    | some oj => simp only [ho, List.contains_iff_mem] at h2; exact hU _ _ _ ho h2 h1
theorem draw_nextU {id : Nat} (R : Value → World → Prop) (us : List (Nat × Nat)) (i : Nat) {o : Oper} {os : List Oper} {d : Nat} {dr : List Nat} (hR : Stable R) (hi : Rs.length = i) (hu : HoldsB ops ds i us = true)
    (hk : ∀ g w, Below w1.heap.size w1 w → AllR Rs ds g w (depsOf o) → AllU t g us → wpList P ops (DrawPost ⟨(fillD t ds g).toArray, df⟩ d w R) [o] ⟨(fillD t ds g).toArray, df⟩ w)
    (h : DrawGoal P ops Q id t df ds w1 (Rs ++ [R]) os dr) : DrawGoal P ops Q id t df ds w1 Rs (o :: os) (d :: dr) := fun h1 h2 hD => by
  subst hi
  obtain ⟨a1, a2⟩ := drop_head h1
  obtain ⟨b1, b2⟩ := drop_head h2
  exact h (by simpa using a2) (by simpa using b2) (hD.step R (by simpa using a1) b1 hR fun g w hb hdep hU => hk g w hb (allR_of hdep) (allU_of hU hu))
theorem draw_valU {id : Nat} (us : List (Nat × Nat)) (i : Nat) {x : Value} {o : Oper} {os : List Oper} {d : Nat} {dr : List Nat} (hi : Rs.length = i) (hu : HoldsB ops ds i us = true)
    (hk : ∀ g w, Below w1.heap.size w1 w → AllR Rs ds g w (depsOf o) → AllU t g us → wpList P ops (DrawPost ⟨(fillD t ds g).toArray, df⟩ d w (fun v _ => v = x)) [o] ⟨(fillD t ds g).toArray, df⟩ w)
    (h : DrawGoal P ops Q id t df ds w1 (Rs ++ [fun v _ => v = x]) os dr) : DrawGoal P ops Q id t df ds w1 Rs (o :: os) (d :: dr) := draw_nextU _ us i (fun _ _ _ _ h => h) hi hu hk h
theorem draw_val {id : Nat} {x : Value} {o : Oper} {os : List Oper} {d : Nat} {dr : List Nat}
    (hk : ∀ g w, Below w1.heap.size w1 w → AllR Rs ds g w (depsOf o) → wpList P ops (DrawPost ⟨(fillD t ds g).toArray, df⟩ d w (fun v _ => v = x)) [o] ⟨(fillD t ds g).toArray, df⟩ w)
    (h : DrawGoal P ops Q id t df ds w1 (Rs ++ [fun v _ => v = x]) os dr) : DrawGoal P ops Q id t df ds w1 Rs (o :: os) (d :: dr) := draw_next _ (fun _ _ _ _ h => h) hk h
theorem draw_end {id : Nat} {os : List Oper} {L : List LBlk} {D : List Datum} {w0 : World} (hL : Loc w0 w1 L D) (hm : P.follows .mixedOrders = true) (hB : Region.drawB ops ds = true)
    (hfin : ∀ g w, Below w1.heap.size w1 w → AllR Rs ds g w (List.range Rs.length) → wpList P ops Q os ⟨(fillD t ds g).toArray, df⟩ w) : DrawGoal P ops Q id t df ds w1 Rs os [] :=
  fun h1 h2 hD => by
    have hle : Rs.length ≤ ds.length := hD.short
    have hge : ds.length ≤ Rs.length := List.drop_eq_nil_iff.1 h2
    have hlen : Rs.length = ds.length := Nat.le_antisymm hle hge
    exact draw_region hm hL hB hlen hD (fun g w hb hR => by
      rw [← hlen, h1]
      exact hfin g w hb (allR_of fun j hj => hR j (by rw [← hlen]; exact List.mem_range.1 hj)))

/-! ### A region some of whose operations the last ones do not wait for (the drawing out of a result's parts): they are taken as soon as they may. -/
def Region.sinkF (ops : Array Oper) (n : Nat) (fs : List Nat) : Bool :=
  (List.range n).all fun i => fs.contains i || (List.range (n + 1)).any fun j => decide (i < j) && !fs.contains j && Region.waitsFor .any ops j i
def Region.lateB (ops : Array Oper) (fs : List Nat) : Bool :=
  Region.noSelect ops && fs.all fun i => match ops[i]? with
    | some oi => (List.range ops.size).all fun j => decide (j = i) || Region.waitsFor .any ops j i || Region.waitsFor .any ops i j || (match ops[j]? with | some oj => oi.apart ops oj | none => true)
    | none => false
def Region.drawF (ops : Array Oper) (ds fs : List Nat) : Bool :=
  Region.orderB ops && Region.dstB ops ds && decide ds.Nodup && Region.seqB .any ops (ops.size - ds.length) ds.length (Region.fullA ops ds.length) &&
    (decide (ds.length < ops.size) && Region.sinkF ops ds.length fs && Region.chainB .any ops ds.length) && Region.lateB ops fs

theorem tail_waitsF {n : Nat} {fs : List Nat} {listed : Array Bool} (hs : Region.sinkF ops n fs = true) (hc : Region.chainB .any ops n = true) (hn : n < ops.size) (inv : HeadInv .any ops n listed) :
    ∀ (d i : Nat), n - i = d → i < n → i ∉ fs → listed.getD i true = false → ∀ t, n ≤ t → t ∉ Region.ready .any ops listed := by
  intro d
  induction d using Nat.strongRecOn with
  | _ d ih =>
    intro i hd hi hf hun t ht hr
    obtain ⟨_, ot, hot, hall⟩ := mem_ready.1 hr
    have htlt : t < ops.size := (Array.getElem?_eq_some_iff.1 hot).1
    by_cases htn : t = n
    · subst htn
      have h1 := List.all_eq_true.1 hs i (List.mem_range.2 hi)
      simp only [Bool.or_eq_true, List.contains_iff_mem] at h1
      rcases h1 with h1 | h1
      · exact hf h1
      obtain ⟨j, hj, hj2⟩ := List.any_eq_true.1 h1
      simp only [Bool.and_eq_true, decide_eq_true_eq, Bool.not_eq_true', List.contains_eq_mem, decide_eq_false_iff_not] at hj2
      obtain ⟨⟨hij, hjf⟩, hjw⟩ := hj2
      obtain ⟨oj, hoj, e, he, hb, hon⟩ := Region.waitsFor_spec hjw
      have hjle : j ≤ t := by have := List.mem_range.1 hj; omega
      by_cases hjt : j = t
      · subst hjt
        have : oj = ot := Option.some.inj (hoj.symm.trans hot)
        subst this
        have h2 := hall e he hb
        rw [hon, getD_both hun] at h2
        cases h2
      · cases hl : listed.getD j false with
        | true =>
          have h2 := inv.closed j oj hoj hl e he hb
          rw [hon, getD_both hun] at h2
          cases h2
        | false =>
          have hjs : j < listed.size := by rw [inv.size]; omega
          exact ih (t - j) (by omega) j rfl (by omega) hjf (getD_in hjs hl) t (Nat.le_refl _) hr
    · have h1 := List.all_eq_true.1 hc t (List.mem_range.2 htlt)
      simp only [Bool.or_eq_true, decide_eq_true_eq] at h1
      rcases h1 with h1 | h1
      · omega
      · obtain ⟨o', ho', e, he, hb, hon⟩ := Region.waitsFor_spec h1
        have : o' = ot := Option.some.inj (ho'.symm.trans hot)
        subst this
        have h2 := hall e he hb
        rw [hon, getD_both (inv.tail (t - 1) (by omega) (by omega))] at h2
        cases h2

/-- The least of some numbers. -/
theorem least_of (p : Nat → Prop) : ∀ (n : Nat), p n → ∃ m, p m ∧ ∀ k, k < m → ¬ p k := by
  intro n
  induction n using Nat.strongRecOn with
  | _ n ih =>
    intro h
    by_cases hk : ∃ k, k < n ∧ p k
    · obtain ⟨k, hk, hp⟩ := hk; exact ih k hk hp
    · exact ⟨n, h, fun k hk' hp => hk ⟨k, hk', hp⟩⟩

theorem draw_coreF {fs : List Nat} (hB : Region.drawF ops ds fs = true) (hlen : Rs.length = ds.length) (hD : Drawn P ops t df ds w1 Rs) (hQ : ∀ c a (d : Nat) v w, Q (.panic c) (a.put (some d) v) w → Q (.panic c) a w)
    (hF : ∀ i ∈ fs, ∀ o d R, ops[i]? = some o → ds[i]? = some d → Rs[i]? = some R → ∀ g w, Below w1.heap.size w1 w → AllR Rs ds g w (depsOf o) → ∃ v, Yields P ops o v ⟨(fillD t ds g).toArray, df⟩ ∧ R v w)
    (hfin : ∀ g w, Below w1.heap.size w1 w → (∀ j, j < ds.length → RAt Rs ds j g w) → wpList P ops Q (ops.toList.drop ds.length) ⟨(fillD t ds g).toArray, df⟩ w) :
    ∀ (c : Nat) (listed : Array Bool) (g : Nat → Value) (w : World), HeadInv .any ops ds.length listed → ((List.range ds.length).filter fun i => !listed.getD i true).length = c →
      Below w1.heap.size w1 w → (∀ j, j < ds.length → listed.getD j false = true → RAt Rs ds j g w) → (∀ j d, ds[j]? = some d → listed.getD j true = false → g d = t.getD d undef) →
      wpAny P .any ops Q (c + (ops.size - ds.length)) listed ⟨(fillD t ds g).toArray, df⟩ w := by
  simp only [Region.drawF, Bool.and_eq_true, decide_eq_true_eq] at hB
  obtain ⟨⟨⟨⟨⟨hord, hdst⟩, hnd⟩, hseq⟩, ⟨hsz, hs⟩, hcn⟩, hlate⟩ := hB
  have hle : ds.length ≤ ops.size := by omega
  -- what one more operation of the head gives
  have step : ∀ {listed : Array Bool} {i : Nat} {d : Nat} {R : Value → World → Prop} {g : Nat → Value} {w w' : World} {v : Value}, HeadInv .any ops ds.length listed → i ∈ Region.ready .any ops listed → (hin : i < ds.length) → ds[i]? = some d → Rs[i]? = some R →
      Below w.heap.size w w' → R v w' → (∀ j, j < ds.length → listed.getD j false = true → RAt Rs ds j g w) →
      (∀ j, j < ds.length → (listed.setIfInBounds i true).getD j false = true → RAt Rs ds j (upd g d v) w') ∧
      ((List.range ds.length).filter fun k => !listed.getD k true).length = ((List.range ds.length).filter fun k => !(listed.setIfInBounds i true).getD k true).length + 1 := by
    intro listed i d R g w w' v inv hi hin hdi hRi hbw hv hR
    obtain ⟨hun, o, hoi, hall⟩ := mem_ready.1 hi
    refine ⟨fun j hj hl => ?_, filter_one (p := fun k => !listed.getD k true) (p' := fun k => !(listed.setIfInBounds i true).getD k true) (i := i) (List.range ds.length) List.nodup_range (List.mem_range.2 hin) (by simp [hun])
        (by
          have : i < listed.size := by rw [inv.size]; omega
          simp [this])
        (fun k hk => by rw [getD_set_ne true (Ne.symm hk)])⟩
    have hdj : ds[j]? = some ds[j] := List.getElem?_eq_getElem hj
    have hRj : Rs[j]? = some (Rs[j]'(by omega)) := List.getElem?_eq_getElem (by omega)
    by_cases hji : j = i
    · subst hji
      unfold RAt
      simp only [hdi, hRi, upd, if_true]
      exact hv
    · rw [getD_set_ne false (Ne.symm hji)] at hl
      have h0 := hR j hj hl
      unfold RAt at h0 ⊢
      simp only [hdj, hRj] at h0 ⊢
      have hd' : d = ds[i] := by rw [List.getElem?_eq_getElem hin] at hdi; exact (Option.some.inj hdi).symm
      have hne : ds[j] ≠ d := by
        rw [hd']
        rcases Nat.lt_or_gt_of_ne hji with h | h
        · exact List.pairwise_iff_getElem.1 hnd j i hj hin h
        · exact fun he => List.pairwise_iff_getElem.1 hnd i j hin hj h he.symm
      rw [show upd g d v ds[j] = g ds[j] from if_neg hne]
      exact hD.stable _ (List.getElem_mem _) _ _ _ hbw h0
  have hput : ∀ (g : Nat → Value) (i d : Nat) (v : Value), ds[i]? = some d → (⟨(fillD t ds g).toArray, df⟩ : Act).put (some d) v = ⟨(fillD t ds (upd g d v)).toArray, df⟩ := by
    intro g i d v hd
    simp only [Act.put, List.setIfInBounds_toArray]
    rw [fillD_set (List.mem_of_getElem? hd)]
  intro c
  induction c with
  | zero =>
    intro listed g w inv hc hb hR hU
    have hall : ∀ i, i < ds.length → listed.getD i false = true := by
      intro i hi
      have h0 := List.length_eq_zero_iff.1 hc
      have h1 : i ∉ ((List.range ds.length).filter fun i => !listed.getD i true) := by rw [h0]; simp
      have h2 : listed.getD i true = true := by
        cases hg : listed.getD i true with
        | true => rfl
        | false => exact (h1 (List.mem_filter.2 ⟨List.mem_range.2 hi, by simp [hg]⟩)).elim
      have hil : i < listed.size := by rw [inv.size]; omega
      simp [hil] at h2 ⊢; exact h2
    have hfull : listed = Region.fullA ops ds.length := by
      apply Array.ext
      · simp [Region.fullA, inv.size]
      · intro i h1 h2
        simp only [Region.fullA, List.getElem_toArray, List.getElem_map, List.getElem_range]
        by_cases hi : i < ds.length
        · have := hall i hi; simp [h1] at this; simp [hi, this]
        · have := inv.tail i (by omega) (by rw [← inv.size]; exact h1); simp [h1] at this; simp [hi, this]
    have hl : (ops.toList.drop ds.length).length = ops.size - ds.length := by simp
    rw [Nat.zero_add, ← hl]
    refine wpAny_of_seq _ ds.length listed _ w (fun j => by simp) (by rw [hl, hfull]; exact hseq) (hfin g w hb fun j hj => hR j hj (hall j hj))
  | succ c ih =>
    intro listed g w inv hc hb hR hU
    have depR : ∀ {i : Nat} {o : Oper}, i < ds.length → ops[i]? = some o → (∀ e ∈ o.after, Region.binds .any e = true → listed.getD e.on false = true) → ∀ j ∈ depsOf o, RAt Rs ds j g w := by
      intro i o hin hoi hall j hj
      obtain ⟨e, he, hbd, rfl⟩ := depsOf_mem hj
      have := order_spec hord hoi hj
      exact hR _ (by omega) (hall e he hbd)
    obtain ⟨i0, hi0, hu0⟩ : ∃ i, i < ds.length ∧ listed.getD i true = false := by
      cases hf : (List.range ds.length).filter fun i => !listed.getD i true with
      | nil => rw [hf] at hc; cases hc
      | cons i l =>
        have : i ∈ (List.range ds.length).filter fun i => !listed.getD i true := by rw [hf]; exact List.mem_cons_self
        obtain ⟨h1, h2⟩ := List.mem_filter.1 this
        exact ⟨i, List.mem_range.1 h1, by simpa using h2⟩
    rw [show c + 1 + (ops.size - ds.length) = (c + (ops.size - ds.length)) + 1 by omega]
    by_cases hlateReady : ∃ i, i ∈ fs ∧ i < ds.length ∧ i ∈ Region.ready .any ops listed
    · obtain ⟨i, hif, hin, hi⟩ := hlateReady
      obtain ⟨hun, o, hoi, hall⟩ := mem_ready.1 hi
      have hdi : ds[i]? = some ds[i] := List.getElem?_eq_getElem hin
      have hRi : Rs[i]? = some (Rs[i]'(by omega)) := List.getElem?_eq_getElem (by omega)
      obtain ⟨v, hy, hv⟩ := hF i hif o _ _ hoi hdi hRi g w hb (allR_of (depR hin hoi hall))
      have hod : o.dst = some ds[i] := by
        have h1 := List.all_eq_true.1 hdst i (List.mem_range.2 hin)
        simp only [hoi, Option.bind_some, beq_iff_eq] at h1
        rw [h1]; exact hdi
      simp only [Region.lateB, Bool.and_eq_true] at hlate
      have hl2 := List.all_eq_true.1 hlate.2 i hif
      simp only [hoi] at hl2
      refine wpAny_first hoi (fun j o cs b ho => Region.noSelect_spec hlate.1 j o cs b ho) (fun c a w h => hQ c a _ _ w (by rw [hod] at h; exact h)) _ listed _ w (fun j oj hoj hji hjun hno => ?_) hi hy ?_
      · have hjlt := (Array.getElem?_eq_some_iff.1 hoj).1
        have h3 := List.all_eq_true.1 hl2 j (List.mem_range.2 hjlt)
        simp only [Bool.or_eq_true, decide_eq_true_eq, hoj] at h3
        rcases h3 with ((h3 | h3) | h3) | h3
        · exact (hji h3).elim
        · obtain ⟨o', ho', e, he, hbd, hon⟩ := Region.waitsFor_spec h3
          have : o' = oj := Option.some.inj (ho'.symm.trans hoj)
          subst this
          exact (hno e he hbd hon).elim
        · obtain ⟨o', ho', e, he, hbd, hon⟩ := Region.waitsFor_spec h3
          have : o' = o := Option.some.inj (ho'.symm.trans hoi)
          subst this
          have h4 := hall e he hbd
          rw [hon, getD_both hjun] at h4
          cases h4
        · exact h3
      · rw [hod, hput g i _ v hdi]
        obtain ⟨h5, h6⟩ := step (g := g) (w := w) (w' := w) (v := v) inv hi hin hdi hRi (Below.refl _ _) hv hR
        exact ih _ _ _ (inv.set hi hin) (by omega) hb h5 (turn_of hnd hdi hU)
    · refine ⟨fun h => absurd h (ready_some hord hle inv.size i0 hi0 hu0), fun i hi => ?_⟩
      obtain ⟨hun, o, hoi, hall⟩ := mem_ready.1 hi
      have hin : i < ds.length := by
        rcases Nat.lt_or_ge i ds.length with h' | h'
        · exact h'
        · exfalso
          -- the least that has not come up
          obtain ⟨m, ⟨hm1, hm2⟩, hmin⟩ := least_of (fun k => k < ds.length ∧ listed.getD k true = false) i0 ⟨hi0, hu0⟩
          by_cases hmf : m ∈ fs
          · apply hlateReady
            have hmlt : m < ops.size := by omega
            refine ⟨m, hmf, hm1, mem_ready.2 ⟨hm2, _, Array.getElem?_eq_getElem hmlt, fun e he hbd => ?_⟩⟩
            have hem := order_spec hord (Array.getElem?_eq_getElem hmlt) (depsOf_spec he hbd)
            cases hl : listed.getD e.on false with
            | true => rfl
            | false => exact (hmin e.on hem ⟨by omega, getD_in (by rw [inv.size]; omega) hl⟩).elim
          · exact tail_waitsF hs hcn hsz inv _ m rfl hm1 hmf hm2 i h' hi
      have hdi : ds[i]? = some ds[i] := List.getElem?_eq_getElem hin
      have hRi : Rs[i]? = some (Rs[i]'(by omega)) := List.getElem?_eq_getElem (by omega)
      refine wpOp_of_single hoi (fun _ _ _ h => by cases h.1) (fun _ _ h => by cases h.1) (fun a' w' h => ?_) (hD.ok i o _ _ hoi hdi hRi g w hb (depR hin hoi hall) (unturned_of inv hun hU))
      obtain ⟨_, v, rfl, hbw, hv⟩ := h
      rw [hput g i _ v hdi]
      obtain ⟨h5, h6⟩ := step inv hi hin hdi hRi hbw hv hR
      exact ih _ _ _ (inv.set hi hin) (by omega) (hb.trans (hbw.mono hb.size)) h5 (turn_of hnd hdi hU)

theorem draw_endF {id : Nat} {os : List Oper} {L : List LBlk} {D : List Datum} {w0 : World} (fs : List Nat) (hL : Loc w0 w1 L D) (hm : P.follows .mixedOrders = true) (hB : Region.drawF ops ds fs = true) (hQ : ∀ c a (d : Nat) v w, Q (.panic c) (a.put (some d) v) w → Q (.panic c) a w)
    (hF : ∀ i ∈ fs, ∀ o d R, ops[i]? = some o → ds[i]? = some d → Rs[i]? = some R → ∀ g w, Below w1.heap.size w1 w → AllR Rs ds g w (depsOf o) → ∃ v, Yields P ops o v ⟨(fillD t ds g).toArray, df⟩ ∧ R v w)
    (hfin : ∀ g w, Below w1.heap.size w1 w → AllR Rs ds g w (List.range Rs.length) → wpList P ops Q os ⟨(fillD t ds g).toArray, df⟩ w) : DrawGoal P ops Q id t df ds w1 Rs os [] :=
  fun h1 h2 hD => by
    have hle : Rs.length ≤ ds.length := hD.short
    have hge : ds.length ≤ Rs.length := List.drop_eq_nil_iff.1 h2
    have hlen : Rs.length = ds.length := Nat.le_antisymm hle hge
    have hdl : ds.length ≤ ops.size := by
      simp only [Region.drawF, Bool.and_eq_true, decide_eq_true_eq] at hB
      omega
    refine wp_region_any hm ?_
    have h := draw_coreF (Q := Q) hB hlen hD hQ hF (fun g w hb hR => by
      rw [← hlen, h1]
      exact hfin g w hb (allR_of fun j hj => hR j (by rw [← hlen]; exact List.mem_range.1 hj))) ds.length (Array.replicate ops.size false) (fun d => t.getD d undef) w1.drew
      ⟨by simp, fun j oj _ hl => (by rw [getD_replicate_false] at hl; cases hl), fun k _ hk => (by simp [hk])⟩
      (by
        have : ((List.range ds.length).filter fun i => !(Array.replicate ops.size false).getD i true) = List.range ds.length := by
          rw [List.filter_eq_self]
          intro i hi
          have : i < ops.size := by have := List.mem_range.1 hi; omega
          simp [this]
        rw [this]; simp)
      ((Below.refl _ _).drew) (fun j _ hl => (by rw [getD_replicate_false] at hl; cases hl)) (fun _ _ _ _ => rfl)
    rw [fillD_self, show ds.length + (ops.size - ds.length) = ops.size by omega] at h
    exact h

def LateOk (P : Program) (ops : Array Oper) (t : List Value) (df : List Deferred) (ds : List Nat) (w1 : World) (Rs : List (Value → World → Prop)) (k : Nat) : Prop :=
  ∀ o d R, ops[k]? = some o → ds[k]? = some d → Rs[k]? = some R → ∀ g w, Below w1.heap.size w1 w → AllR Rs ds g w (depsOf o) → ∃ v, Yields P ops o v ⟨(fillD t ds g).toArray, df⟩ ∧ R v w
theorem late_ok {k : Nat} {o : Oper} {R : Value → World → Prop} (ho : ops.toList[k]? = some o) (hR : Rs[k]? = some R)
    (h : ∀ g w, Below w1.heap.size w1 w → AllR Rs ds g w (depsOf o) → ∃ v, Yields P ops o v ⟨(fillD t ds g).toArray, df⟩ ∧ R v w) : LateOk P ops t df ds w1 Rs k := fun o' d R' ho' _ hR' => by
  have e1 : o' = o := by rw [Array.getElem?_toList] at ho; exact Option.some.inj (ho'.symm.trans ho)
  have e2 : R' = R := Option.some.inj (hR'.symm.trans hR)
  subst e1; subst e2; exact h
theorem draw_end1 {id : Nat} {os : List Oper} {L : List LBlk} {D : List Datum} {w0 : World} (k : Nat) (hL : Loc w0 w1 L D) (hm : P.follows .mixedOrders = true) (hB : Region.drawF ops ds [k] = true) (hQ : ∀ c a (d : Nat) v w, Q (.panic c) (a.put (some d) v) w → Q (.panic c) a w)
    (hF : LateOk P ops t df ds w1 Rs k)
    (hfin : ∀ g w, Below w1.heap.size w1 w → AllR Rs ds g w (List.range Rs.length) → wpList P ops Q os ⟨(fillD t ds g).toArray, df⟩ w) : DrawGoal P ops Q id t df ds w1 Rs os [] :=
  draw_endF [k] hL hm hB hQ (fun i hi => by rw [List.mem_singleton.1 hi]; exact hF) hfin
end
end Go.Proofs.Ytodamdjnbnkmdaa
