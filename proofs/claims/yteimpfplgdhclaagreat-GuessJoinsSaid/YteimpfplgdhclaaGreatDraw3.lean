/- A region that draws its order and stores into blocks of the call's own: an invariant over what has come up. Over any program. Conditions: none. -/
import Derived.Test.YteimpfplgdhclaaGreatLib
set_option linter.unusedSimpArgs false
set_option linter.unusedVariables false
namespace Go.Proofs.YteimpfplgdhclaaGreat
open Go.RowKit

section
variable {P : Program} {ops : Array Oper} {Q : Exit → Act → World → Prop}
variable {t : List Value} {df : List Deferred} {ds : List Nat} {xs : List Yld} {w0 w1 : World} {CL : Array Bool → List LBlk} {D : List Datum} {l : Array Bool} {g : Nat → Value} {w : World} {i : Nat} {o : Oper}

structure InvC (xs : List Yld) (w0 : World) (CL : Array Bool → List LBlk) (D : List Datum) (l : Array Bool) (g : Nat → Value) (w : World) : Prop where
  loc : Loc w0 w (CL l) D
  vals : ∀ e ∈ xs, lst l e.1 = true → g e.2.1 = e.2.2
def InvCA (t : List Value) (df : List Deferred) (ds : List Nat) (xs : List Yld) (w0 : World) (CL : Array Bool → List LBlk) (D : List Datum) (l : Array Bool) (a : Act) (w : World) : Prop :=
  ∃ g, a = ⟨(fillD t ds g).toArray, df⟩ ∧ InvC xs w0 CL D l g w
def keysC (ds : List Nat) (xs : List Yld) : Bool := decide (xs.map (·.1)).Nodup && decide (xs.map (·.2.1)).Nodup && xs.all (fun e => ds.contains e.2.1)

/-- An operation that yields a known value. -/
theorem inv_valC {d : Nat} {x : Value} (hk : keysC ds xs = true) (hx : (i, d, x) ∈ xs) (hI : InvC xs w0 CL D l g w) (hcl : CL (l.setIfInBounds i true) = CL l)
    (h : wpList P ops (DrawPost ⟨(fillD t ds g).toArray, df⟩ d w (fun v _ => v = x)) [o] ⟨(fillD t ds g).toArray, df⟩ w) :
    wpList P ops (NormalTo (InvCA t df ds xs w0 CL D (l.setIfInBounds i true))) [o] ⟨(fillD t ds g).toArray, df⟩ w := by
  simp only [keysC, Bool.and_eq_true, decide_eq_true_eq] at hk
  obtain ⟨⟨k1, k2⟩, k3⟩ := hk
  have hdd : d ∈ ds := by
    have := List.all_eq_true.1 k3 (i, d, x) hx
    simpa using this
  refine wpList_glue (rest := []) (fun _ _ _ h => by cases h.1) (fun _ _ h => by cases h.1) (fun a' w' he => ?_) h
  show NormalTo _ .normal a' w'
  obtain ⟨_, v, rfl, hb, rfl⟩ := he
  refine ⟨rfl, upd g d v, put_fill hdd, by rw [hcl]; exact hI.loc.grow hb, fun e he hl => ?_⟩
  by_cases hei : e.1 = i
  · have hee : e = (i, d, v) := nodup_map_inj k1 e he _ hx hei
    subst hee
    simp [upd]
  · rw [lst_set_ne hei] at hl
    have hne : e.2.1 ≠ d := fun hd => by
      have hee : e = (i, d, v) := nodup_map_inj k2 e he _ hx hd
      exact hei (congrArg Prod.fst hee)
    simp only [upd, if_neg hne]
    exact hI.vals e he hl
/-- Behind a store. -/
theorem inv_stC (hI : InvC xs w0 CL D l g w) (hne : xs.all (fun e => !(e.1 == i)) = true) {w' : World} {L : List LBlk} (hL : Loc w0 w' L D) (hcl : CL (l.setIfInBounds i true) = L) :
    wpList P ops (NormalTo (InvCA t df ds xs w0 CL D (l.setIfInBounds i true))) [] ⟨(fillD t ds g).toArray, df⟩ w' := by
  show NormalTo _ .normal _ _
  refine ⟨rfl, g, rfl, by rw [hcl]; exact hL, fun e he hl => ?_⟩
  have h1 := List.all_eq_true.1 hne e he
  have hei : e.1 ≠ i := by simpa using h1
  rw [lst_set_ne hei] at hl
  exact hI.vals e he hl
theorem inv_stD (hI : InvC xs w0 CL D l g w) (hne : xs.all (fun e => !(e.1 == i)) = true) {L : List LBlk} (hcl : CL (l.setIfInBounds i true) = L)
    (h : wpList P ops (fun e a' w' => e = .normal ∧ a' = ⟨(fillD t ds g).toArray, df⟩ ∧ Loc w0 w' L D) [o] ⟨(fillD t ds g).toArray, df⟩ w) :
    wpList P ops (NormalTo (InvCA t df ds xs w0 CL D (l.setIfInBounds i true))) [o] ⟨(fillD t ds g).toArray, df⟩ w := by
  refine wpList_glue (rest := []) (fun _ _ _ h => by cases h.1) (fun _ _ h => by cases h.1) (fun a' w' he => ?_) h
  obtain ⟨_, rfl, hL⟩ := he
  exact inv_stC hI hne hL hcl
def StepC (P : Program) (ops : Array Oper) (t : List Value) (df : List Deferred) (ds : List Nat) (xs : List Yld) (w0 : World) (CL : Array Bool → List LBlk) (D : List Datum) (i : Nat) (o : Oper) : Prop :=
  ∀ l g w, i < l.size → InvC xs w0 CL D l g w → (∀ j ∈ depsOf o, lst l j = true) →
    wpList P ops (NormalTo (InvCA t df ds xs w0 CL D (l.setIfInBounds i true))) [o] ⟨(fillD t ds g).toArray, df⟩ w
theorem draw_cells {id : Nat} {l0 : List Oper} (ds : List Nat) (xs : List Yld) (CL : Array Bool → List LBlk) (hm : P.follows .mixedOrders = true) (hord : Region.orderB l0.toArray = true) (h0 : Loc w0 w1 (CL (Array.replicate l0.toArray.size false)) D)
    (hsteps : StepsFrom (StepC P l0.toArray t df ds xs w0 CL D) 0 l0)
    (hfin : ∀ g w l, (∀ i, i < l0.length → lst l i = true) → Loc w0 w (CL l) D → (∀ e ∈ xs, e.1 < l0.length → g e.2.1 = e.2.2) → wpList P l0.toArray Q [] ⟨(fillD t ds g).toArray, df⟩ w) :
    (Code.region id l0.toArray true).wp P Q ⟨t.toArray, df⟩ w1 := by
  refine draw_inv (Inv := InvCA t df ds xs w0 CL D) hm hord ?_ ?_ ?_
  · refine ⟨fun d => t.getD d undef, by rw [fillD_self], h0.drew, fun e _ hl => ?_⟩
    unfold lst at hl; rw [getD_replicate_false] at hl; cases hl
  · intro i o hi l a w inv hA hun hdep
    obtain ⟨g, rfl, hI⟩ := hA
    have hi' : i < l0.toArray.size := (Array.getElem?_eq_some_iff.1 hi).1
    have := steps_get (K := StepC P l0.toArray t df ds xs w0 CL D) (k := 0) (i := i) (o := o) hsteps (by simpa using hi)
    rw [Nat.zero_add] at this
    exact this l g w (by rw [inv.size]; exact hi') hI hdep
  · intro l a w hA hall
    obtain ⟨g, rfl, hI⟩ := hA
    have hall' : ∀ i, i < l0.length → lst l i = true := fun i hi => hall i (by simpa using hi)
    exact hfin g w l hall' hI.loc (fun e he hi => hI.vals e he (hall' _ hi))
theorem lst_rep (n k : Nat) : lst (Array.replicate n false) k = false := getD_replicate_false _ _
end
end Go.Proofs.YteimpfplgdhclaaGreat
