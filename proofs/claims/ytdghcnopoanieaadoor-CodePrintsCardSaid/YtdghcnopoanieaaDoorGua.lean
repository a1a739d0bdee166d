/- The walks over small functions of guesses. Conditions: sites lie in memory that was there. | The walks over functions on lists of ints: slices.Index, slices.Contains, the reference's Has and SameInts. Conditions: the ints lie in memory that was there. | A region that draws its order and stores into blocks of the call's own: an invariant over what has come up. Over any program. Conditions: none. | The walks over more functions of guesses: Counts, TruthOf, truths, two, Is, Held, HeldOf. Conditions: sites lie in memory that was there. | The walk over guess.two at 'less'. Conditions: none. | The walks over guess.one and the reference's Single: is a guess one value? Conditions: few sites. | A slice of ints in a call's own memory; or one that was there. Conditions: none. | More short words for the walks: loads of what was there, and of blocks whose cells are not written out. Over any program. Conditions: none. -/
import Derived.Test.YtdghcnopoanieaaDoorCod
import Derived.Test.YtdghcnopoanieaaDoorSpn
import Derived.Test.YtdghcnopoanieaaDoorLib
set_option linter.unusedSimpArgs false
set_option linter.unusedVariables false
namespace Go.Proofs.YtdghcnopoanieaaDoor
open Go.RowKit

structure Gu where
  null : Bool
  span : Span
  tr : Bool
  fa : Bool
  s : Sl
abbrev Gu.cells (g : Gu) : List Value := [.bool g.null, .bool g.span.none, .int .i64 g.span.lo, .int .i64 g.span.hi, .bool g.tr, .bool g.fa, .slice g.s.p g.s.n g.s.cap]
abbrev Gu.v (g : Gu) : Value := .agg #[.bool g.null, .bool g.span.none, .int .i64 g.span.lo, .int .i64 g.span.hi, .bool g.tr, .bool g.fa, .slice g.s.p g.s.n g.s.cap]
abbrev nothingG : Gu := ⟨false, noSpan, false, false, nilSl⟩
def emptyG (g : Gu) : Bool := !g.null && g.span.none && !g.tr && !g.fa && (g.s.n : Int) == 0
def otherG (g : Gu) : Bool := g.null || g.tr || g.fa || decide (0 < g.s.n)
def yesG (g : Gu) : Bool := (!g.span.none && !(g.span.lo == 0 && g.span.hi == 0)) || g.tr || decide (0 < g.s.n)
def noG (g : Gu) : Bool := g.null || g.fa || inSpan g.span 0

end Go.Proofs.YtdghcnopoanieaaDoor
set_option linter.unusedSimpArgs false
set_option linter.unusedVariables false
namespace Go.Proofs.YtdghcnopoanieaaDoor
open Go.RowKit

/-- Is v one of l? -/
def hasI (l : List Int) (v : Int) : Bool := anyN (fun k => l.getD k 0 == v) l.length
theorem hasI_iff {l : List Int} {v : Int} : hasI l v = true ↔ v ∈ l := by
  unfold hasI
  rw [anyN_iff]
  constructor
  · rintro ⟨k, hk, h⟩
    rw [List.getD_eq_getElem?_getD, List.getElem?_eq_getElem hk] at h
    have : l[k] = v := by simpa using h
    exact this ▸ List.getElem_mem hk
  · intro h
    obtain ⟨k, hk, h⟩ := List.mem_iff_getElem.1 h
    exact ⟨k, hk, by rw [List.getD_eq_getElem?_getD, List.getElem?_eq_getElem hk]; simp [h]⟩
/-- Do two lists of one length differ? -/
def sameI (l m : List Int) : Bool := (l.length == m.length) && !anyN (fun k => l.getD k 0 != m.getD k 0) l.length
theorem sameI_self (l : List Int) : sameI l l = true := by
  unfold sameI
  rw [anyN_no (fun k _ => by simp)]
  simp

set_option maxRecDepth 100000 in
set_option maxHeartbeats 1600000 in
theorem sameInts_any (s t : Sl) (l m : List Int) (w : World) (hl : IntsAt w s l) (hm : IntsAt w t m) :
    Calls Tryd.prog 16 #[s.v, t.v] w fun e w' => e = .returned (.bool (sameI l m)) ∧ Below w.heap.size w w' := by
  obtain ⟨b, o, hp, hc⟩ := hl.reads tInt
  obtain ⟨b2, o2, hp2, hc2⟩ := hm.reads tInt
  have hn := hl.n
  have hs := hl.m
  have hn2 := hm.n
  have hs2 := hm.m
  obtain ⟨p, n, cap⟩ := s
  obtain ⟨p2, n2, cap2⟩ := t
  dsimp only at hp hc hn hs hp2 hc2 hn2 hs2
  subst hn
  subst hn2
  dsimp only [Sl.v]
  have HP := Lib.hid hp
  have HC := Lib.hid hc
  have HP2 := Lib.hid hp2
  have HC2 := Lib.hid hc2
  clear hp hc hl hp2 hc2 hm
  have hL := Loc.start w
  by_cases hlen : (l.length : Int) = m.length
  · have hlen' : l.length = m.length := by omega
    have h0 : ((l.length : Int) != (m.length : Int)) = false := by simp [hlen]
    have HS := Lib.hid (show sameI l m = !anyN (fun k => l.getD k 0 != m.getD k 0) l.length by simp [sameI, hlen'])
    have HLE := Lib.hid hlen'
    clear hlen hlen'
    go_enter Tryd.func16, Tryd.ntmps16
    go_wp2
    go_loopw [5] (fun x wr => ∃ k : Nat, k ≤ l.length ∧ x = .int .i64 k ∧ (∀ j, j < k → (l.getD j 0 != m.getD j 0) = false) ∧ Loc w wr [] []) (fun x _ => l.length - (intOf x).toNat)
    case atStart => exact ⟨0, Nat.zero_le _, rfl, fun j hj => absurd hj (by omega), hL⟩
    case round =>
      clear hL
      obtain ⟨k, hk, rfl, hq, hL⟩ := hrel
      have HQ := Lib.hid hq
      clear hq
      by_cases hlt : k < l.length
      · have hlt2 : k < m.length := by rw [← HLE.out]; exact hlt
        have HPC := Lib.hid (HP.out (by omega))
        have HPC2 := Lib.hid (HP2.out (by omega))
        have HR := Lib.hid (HC.out k hlt)
        have HR2 := Lib.hid (HC2.out k hlt2)
        generalize hx : l.getD k 0 = x at HR
        generalize hy : m.getD k 0 = y at HR2
        have HX := Lib.hid hx
        have HY := Lib.hid hy
        clear hx hy
        go_upto_region 6 with (fail)
        refine draw_begin [17, 18, 19, 20, 21, 22, 23, 24, 25] ?_
        refine dv0 ?_
        refine dv0 ?_
        apply draw_val
        · intro g w hb hdep; replace hL := hL.grow hb; have d0 := yv hdep 0; have d1 := yv hdep 1; clear hdep; simp only [fillD, fLa, fLb, sTa, sTb]; simp only [d0, d1]
          (simp only [HPC.out]; go_wp2)
          exact cY
        simp only [apN, apC]
        apply draw_val
        · intro g w hb hdep; replace hL := hL.grow hb; have d2 := yv hdep 2; clear hdep; simp only [fillD, fLa, fLb, sTa, sTb]; simp only [d2]
          refine loc_loadB HR.out hL rfl rfl ?_
          exact cY
        simp only [apN, apC]
        refine dv0 ?_
        refine dv0 ?_
        apply draw_val
        · intro g w hb hdep; replace hL := hL.grow hb; have d4 := yv hdep 4; have d5 := yv hdep 5; clear hdep; simp only [fillD, fLa, fLb, sTa, sTb]; simp only [d4, d5]
          (simp only [HPC2.out]; go_wp2)
          exact cY
        simp only [apN, apC]
        apply draw_val
        · intro g w hb hdep; replace hL := hL.grow hb; have d6 := yv hdep 6; clear hdep; simp only [fillD, fLa, fLb, sTa, sTb]; simp only [d6]
          refine loc_loadB HR2.out hL rfl rfl ?_
          exact cY
        simp only [apN, apC]
        refine dv2 3 7 ?_
        refine dnd hL ?_
        clear hL; intro w2 hL; simp only [fillX, sTa, sTb]
        by_cases he : x = y
        · have h1 : (x != y) = false := by simp [he]
          have HE := Lib.hid h1
          simp only [h1]
          clear h1 he
          go_wp2
          go_roundw
          case rel =>
            refine ⟨k + 1, by omega, by go_num, fun j hj => ?_, hL⟩
            rcases Nat.lt_or_ge j k with h | h
            · exact HQ.out j h
            · obtain rfl : j = k := by omega
              rw [HX.out, HY.out]
              exact HE.out
          case measure => simp [intOf]; omega
        · have h1 : (x != y) = true := by simp [he]
          have HA := Lib.hid (anyN_yes (q := fun k => l.getD k 0 != m.getD k 0) hlt (by show (l.getD k 0 != m.getD k 0) = true; rw [HX.out, HY.out]; exact h1))
          simp only [h1]
          clear h1 he
          go_wp2
          go_ret
          exact ⟨by rw [HS.out, HA.out]; rfl, hL.below⟩
      · obtain rfl : k = l.length := by omega
        have HA := Lib.hid (anyN_no HQ.out)
        go_wp2
        go_ret
        exact ⟨by rw [HS.out, HA.out]; rfl, hL.below⟩
  · have h0 : ((l.length : Int) != (m.length : Int)) = true := by simpa using hlen
    have HS := Lib.hid (show sameI l m = false by
      have : ¬ l.length = m.length := by omega
      simp [sameI, this])
    clear hlen
    go_enter Tryd.func16, Tryd.ntmps16
    go_wp2
    go_ret
    exact ⟨by first | (rw [HS.out]; done) | (rw [HS.out]; rfl), hL.below⟩
end Go.Proofs.YtdghcnopoanieaaDoor
set_option linter.unusedSimpArgs false
set_option linter.unusedVariables false
namespace Go.Proofs.YtdghcnopoanieaaDoor
open Go.RowKit

section
variable {P : Program} {ops : Array Oper} {Q : Exit → Act → World → Prop}
variable {t : List Value} {df : List Deferred} {ds : List Nat} {xs : List Yld} {w0 w1 : World} {CL : Array Bool → List LBlk} {D : List Datum} {l : Array Bool} {g : Nat → Value} {w : World} {i : Nat} {o : Oper}

structure InvC (xs : List Yld) (w0 : World) (CL : Array Bool → List LBlk) (D : List Datum) (l : Array Bool) (g : Nat → Value) (w : World) : Prop where
  loc : Loc w0 w (CL l) D
  vals : ∀ e ∈ xs, lst l e.1 = true → g e.2.1 = e.2.2
def InvCA (t : List Value) (df : List Deferred) (ds : List Nat) (xs : List Yld) (w0 : World) (CL : Array Bool → List LBlk) (D : List Datum) (l : Array Bool) (a : Act) (w : World) : Prop :=
  ∃ g, a = ⟨(fillD t ds g).toArray, df⟩ ∧ InvC xs w0 CL D l g w
def keysC (ds : List Nat) (xs : List Yld) : Bool := decide (xs.map (·.1)).Nodup && decide (xs.map (·.2.1)).Nodup && xs.all (fun e => ds.contains e.2.1)

/-- An operation that yields a known value. -/
theorem inv_valC {d : Nat} {x : Value} (hk : keysC ds xs = true) (hx : (i, d, x) ∈ xs) (hI : InvC xs w0 CL D l g w) (hcl : CL (l.setIfInBounds i true) = CL l)
    (h : wpList P ops (DrawPost ⟨(fillD t ds g).toArray, df⟩ d w (fun v _ => v = x)) [o] ⟨(fillD t ds g).toArray, df⟩ w) :
    wpList P ops (NormalTo (InvCA t df ds xs w0 CL D (l.setIfInBounds i true))) [o] ⟨(fillD t ds g).toArray, df⟩ w := by
  simp only [keysC, Bool.and_eq_true, decide_eq_true_eq] at hk
  obtain ⟨⟨k1, k2⟩, k3⟩ := hk
  have hdd : d ∈ ds := by
    have := List.all_eq_true.1 k3 (i, d, x) hx
    simpa using this
  refine wpList_glue (rest := []) (fun _ _ _ h => by cases h.1) (fun _ _ h => by cases h.1) (fun a' w' he => ?_) h
  show NormalTo _ .normal a' w'
  obtain ⟨_, v, rfl, hb, rfl⟩ := he
  refine ⟨rfl, upd g d v, put_fill hdd, by rw [hcl]; exact hI.loc.grow hb, fun e he hl => ?_⟩
  by_cases hei : e.1 = i
  · have hee : e = (i, d, v) := nodup_map_inj k1 e he _ hx hei
    subst hee
    simp [upd]
  · rw [lst_set_ne hei] at hl
    have hne : e.2.1 ≠ d := fun hd => by
      have hee : e = (i, d, v) := nodup_map_inj k2 e he _ hx hd
      exact hei (congrArg Prod.fst hee)
    simp only [upd, if_neg hne]
    exact hI.vals e he hl
/-- Behind a store. -/
theorem inv_stC (hI : InvC xs w0 CL D l g w) (hne : xs.all (fun e => !(e.1 == i)) = true) {w' : World} {L : List LBlk} (hL : Loc w0 w' L D) (hcl : CL (l.setIfInBounds i true) = L) :
    wpList P ops (NormalTo (InvCA t df ds xs w0 CL D (l.setIfInBounds i true))) [] ⟨(fillD t ds g).toArray, df⟩ w' := by
  show NormalTo _ .normal _ _
  refine ⟨rfl, g, rfl, by rw [hcl]; exact hL, fun e he hl => ?_⟩
  have h1 := List.all_eq_true.1 hne e he
  have hei : e.1 ≠ i := by simpa using h1
  rw [lst_set_ne hei] at hl
  exact hI.vals e he hl
theorem inv_stD (hI : InvC xs w0 CL D l g w) (hne : xs.all (fun e => !(e.1 == i)) = true) {L : List LBlk} (hcl : CL (l.setIfInBounds i true) = L)
    (h : wpList P ops (fun e a' w' => e = .normal ∧ a' = ⟨(fillD t ds g).toArray, df⟩ ∧ Loc w0 w' L D) [o] ⟨(fillD t ds g).toArray, df⟩ w) :
    wpList P ops (NormalTo (InvCA t df ds xs w0 CL D (l.setIfInBounds i true))) [o] ⟨(fillD t ds g).toArray, df⟩ w := by
  refine wpList_glue (rest := []) (fun _ _ _ h => by cases h.1) (fun _ _ h => by cases h.1) (fun a' w' he => ?_) h
  obtain ⟨_, rfl, hL⟩ := he
  exact inv_stC hI hne hL hcl
def StepC (P : Program) (ops : Array Oper) (t : List Value) (df : List Deferred) (ds : List Nat) (xs : List Yld) (w0 : World) (CL : Array Bool → List LBlk) (D : List Datum) (i : Nat) (o : Oper) : Prop :=
  ∀ l g w, i < l.size → InvC xs w0 CL D l g w → (∀ j ∈ depsOf o, lst l j = true) →
    wpList P ops (NormalTo (InvCA t df ds xs w0 CL D (l.setIfInBounds i true))) [o] ⟨(fillD t ds g).toArray, df⟩ w
theorem draw_cells {id : Nat} {l0 : List Oper} (ds : List Nat) (xs : List Yld) (CL : Array Bool → List LBlk) (hm : P.follows .mixedOrders = true) (hord : Region.orderB l0.toArray = true) (h0 : Loc w0 w1 (CL (Array.replicate l0.toArray.size false)) D)
    (hsteps : StepsFrom (StepC P l0.toArray t df ds xs w0 CL D) 0 l0)
    (hfin : ∀ g w l, (∀ i, i < l0.length → lst l i = true) → Loc w0 w (CL l) D → (∀ e ∈ xs, e.1 < l0.length → g e.2.1 = e.2.2) → wpList P l0.toArray Q [] ⟨(fillD t ds g).toArray, df⟩ w) :
    (Code.region id l0.toArray true).wp P Q ⟨t.toArray, df⟩ w1 := by
  refine draw_inv (Inv := InvCA t df ds xs w0 CL D) hm hord ?_ ?_ ?_
  · refine ⟨fun d => t.getD d undef, by rw [fillD_self], h0.drew, fun e _ hl => ?_⟩
    unfold lst at hl; rw [getD_replicate_false] at hl; cases hl
  · intro i o hi l a w inv hA hun hdep
    obtain ⟨g, rfl, hI⟩ := hA
    have hi' : i < l0.toArray.size := (Array.getElem?_eq_some_iff.1 hi).1
    have := steps_get (K := StepC P l0.toArray t df ds xs w0 CL D) (k := 0) (i := i) (o := o) hsteps (by simpa using hi)
    rw [Nat.zero_add] at this
    exact this l g w (by rw [inv.size]; exact hi') hI hdep
  · intro l a w hA hall
    obtain ⟨g, rfl, hI⟩ := hA
    have hall' : ∀ i, i < l0.length → lst l i = true := fun i hi => hall i (by simpa using hi)
    exact hfin g w l hall' hI.loc (fun e he hi => hI.vals e he (hall' _ hi))
theorem lst_rep (n k : Nat) : lst (Array.replicate n false) k = false := getD_replicate_false _ _
end
end Go.Proofs.YtdghcnopoanieaaDoor
set_option linter.unusedSimpArgs false
set_option linter.unusedVariables false
namespace Go.Proofs.YtdghcnopoanieaaDoor
open Go.RowKit

theorem ret_two {a b c d : Bool} (h1 : a = c) (h2 : b = d) : Ending.returned (.tuple #[.bool a, .bool b]) = .returned (.tuple #[.bool c, .bool d]) := by rw [h1, h2]

/-! ### two -/
end Go.Proofs.YtdghcnopoanieaaDoor
set_option linter.unusedSimpArgs false
set_option linter.unusedVariables false
namespace Go.Proofs.YtdghcnopoanieaaDoor
open Go.RowKit
end Go.Proofs.YtdghcnopoanieaaDoor
set_option linter.unusedSimpArgs false
set_option linter.unusedVariables false
namespace Go.Proofs.YtdghcnopoanieaaDoor
open Go.RowKit

def cntB (b : Bool) : Int := bif b then 1 else 0
def cnt4 (a b c d : Bool) : Int := cntB a + cntB b + cntB c + cntB d
def oneG (g : Gu) : Bool := ((g.s.n : Int) * 2 + cnt4 g.null g.tr g.fa (!g.span.none)) == 1 && g.span.lo == g.span.hi
def cntN (f : Nat → Bool) : Nat → Int
  | 0 => 0
  | k + 1 => cntN f k + cntB (f k)
def pick4 (a b c d : Bool) (k : Nat) : Bool := if k = 0 then a else if k = 1 then b else if k = 2 then c else d
theorem cntN_le (f : Nat → Bool) : ∀ k : Nat, 0 ≤ cntN f k ∧ cntN f k ≤ k
  | 0 => ⟨Int.le_refl _, Int.le_refl _⟩
  | k + 1 => by
    have := cntN_le f k
    rw [cntN]
    cases f k <;> simp only [cntB, cond_true, cond_false] <;> omega
theorem cntN_4 (a b c d : Bool) : cntN (pick4 a b c d) 4 = cnt4 a b c d := by
  simp [cntN, pick4, cnt4]

def whichN (f : Nat → Bool) : Nat → Int
  | 0 => -1
  | k + 1 => bif f k then (k : Int) else whichN f k
def singleG (g : Gu) : Int := bif (cnt4 g.null (!g.span.none) g.tr g.fa != 1) || decide (0 < g.s.n) || (g.span.lo != g.span.hi) then -1 else whichN (pick4 g.null (!g.span.none) g.tr g.fa) 4
end Go.Proofs.YtdghcnopoanieaaDoor
set_option linter.unusedSimpArgs false
set_option linter.unusedVariables false
namespace Go.Proofs.YtdghcnopoanieaaDoor
open Go.RowKit

/-- A slice of these ints in blocks from B on. -/
def OwnI (B : Nat) (w : World) (s : Sl) (l : List Int) : Prop := ∃ R : List LBlk, RowS 3 1 s.p s.n s.cap (l.map (Value.int .i64)) R ∧ Own B w R
theorem OwnI.ints {B : Nat} {w : World} {s : Sl} {l : List Int} (h : OwnI B w s l) : IntsAt w s l := by
  obtain ⟨R, hr, ho⟩ := h
  exact hr.ints ho
theorem OwnI.nil {B : Nat} {w : World} : OwnI B w nilSl [] := ⟨[], RowS.nil, Own.nil⟩
theorem OwnI.grow {B : Nat} {w w' : World} {s : Sl} {l : List Int} (h : OwnI B w s l) (hb : Below w.heap.size w w') : OwnI B w' s l := by
  obtain ⟨R, hr, ho⟩ := h
  exact ⟨R, hr, ho.grow hb⟩
theorem OwnI.mono {B B' : Nat} {w : World} {s : Sl} {l : List Int} (h : OwnI B w s l) (hB : B' ≤ B) : OwnI B' w s l := by
  obtain ⟨R, hr, ho⟩ := h
  exact ⟨R, hr, ho.mono hB⟩
/-- A slice of ints: the one that was handed in, or one in own memory. -/
def KeptI (B : Nat) (w : World) (s0 : Sl) (l0 : List Int) (s : Sl) (l : List Int) : Prop := ∃ R : List LBlk, (s = s0 ∧ l = l0 ∧ R = [] ∨ RowS 3 1 s.p s.n s.cap (l.map (Value.int .i64)) R) ∧ Own B w R
theorem KeptI.self {B : Nat} {w : World} {s : Sl} {l : List Int} : KeptI B w s l s l := ⟨[], .inl ⟨rfl, rfl, rfl⟩, Own.nil⟩
theorem OwnI.kept {B : Nat} {w : World} {s0 : Sl} {l0 : List Int} {s : Sl} {l : List Int} (h : OwnI B w s l) : KeptI B w s0 l0 s l := by
  obtain ⟨R, hr, ho⟩ := h
  exact ⟨R, .inr hr, ho⟩
end Go.Proofs.YtdghcnopoanieaaDoor
set_option linter.unusedSimpArgs false
set_option linter.unusedVariables false
namespace Go.Proofs.YtdghcnopoanieaaDoor
open Go.RowKit

section
variable {P : Program} {ops : Array Oper} {Q : Exit → Act → World → Prop} {a : Act} {w0 w : World} {rest : List Oper} {L : List LBlk} {D : List Datum}
  {d : Option Tmp} {ty : TypeId} {pos : String} {after : Array Edge} {g : Option (Nat × Bool)}
theorem ldB {T : TypeId} {x : Operand} {b off : Nat} {v : Value} (hr : ReadsAt P T w0 b off v) (hL : Loc w0 w L D) (h : wpList P ops Q rest (a.put d v) w)
    (hx : a.eval x = .pointer (some ⟨b, off, none⟩) := by with_unfolding_all rfl)
    (hw : Region.wanted ⟨d, .load T x, ty, pos, after, g⟩ (yielded ops a.tmps) = true := by with_unfolding_all (first | (with_reducible exact want0) | (refine want1 rfl ?_; (simp only [Act.put, List.setIfInBounds_toArray, List.set_cons_zero, List.set_cons_succ, List.getElem?_toArray, List.getElem?_cons_succ, List.getElem?_cons_zero]); done) | (refine want1 rfl ?_; (simp only [Act.put, List.setIfInBounds_toArray, List.set_cons_zero, List.set_cons_succ, List.getElem?_toArray, List.getElem?_cons_succ, List.getElem?_cons_zero, Option.some.injEq, Value.bool.injEq]); assumption))) : wpList P ops Q (⟨d, .load T x, ty, pos, after, g⟩ :: rest) a w := loc_loadB hr hL hw hx h
theorem ldO {T : TypeId} {x : Operand} {b off : Nat} {Tb : TypeId} {cs : List Value} {f : List Value → List LBlk} {v : Value} (hv : Reads P T cs off v) (hL : Loc w0 w L D) (h : wpList P ops Q rest (a.put d v) w)
    (hx : a.eval x = .pointer (some ⟨b, off, none⟩) := by with_unfolding_all rfl)
    (hm : InL b Tb cs L f := by with_unfolding_all ((repeat (first | exact InL.head | apply InL.tail)) <;> fail))
    (hw : Region.wanted ⟨d, .load T x, ty, pos, after, g⟩ (yielded ops a.tmps) = true := by with_unfolding_all (first | (with_reducible exact want0) | (refine want1 rfl ?_; (simp only [Act.put, List.setIfInBounds_toArray, List.set_cons_zero, List.set_cons_succ, List.getElem?_toArray, List.getElem?_cons_succ, List.getElem?_cons_zero]); done) | (refine want1 rfl ?_; (simp only [Act.put, List.setIfInBounds_toArray, List.set_cons_zero, List.set_cons_succ, List.getElem?_toArray, List.getElem?_cons_succ, List.getElem?_cons_zero, Option.some.injEq, Value.bool.injEq]); assumption))) : wpList P ops Q (⟨d, .load T x, ty, pos, after, g⟩ :: rest) a w := loc_load hL hw hx hm hv h
end
end Go.Proofs.YtdghcnopoanieaaDoor
