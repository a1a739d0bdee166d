/- The walks over SameGuess and guessIs; Made and DoGuess as one law each. Conditions: right guesses; what they read lies in memory that was there. -/
import Derived.Test.YteimpfplgdhclaaGreatGuessM
import Derived.Test.YteimpfplgdhclaaGreatGuessP
import Derived.Test.YteimpfplgdhclaaGreatGuessF
set_option linter.unusedSimpArgs false
set_option linter.unusedVariables false
namespace Go.Proofs.YteimpfplgdhclaaGreat
open Go.RowKit

theorem eql_span (a : Span) (w : World) : (binOp .eql 26 (.agg #[.bool a.none, .int .i64 a.lo, .int .i64 a.hi]) (.agg #[.bool a.none, .int .i64 a.lo, .int .i64 a.hi])).run Tryz.prog w = .ok (.bool true) w := by
  go_simp
set_option maxRecDepth 100000 in
theorem eql_guardS (x y : Operand) (a b : Span) (w : World) : (eqGuard .eql 26 x y (.agg #[.bool a.none, .int .i64 a.lo, .int .i64 a.hi]) (.agg #[.bool b.none, .int .i64 b.lo, .int .i64 b.hi])).run Tryz.prog w = .ok () w := by
  go_simp
theorem wp_eql_span {ops : Array Oper} {Q : Exit → Act → World → Prop} {act : Act} {w : World} {rest : List Oper} {d : Option Tmp} {ty u : TypeId} {pos : String} {after : Array Edge} {x y : Operand} {a : Span} (ha : act.eval x = a.v) (hb : act.eval y = a.v)
    (h : wpList Tryz.prog ops Q rest (act.put d (.bool true)) w) : wpList Tryz.prog ops Q (⟨d, .binOp .eql 26 x y u, ty, pos, after, none⟩ :: rest) act w := by
  refine wp_bin (w' := w) ?_ ?_ h
  · rw [ha, hb]; exact eql_guardS x y a a w
  · rw [ha, hb]; exact eql_span a w

abbrev zeroG : Gu := ⟨false, zeroSpan, false, false, nilSl⟩
set_option maxRecDepth 100000 in
set_option maxHeartbeats 4000000 in
theorem rSameGuess_any (r : Res) (s t : Sl) (w : World) (hs : IntsAt w s r.l) (ht : IntsAt w t r.l) :
    Calls Tryz.prog 33 #[(r.gu s).v, (r.gu t).v] w fun e w' => e = .returned (.bool true) ∧ Below w.heap.size w w' := by
  have HI := Lib.hid (fun w' (hb : Below w.heap.size w w') => sameI_self r.l ▸ sameInts_any s t r.l r.l w' (hs.grow hb) (ht.grow hb))
  clear hs ht
  obtain ⟨nl, ⟨sn, lo, hi⟩, tr, fa, l⟩ := r
  dsimp only [Res.gu] at HI ⊢
  obtain ⟨sp, sc, scap⟩ := s
  obtain ⟨tp, tc, tcap⟩ := t
  have hL := Loc.start w
  go_enter Tryz.func33, Tryz.ntmps33
  go_wp2_with (first | (with_reducible refine lld hL ?_) | ((with_reducible first | refine lbx hL ?_ | refine lal hL ?_ | refine lbs hL ?_); clear hL; intro bl w1 hL) | ((with_reducible refine lst' hL ?_); clear hL; intro w1 hL) | (with_reducible refine wp_eql_span (a := ⟨sn, lo, hi⟩) rfl rfl ?_) | (go_at_call 57; refine (HI.out _ hL.below).mono ?_; rintro e w1 ⟨rfl, hb⟩; replace hL := hL.grow hb; clear hb; dsimp only))
  (try simp only [Exit.inBlock, Exit.then]); refine' ret1 rfl ?_ rfl ?_; (case refine'_2 => exact cRes)
  exact ⟨rfl, hL.below⟩

set_option maxRecDepth 100000 in
set_option maxHeartbeats 4000000 in
theorem guessIs_ok (r : Res) (s t : Sl) (w : World) (hs : IntsAt w s r.l) (ht : IntsAt w t r.l) :
    Calls Tryz.prog 9 #[(r.gu s).v, .int .i64 0, .int .i64 0, (r.gu t).v] w fun e w' => e = .returned (.bool true) ∧ Below w.heap.size w w' := by
  have HI := Lib.hid (fun w' (hb : Below w.heap.size w w') => rSameGuess_any r s t w' (hs.grow hb) (ht.grow hb))
  clear hs ht
  obtain ⟨nl, ⟨sn, lo, hi⟩, tr, fa, l⟩ := r
  dsimp only [Res.gu] at HI ⊢
  obtain ⟨sp, sc, scap⟩ := s
  obtain ⟨tp, tc, tcap⟩ := t
  have hL := Loc.start w
  go_enter Tryz.func9, Tryz.ntmps9
  go_wp2_with (first | (with_reducible refine lld hL ?_) | ((with_reducible first | refine lbx hL ?_ | refine lal hL ?_ | refine lbs hL ?_); clear hL; intro bl w1 hL) | ((with_reducible refine lst' hL ?_); clear hL; intro w1 hL) | (go_at_call 33; refine (HI.out _ hL.below).mono ?_; rintro e w1 ⟨rfl, hb⟩; replace hL := hL.grow hb; clear hb; dsimp only))
  (try simp only [Exit.inBlock, Exit.then]); refine' ret1 rfl ?_ rfl ?_; (case refine'_2 => exact cRes)
  exact ⟨rfl, hL.below⟩
abbrev zeroR : Res := ⟨false, zeroSpan, false, false, []⟩
set_option maxRecDepth 100000 in
set_option maxHeartbeats 4000000 in
theorem guessIs_err (c : Int) (hc : c ≠ 0) (g : Gu) (w : World) :
    Calls Tryz.prog 9 #[zeroG.v, .int .i64 c, .int .i64 c, g.v] w fun e w' => e = .returned (.bool true) ∧ Below w.heap.size w w' := by
  have HI := Lib.hid (fun w' => rSameGuess_any zeroR nilSl nilSl w' (IntsAt.nil w') (IntsAt.nil w'))
  have k0 : (c != 0) = true := by simpa using hc
  clear hc
  obtain ⟨gl, ⟨gn, glo, ghi⟩, gt, gf, ⟨gp, gk, gc⟩⟩ := g
  dsimp only [Res.gu] at HI
  have hL := Loc.start w
  go_enter Tryz.func9, Tryz.ntmps9
  go_wp2_with (first | (with_reducible refine lld hL ?_) | ((with_reducible first | refine lbx hL ?_ | refine lal hL ?_ | refine lbs hL ?_); clear hL; intro bl w1 hL) | ((with_reducible refine lst' hL ?_); clear hL; intro w1 hL) | (go_at_call 33; refine (HI.out _).mono ?_; rintro e w1 ⟨rfl, hb⟩; replace hL := hL.grow hb; clear hb; dsimp only))
  (try simp only [Exit.inBlock, Exit.then]); refine' ret1 rfl ?_ rfl ?_; (case refine'_2 => exact cRes)
  exact ⟨rfl, hL.below⟩

/-! ### Made and DoGuess, each as one law -/
theorem madeG_nil {k : Int} {g h : Gu} {l m : List Int} (hz : (emptyG g || (!(k == 10 || k == 4) && emptyG h)) = true) : madeG k g h l m = (nilR, false) := if_pos hz
theorem full_of {k : Int} {g h : Gu} (hz : ¬ (emptyG g || (!(k == 10 || k == 4) && emptyG h)) = true) : emptyG g = false ∧ (k ≠ 10 → k ≠ 4 → emptyG h = false) := by
  cases h1 : emptyG g <;> cases h2 : emptyG h <;> simp_all
theorem kinds {k : Int} (hk : betw k 4 10 = true) : k = 4 ∨ k = 10 ∨ k = 9 ∨ k = 8 ∨ (k = 5 ∨ k = 6 ∨ k = 7) := by
  simp [betw] at hk
  omega
theorem made_all (k : Int) (g h : Gu) (l m : List Int) (w : World) (hk : betw k 4 10 = true) (hg : RightGu g l) (hh : RightGu h m) (hl : IntsAt w g.s l) (hm : IntsAt w h.s m) :
    Calls Tryz.prog 22 #[.int .i64 k, g.v, h.v] w fun e w' => ∃ r : Sl, e = .returned (.tuple #[((madeG k g h l m).1.gu r).v, .bool (madeG k g h l m).2]) ∧ OwnI w.heap.size w' r (madeG k g h l m).1.l ∧ Below w.heap.size w w' := by
  have n1 := hg.le
  have n2 := hh.le
  by_cases hz : (emptyG g || (!(k == 10 || k == 4) && emptyG h)) = true
  · rw [madeG_nil hz]
    exact (made_nil k g h hz w).mono fun e w' ⟨h1, h2⟩ => ⟨nilSl, h1, OwnI.nil, h2⟩
  · obtain ⟨z1, z2⟩ := full_of hz
    rcases kinds hk with rfl | rfl | rfl | rfl | hk3
    · rw [show madeG 4 g h l m = _ from (if_neg hz).trans (if_pos rfl)]
      exact made_copy g h l w hl (by omega) z1
    · rw [show madeG 10 g h l m = _ from (if_neg hz).trans ((if_neg (by decide)).trans (if_pos rfl))]
      exact (made_not g h w z1).mono fun e w' ⟨h1, h2⟩ => ⟨nilSl, h1, OwnI.nil, h2⟩
    · rw [show madeG 9 g h l m = _ from (if_neg hz).trans ((if_neg (by decide)).trans ((if_neg (by decide)).trans (if_pos rfl)))]
      exact (made_same g h l m w hl hm (by omega) (by omega) z1 (z2 (by decide) (by decide))).mono fun e w' ⟨h1, h2⟩ => ⟨nilSl, h1, OwnI.nil, h2⟩
    · rw [show madeG 8 g h l m = _ from (if_neg hz).trans ((if_neg (by decide)).trans ((if_neg (by decide)).trans (if_neg (by decide))))]
      exact (made_two 8 (by decide) g h (checkSpan_zero hg.span).1 (checkSpan_zero hh.span).1 w z1 (z2 (by decide) (by decide))).mono fun e w' ⟨h1, h2⟩ => ⟨nilSl, by rw [h1, Gu.res, ← twoG_s 8 g h], OwnI.nil, h2⟩
    · rw [show madeG k g h l m = _ from (if_neg hz).trans ((if_neg (by omega)).trans ((if_neg (by omega)).trans (if_neg (by omega))))]
      exact (made_two k (by omega) g h (checkSpan_zero hg.span).1 (checkSpan_zero hh.span).1 w z1 (z2 (by omega) (by omega))).mono fun e w' ⟨h1, h2⟩ => ⟨nilSl, by rw [h1, Gu.res, ← twoG_s k g h], OwnI.nil, h2⟩
theorem rdo_all (k : Int) (g h : Gu) (l m : List Int) (w : World) (hk : betw k 4 10 = true) (hg : RightGu g l) (hh : RightGu h m) (hl : IntsAt w g.s l) (hm : IntsAt w h.s m) :
    Calls Tryz.prog 7 #[.int .i64 k, g.v, h.v] w fun e w' => ∃ r : Sl, e = .returned (.tuple #[((madeG k g h l m).1.gu r).v, .bool (madeG k g h l m).2]) ∧ (r = g.s ∧ (madeG k g h l m).1.l = l ∨ r = nilSl ∧ (madeG k g h l m).1.l = []) ∧ Below w.heap.size w w' := by
  have n1 := hg.le
  have n2 := hh.le
  by_cases hz : (emptyG g || (!(k == 10 || k == 4) && emptyG h)) = true
  · rw [madeG_nil hz]
    exact (rdo_nil k g h hz w).mono fun e w' ⟨h1, h2⟩ => ⟨nilSl, h1, .inr ⟨rfl, rfl⟩, h2⟩
  · obtain ⟨z1, z2⟩ := full_of hz
    rcases kinds hk with rfl | rfl | rfl | rfl | hk3
    · rw [show madeG 4 g h l m = _ from (if_neg hz).trans (if_pos rfl), both_none hg.span, mix_nil hg.asc]
      exact (rdo_copy g h w z1).mono fun e w' ⟨h1, h2⟩ => ⟨g.s, h1, .inl ⟨rfl, rfl⟩, h2⟩
    · rw [show madeG 10 g h l m = _ from (if_neg hz).trans ((if_neg (by decide)).trans (if_pos rfl))]
      exact (rdo_not g h w z1).mono fun e w' ⟨h1, h2⟩ => ⟨nilSl, h1, .inr ⟨rfl, rfl⟩, h2⟩
    · rw [show madeG 9 g h l m = _ from (if_neg hz).trans ((if_neg (by decide)).trans ((if_neg (by decide)).trans (if_pos rfl)))]
      exact (rdo_same g h l m w hl hm z1 (z2 (by decide) (by decide))).mono fun e w' ⟨h1, h2⟩ => ⟨nilSl, by rw [h1, same_eq hg hh], .inr ⟨rfl, rfl⟩, h2⟩
    · rw [show madeG 8 g h l m = _ from (if_neg hz).trans ((if_neg (by decide)).trans ((if_neg (by decide)).trans (if_neg (by decide))))]
      exact (rdo_less g h w z1 (z2 (by decide) (by decide))).mono fun e w' ⟨h1, h2⟩ => ⟨nilSl, by rw [h1, Gu.res, ← twoG_s 8 g h], .inr ⟨rfl, rfl⟩, h2⟩
    · rw [show madeG k g h l m = _ from (if_neg hz).trans ((if_neg (by omega)).trans ((if_neg (by omega)).trans (if_neg (by omega))))]
      exact (rdo_span k hk3 g h hg.span hh.span w z1 (z2 (by omega) (by omega))).mono fun e w' ⟨h1, h2⟩ => ⟨nilSl, by rw [h1, Gu.res, ← twoG_s k g h], .inr ⟨rfl, rfl⟩, h2⟩

/-! ### Guesses in memory -/
def pick2 {α : Type} (a b : α) (k : Nat) : α := if k = 0 then a else b
theorem gus2 {w : World} {b : Nat} {g h : Gu} {l m : List Int} (hh : w.heap[b]? = some (.cells (g.cells ++ h.cells).toArray 29 (0, 0))) (hl : IntsAt w g.s l) (hm : IntsAt w h.s m) : GusAt w (some ⟨b, 0, none⟩) 2 (pick2 g h) (pick2 l m) := by
  refine ⟨⟨b, 0, fun _ => rfl, fun k hk => ?_⟩, fun k hk => ?_, by decide⟩
  · rcases (show k = 0 ∨ k = 1 by omega) with rfl | rfl
    · exact ReadsAt.agg tGuess (heap_lt hh) (fun j v hj => by
        have hj7 : j < 7 := (List.getElem?_eq_some_iff.1 hj).1
        have e : w.cell? ⟨b, 0 + 0 * 7 + j, none⟩ = (g.cells ++ h.cells)[j]? := by simp [World.cell?, hh]
        rw [e, List.getElem?_append_left hj7]
        exact hj) rfl
    · exact ReadsAt.agg tGuess (heap_lt hh) (fun j v hj => by
        have e : w.cell? ⟨b, 0 + 1 * 7 + j, none⟩ = (g.cells ++ h.cells)[7 + j]? := by simp [World.cell?, hh]
        rw [e, List.getElem?_append_right (by simp)]
        have : 7 + j - g.cells.length = j := by simp
        rw [this]
        exact hj) rfl
  · rcases (show k = 0 ∨ k = 1 by omega) with rfl | rfl
    · exact hl
    · exact hm
theorem gus1 {w : World} {b : Nat} {g : Gu} {l : List Int} (hh : w.heap[b]? = some (.cells g.cells.toArray 29 (0, 0))) (hl : IntsAt w g.s l) : GusAt w (some ⟨b, 0, none⟩) 1 (fun _ => g) (fun _ => l) := by
  refine ⟨⟨b, 0, fun _ => rfl, fun k hk => ?_⟩, fun k hk => hl, by decide⟩
  obtain rfl : k = 0 := by omega
  exact ReadsAt.agg tGuess (heap_lt hh) (fun j v hj => by
    have e : w.cell? ⟨b, 0 + 0 * 7 + j, none⟩ = g.cells[j]? := by simp [World.cell?, hh]
    rw [e]
    exact hj) rfl
def cg1 (p : Pg) (is : Nat → Ins) (g : Gu) (l : List Int) : Int := checkGs p is (fun _ => g) (fun _ => l) 1
def cg2 (p : Pg) (is : Nat → Ins) (g h : Gu) (l m : List Int) : Int := checkGs p is (pick2 g h) (pick2 l m) 2
theorem cg1_zero {p : Pg} {is : Nat → Ins} {g : Gu} {l : List Int} (h : cg1 p is g l = 0) : checkProg p is = 0 ∧ rightG p is g l = 0 := by
  have h2 : errs (checkProg p is) (fun _ => rightG p is g l) 1 = 0 := h
  have h0 : checkProg p is = 0 := by
    by_cases h3 : errs (checkProg p is) (fun _ => rightG p is g l) 0 = 0
    · exact h3
    · exact absurd ((errs_stop (k := 0) (by omega) h3).symm.trans h2) h3
  exact ⟨h0, (errs_next (f := fun _ => rightG p is g l) (k := 0) h0).symm.trans h2⟩
theorem cg2_zero {p : Pg} {is : Nat → Ins} {g h : Gu} {l m : List Int} (hz : cg2 p is g h l m = 0) : checkProg p is = 0 ∧ rightG p is g l = 0 ∧ rightG p is h m = 0 := by
  have h1 : errs (checkProg p is) (fun k => rightG p is (pick2 g h k) (pick2 l m k)) 2 = 0 := hz
  have h2 : errs (checkProg p is) (fun k => rightG p is (pick2 g h k) (pick2 l m k)) 1 = 0 := by
    by_cases h3 : errs (checkProg p is) (fun k => rightG p is (pick2 g h k) (pick2 l m k)) 1 = 0
    · exact h3
    · exact absurd ((errs_stop (k := 1) (by omega) h3).symm.trans h1) h3
  have h0 : checkProg p is = 0 := by
    by_cases h3 : errs (checkProg p is) (fun k => rightG p is (pick2 g h k) (pick2 l m k)) 0 = 0
    · exact h3
    · exact absurd ((errs_stop (k := 0) (by omega) h3).symm.trans h2) h3
  exact ⟨h0, (errs_next (k := 0) h0).symm.trans h2, (errs_next (k := 1) h2).symm.trans h1⟩
end Go.Proofs.YteimpfplgdhclaaGreat
