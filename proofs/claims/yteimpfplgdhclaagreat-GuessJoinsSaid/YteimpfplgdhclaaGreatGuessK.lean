/- The walk over guess.Made: what comes of two guesses. Conditions: right spans; the sites lie in memory that was there. -/
import Derived.Test.YteimpfplgdhclaaGreatGuessH
import Derived.Test.YteimpfplgdhclaaGreatGuessI
import Derived.Test.YteimpfplgdhclaaGreatGuessC2
set_option linter.unusedSimpArgs false
set_option linter.unusedVariables false
namespace Go.Proofs.YteimpfplgdhclaaGreat
open Go.RowKit

def twoG (k : Int) (g h : Gu) : Gu := if g.span.none || h.span.none then nothingG else if k = 8 then ⟨false, noSpan, decide (g.span.lo < h.span.hi), decide (h.span.lo ≤ g.span.hi), nilSl⟩ else ⟨false, made k g.span h.span, false, false, nilSl⟩
theorem twoG_s (k : Int) (g h : Gu) : (twoG k g h).s = nilSl := by
  unfold twoG
  split
  · rfl
  · split <;> rfl
theorem two_any (k : Int) (hk : k = 5 ∨ k = 6 ∨ k = 7 ∨ k = 8) (g h : Gu) (h1 : Ends g.span) (h2 : Ends h.span) (w : World) : Calls Tryz.prog 49 #[.int .i64 k, g.v, h.v] w fun e w' => e = .returned (twoG k g h).v ∧ Below w.heap.size w w' := by
  cases hn : (g.span.none || h.span.none) with
  | true =>
    rw [show twoG k g h = nothingG from if_pos hn]
    exact two_nil k g h hn w
  | false =>
    by_cases h8 : k = 8
    · subst h8
      rw [show twoG 8 g h = _ from (if_neg (by rw [hn]; decide)).trans (if_pos rfl)]
      exact two_less g h hn w
    · rw [show twoG k g h = _ from (if_neg (by rw [hn]; decide)).trans (if_neg h8)]
      exact two_made k (by omega) g h h1 h2 hn w

structure Res where
  null : Bool
  span : Span
  tr : Bool
  fa : Bool
  l : List Int
abbrev Res.gu (r : Res) (s : Sl) : Gu := ⟨r.null, r.span, r.tr, r.fa, s⟩
abbrev nilR : Res := ⟨false, noSpan, false, false, []⟩
def Gu.res (g : Gu) (l : List Int) : Res := ⟨g.null, g.span, g.tr, g.fa, l⟩
def madeG (k : Int) (g h : Gu) (l m : List Int) : Res × Bool :=
  if emptyG g || (!(k == 10 || k == 4) && emptyG h) then (nilR, false)
  else if k = 4 then (⟨g.null, both g.span noSpan, g.tr, g.fa, mixS l []⟩, false)
  else if k = 10 then (⟨false, noSpan, noG g, yesG g, []⟩, false)
  else if k = 9 then (⟨false, noSpan, maySame g h l m, notSame g h l m, []⟩, false)
  else ((twoG k g h).res [], otherG g || otherG h)
theorem enterB : ∀ args w, (callFunc 35 args).run Tryz.prog w = .ok (.enter 35 args) w := fun args w => by kernel_rfl

set_option maxRecDepth 100000 in
set_option maxHeartbeats 4000000 in
theorem made_nil (k : Int) (g h : Gu) (hz : (emptyG g || (!(k == 10 || k == 4) && emptyG h)) = true) (w : World) :
    Calls Tryz.prog 22 #[.int .i64 k, g.v, h.v] w fun e w' => e = .returned (.tuple #[nothingG.v, .bool false]) ∧ Below w.heap.size w w' := by
  have HE1 := Lib.hid (fun w' => empty_any g w')
  have HE2 := Lib.hid (fun w' => empty_any h w')
  generalize emptyG g = eg at HE1 hz
  generalize emptyG h = eh at HE2 hz
  obtain ⟨gl, ⟨gn, glo, ghi⟩, gt, gf, ⟨gp, gk, gc⟩⟩ := g
  obtain ⟨hl', ⟨hn, hlo, hhi⟩, ht, hf, ⟨hp, hk, hc⟩⟩ := h
  have hL := Loc.start w
  go_enter Tryz.func22, Tryz.ntmps22
  go_upto_region 1 with (first | (with_reducible refine lld hL ?_) | ((with_reducible first | refine lbx hL ?_ | refine lal hL ?_ | refine lbs hL ?_); clear hL; intro bl w1 hL) | ((with_reducible refine lst' hL ?_); clear hL; intro w1 hL))
  refine seq_begin [11, 12, 13, 14, 15, 16, 8] ?_
  apply draw_val
  · intro g w hb hdep; replace hL := hL.grow hb; clear hdep; simp only [fillD, fLa, fLb, sTa, sTb]
    go_wp2
    exact cY
  simp only [apN, apC]
  apply draw_val
  · intro g w hb hdep; replace hL := hL.grow hb; have d0 := yv hdep 0; clear hdep; simp only [fillD, fLa, fLb, sTa, sTb]; simp only [d0]
    go_wp2
    exact cY
  simp only [apN, apC]
  apply draw_val
  · intro g w hb hdep; replace hL := hL.grow hb; have d1 := yv hdep 1; clear hdep; simp only [fillD, fLa, fLb, sTa, sTb]; simp only [d1]
    go_wp2
    exact cY
  simp only [apN, apC]
  refine' draw_guard (j := 2) rfl rfl rfl (by decide) (by simp) ?_ ?_; rotate_left
  · intro hcs; simp only [Bool.and_eq_true, beqT, beqF] at hcs; intro g w hb hdep; replace hL := hL.grow hb; clear hdep; simp only [fillD, fLa, fLb, sTa, sTb]
    go_wp2
    exact cY
  simp only [apN, apC]
  refine' draw_guard (j := 2) rfl rfl rfl (by decide) (by simp) ?_ ?_; rotate_left
  · intro hcs; simp only [Bool.and_eq_true, beqT, beqF] at hcs; intro g w hb hdep; replace hL := hL.grow hb; have d3 := yv hdep 3; simp only [hcs, beq_self_eq_true, Bool.and_self, Bool.true_and, Bool.and_true, cnd_true] at d3; clear hdep; simp only [fillD, fLa, fLb, sTa, sTb]; simp only [d3]
    go_wp2
    exact cY
  simp only [apN, apC]
  apply draw_val
  · intro g w hb hdep; replace hL := hL.grow hb; have d2 := yv hdep 2; have d4 := yv hdep 4; clear hdep; simp only [fillD, fLa, fLb, sTa, sTb]; simp only [d2, d4]
    first | refine wp_pick_or rfl rfl ?_ | go_wp2
    exact cY
  simp only [apN, apC]
  apply draw_val
  · intro g w hb hdep; replace hL := hL.grow hb; have d5 := yv hdep 5; clear hdep; simp only [fillD, fLa, fLb, sTa, sTb]; simp only [d5]
    go_wp2
    exact cY
  simp only [apN, apC]
  refine seq_end hL (by kernel_rfl) ?_
  intro g w2 hb hR; simp only [List.length_cons, List.length_nil, Nat.reduceAdd] at hR
  have e0 := yv hR 0
  have e1 := yv hR 1
  have e2 := yv hR 2
  have e3 := yv hR 3
  have e4 := yv hR 4
  have e5 := yv hR 5
  have e6 := yv hR 6
  clear hR; simp only [fillD, fLa, fLb, sTa, sTb]
  simp only [e0, e1, e2, e3, e4, e5, e6]
  clear e0 e1 e2 e3 e4 e5 e6
  replace hL := hL.grow hb
  clear hb
  generalize (k == 10 || k == 4) = al at hz ⊢
  cases eg with
  | true =>
    clear hz
    go_wp2_with (first | (with_reducible refine lld hL ?_) | ((with_reducible first | refine lbx hL ?_ | refine lal hL ?_ | refine lbs hL ?_); clear hL; intro bl w1 hL) | ((with_reducible refine lst' hL ?_); clear hL; intro w1 hL) | (go_at_call 45; (with_reducible refine (HE1.out _).mono ?_); rintro e w1 ⟨rfl, hb⟩; replace hL := hL.grow hb; clear hb; dsimp only) | (go_at_call 46; refine (nothing_any _).mono ?_; rintro e w1 ⟨rfl, hb⟩; replace hL := hL.grow hb; clear hb; dsimp only))
    (try simp only [Exit.inBlock, Exit.then]); refine' ret2 rfl ?_ ?_ rfl ?_; (case refine'_3 => exact cRes); (case refine'_4 => exact cRes)
    exact ⟨rfl, hL.below⟩
  | false =>
    obtain ⟨rfl, rfl⟩ : al = false ∧ eh = true := by
      cases al <;> cases eh <;> simp_all
    clear hz
    go_wp2_with (first | (with_reducible refine lld hL ?_) | ((with_reducible first | refine lbx hL ?_ | refine lal hL ?_ | refine lbs hL ?_); clear hL; intro bl w1 hL) | ((with_reducible refine lst' hL ?_); clear hL; intro w1 hL) | (go_at_call 45; (with_reducible refine (HE1.out _).mono ?_); rintro e w1 ⟨rfl, hb⟩; replace hL := hL.grow hb; clear hb; dsimp only) | (go_at_call 45; (with_reducible refine (HE2.out _).mono ?_); rintro e w1 ⟨rfl, hb⟩; replace hL := hL.grow hb; clear hb; dsimp only) | (go_at_call 46; refine (nothing_any _).mono ?_; rintro e w1 ⟨rfl, hb⟩; replace hL := hL.grow hb; clear hb; dsimp only))
    (try simp only [Exit.inBlock, Exit.then]); refine' ret2 rfl ?_ ?_ rfl ?_; (case refine'_3 => exact cRes); (case refine'_4 => exact cRes)
    exact ⟨rfl, hL.below⟩
set_option maxRecDepth 100000 in
set_option maxHeartbeats 4000000 in
theorem made_copy (g h : Gu) (l : List Int) (w : World) (hl : IntsAt w g.s l) (hlen : l.length ≤ 1000000) (hz : emptyG g = false) :
    Calls Tryz.prog 22 #[.int .i64 4, g.v, h.v] w fun e w' => ∃ r : Sl, e = .returned (.tuple #[Gu.v ⟨g.null, both g.span noSpan, g.tr, g.fa, r⟩, .bool false]) ∧ OwnI w.heap.size w' r (mixS l []) ∧ Below w.heap.size w w' := by
  have HE1 := Lib.hid (fun w' => empty_any g w')
  rw [hz] at HE1
  have HB := Lib.hid (fun w' (hb : Below w.heap.size w w') => gboth_any 35 both enterB both_any g nothingG l [] w' (hl.grow hb) (IntsAt.nil w') (by simp; omega))
  clear hl hlen hz
  obtain ⟨gl, ⟨gn, glo, ghi⟩, gt, gf, ⟨gp, gk, gc⟩⟩ := g
  obtain ⟨hl', ⟨hn, hlo, hhi⟩, ht, hf, ⟨hp, hk, hc⟩⟩ := h
  simp only [nothingG, Bool.or_false] at HB
  generalize mixS l [] = ml at HB ⊢
  generalize hbs : both ⟨gn, glo, ghi⟩ noSpan = bs at HB ⊢
  clear hbs
  obtain ⟨bn, blo, bhi⟩ := bs
  have hL := Loc.start w
  go_enter Tryz.func22, Tryz.ntmps22
  go_step
  go_step
  go_step
  ((with_reducible refine lbx hL ?_); clear hL; intro b4 w1 hL)
  ((with_reducible refine lbx hL ?_); clear hL; intro b5 w1 hL)
  ((with_reducible refine lal hL ?_); clear hL; intro b6 w1 hL)
  go_upto_region 6 with (first | (with_reducible refine lld hL ?_) | ((with_reducible first | refine lbx hL ?_ | refine lal hL ?_ | refine lbs hL ?_); clear hL; intro bl w1 hL) | ((with_reducible refine lst' hL ?_); clear hL; intro w1 hL) | (go_at_call 45; (with_reducible refine (HE1.out _).mono ?_); rintro e w1 ⟨rfl, hb⟩; replace hL := hL.grow hb; clear hb; dsimp only))
  refine draw_begin [31, 32, 33] ?_
  apply draw_val
  · intro g w hb hdep; replace hL := hL.grow hb; clear hdep; simp only [fillD, fLa, fLb, sTa, sTb]
    go_wp2_with (first | (with_reducible refine lld hL ?_) | (with_reducible refine ldD hL ?_))
    exact cY
  simp only [apN, apC]
  apply draw_val
  · intro g w hb hdep; replace hL := hL.grow hb; clear hdep; simp only [fillD, fLa, fLb, sTa, sTb]
    go_wp2_with (go_at_call 46; refine (nothing_any _).mono ?_; rintro e w3 ⟨rfl, hb3⟩; dsimp only)
    exact ⟨rfl, _, rfl, (by assumption), rfl⟩
  simp only [apN, apC]
  refine draw_next (GuR w1.heap.size gl ⟨bn, blo, bhi⟩ gt gf ml) GuR.stable ?_ ?_
  · intro g w hb hdep; replace hL := hL.grow hb; have d0 := yv hdep 0; have d1 := yv hdep 1; clear hdep; simp only [fillD, fLa, fLb, sTa, sTb]; simp only [d0, d1]
    go_wp2_with (go_at_call 34; refine (HB.out _ hL.below).mono ?_; rintro e w3 ⟨r, rfl, ⟨R, hr, ho⟩, hb3⟩; dsimp only)
    exact ⟨rfl, _, rfl, hb3, r, R, rfl, hr, ho.mono hb.size⟩
  simp only [apN, apC]
  refine draw_end hL (by kernel_rfl) (by kernel_rfl) ?_
  intro g w2 hb hR; simp only [List.length_cons, List.length_nil, Nat.reduceAdd] at hR
  have e0 := yv hR 0
  have e1 := yv hR 1
  have e2 : (GuR w1.heap.size gl ⟨bn, blo, bhi⟩ gt gf ml) (g 33) w2 := yr hR 2
  obtain ⟨⟨x2, y2, z2⟩, R2, e2, i2, o2⟩ := e2
  clear hR; simp only [fillD, fLa, fLb, sTa, sTb]
  simp only [e0, e1, e2]
  clear e0 e1 e2
  replace hL := hL.gainTail hb o2
  simp only [List.cons_append, List.nil_append] at hL
  clear hb
  clear o2
  go_wp2_with (first | (with_reducible refine lld hL ?_) | ((with_reducible first | refine lbx hL ?_ | refine lal hL ?_ | refine lbs hL ?_); clear hL; intro bl w1 hL) | ((with_reducible refine lst' hL ?_); clear hL; intro w1 hL))
  (try simp only [Exit.inBlock, Exit.then]); refine' ret2 rfl ?_ ?_ rfl ?_; (case refine'_3 => exact cRes); (case refine'_4 => exact cRes)
  exact ⟨⟨x2, y2, z2⟩, rfl, ⟨R2, i2, hL.ownOf (List.sublist_append_right [_, _, _] _)⟩, hL.below⟩
set_option maxRecDepth 100000 in
set_option maxHeartbeats 4000000 in
theorem made_not (g h : Gu) (w : World) (hz : emptyG g = false) :
    Calls Tryz.prog 22 #[.int .i64 10, g.v, h.v] w fun e w' => e = .returned (.tuple #[Gu.v ⟨false, noSpan, noG g, yesG g, nilSl⟩, .bool false]) ∧ Below w.heap.size w w' := by
  have HE1 := Lib.hid (fun w' => empty_any g w')
  rw [hz] at HE1
  have HC := Lib.hid (fun w' => gcounts_any g w')
  clear hz
  generalize yesG g = y at HC ⊢
  generalize noG g = n at HC ⊢
  obtain ⟨gl, ⟨gn, glo, ghi⟩, gt, gf, ⟨gp, gk, gc⟩⟩ := g
  obtain ⟨hl', ⟨hn, hlo, hhi⟩, ht, hf, ⟨hp, hk, hc⟩⟩ := h
  have hL := Loc.start w
  go_enter Tryz.func22, Tryz.ntmps22
  go_wp2_with (first | (with_reducible refine lld hL ?_) | ((with_reducible first | refine lbx hL ?_ | refine lal hL ?_ | refine lbs hL ?_); clear hL; intro bl w1 hL) | ((with_reducible refine lst' hL ?_); clear hL; intro w1 hL) | (go_at_call 45; (with_reducible refine (HE1.out _).mono ?_); rintro e w1 ⟨rfl, hb⟩; replace hL := hL.grow hb; clear hb; dsimp only) | (go_at_call 39; refine (HC.out _).mono ?_; rintro e w1 ⟨rfl, hb⟩; replace hL := hL.grow hb; clear hb; dsimp only) | (go_at_call 47; refine (truths_any _ _ _).mono ?_; rintro e w1 ⟨rfl, hb⟩; replace hL := hL.grow hb; clear hb; dsimp only))
  (try simp only [Exit.inBlock, Exit.then]); refine' ret2 rfl ?_ ?_ rfl ?_; (case refine'_3 => exact cRes); (case refine'_4 => exact cRes)
  exact ⟨rfl, hL.below⟩
set_option maxRecDepth 100000 in
set_option maxHeartbeats 4000000 in
theorem made_same (g h : Gu) (l m : List Int) (w : World) (hl : IntsAt w g.s l) (hm : IntsAt w h.s m) (n1 : l.length ≤ 1000000) (n2 : m.length ≤ 1000000) (hz : emptyG g = false) (hz2 : emptyG h = false) :
    Calls Tryz.prog 22 #[.int .i64 9, g.v, h.v] w fun e w' => e = .returned (.tuple #[Gu.v ⟨false, noSpan, maySame g h l m, notSame g h l m, nilSl⟩, .bool false]) ∧ Below w.heap.size w w' := by
  have HE1 := Lib.hid (fun w' => empty_any g w')
  have HE2 := Lib.hid (fun w' => empty_any h w')
  rw [hz] at HE1
  rw [hz2] at HE2
  have HC := Lib.hid (fun w' (hb : Below w.heap.size w w') => gsame_any g h l m w' (hl.grow hb) (hm.grow hb) n1 n2)
  clear hz hz2 hl hm n1 n2
  generalize maySame g h l m = y at HC ⊢
  generalize notSame g h l m = n at HC ⊢
  obtain ⟨gl, ⟨gn, glo, ghi⟩, gt, gf, ⟨gp, gk, gc⟩⟩ := g
  obtain ⟨hl', ⟨hn, hlo, hhi⟩, ht, hf, ⟨hp, hk, hc⟩⟩ := h
  have hL := Loc.start w
  go_enter Tryz.func22, Tryz.ntmps22
  go_wp2_with (first | (with_reducible refine lld hL ?_) | ((with_reducible first | refine lbx hL ?_ | refine lal hL ?_ | refine lbs hL ?_); clear hL; intro bl w1 hL) | ((with_reducible refine lst' hL ?_); clear hL; intro w1 hL) | (go_at_call 45; (with_reducible refine (HE1.out _).mono ?_); rintro e w1 ⟨rfl, hb⟩; replace hL := hL.grow hb; clear hb; dsimp only) | (go_at_call 45; (with_reducible refine (HE2.out _).mono ?_); rintro e w1 ⟨rfl, hb⟩; replace hL := hL.grow hb; clear hb; dsimp only) | (go_at_call 48; refine (HC.out _ hL.below).mono ?_; rintro e w1 ⟨rfl, hb⟩; replace hL := hL.grow hb; clear hb; dsimp only) | (go_at_call 47; refine (truths_any _ _ _).mono ?_; rintro e w1 ⟨rfl, hb⟩; replace hL := hL.grow hb; clear hb; dsimp only))
  (try simp only [Exit.inBlock, Exit.then]); refine' ret2 rfl ?_ ?_ rfl ?_; (case refine'_3 => exact cRes); (case refine'_4 => exact cRes)
  exact ⟨rfl, hL.below⟩
set_option maxRecDepth 100000 in
set_option maxHeartbeats 4000000 in
theorem made_two (k : Int) (hk : k = 5 ∨ k = 6 ∨ k = 7 ∨ k = 8) (g h : Gu) (h1 : Ends g.span) (h2 : Ends h.span) (w : World) (hz : emptyG g = false) (hz2 : emptyG h = false) :
    Calls Tryz.prog 22 #[.int .i64 k, g.v, h.v] w fun e w' => e = .returned (.tuple #[(twoG k g h).v, .bool (otherG g || otherG h)]) ∧ Below w.heap.size w w' := by
  have HE1 := Lib.hid (fun w' => empty_any g w')
  have HE2 := Lib.hid (fun w' => empty_any h w')
  rw [hz] at HE1
  rw [hz2] at HE2
  have HC := Lib.hid (fun w' => two_any k hk g h h1 h2 w')
  have HO1 := Lib.hid (fun w' => other_any g w')
  have HO2 := Lib.hid (fun w' => other_any h w')
  have k4 : (k == 4) = false := beq_eq_false_iff_ne.2 (by omega)
  have k9 : (k == 9) = false := beq_eq_false_iff_ne.2 (by omega)
  have k10 : (k == 10) = false := beq_eq_false_iff_ne.2 (by omega)
  clear hz hz2 h1 h2 hk
  generalize twoG k g h = t at HC ⊢
  generalize otherG g = og at HO1 ⊢
  generalize otherG h = oh at HO2 ⊢
  obtain ⟨tl, ⟨tn, tlo, thi⟩, tt, tf, ⟨tp, tk, tc⟩⟩ := t
  obtain ⟨gl, ⟨gn, glo, ghi⟩, gt, gf, ⟨gp, gk, gc⟩⟩ := g
  obtain ⟨hl', ⟨hn, hlo, hhi⟩, ht, hf, ⟨hp, hk, hc⟩⟩ := h
  have hL := Loc.start w
  go_enter Tryz.func22, Tryz.ntmps22
  go_upto_region 12 with (first | (with_reducible refine lld hL ?_) | ((with_reducible first | refine lbx hL ?_ | refine lal hL ?_ | refine lbs hL ?_); clear hL; intro bl w1 hL) | ((with_reducible refine lst' hL ?_); clear hL; intro w1 hL) | (go_at_call 45; (with_reducible refine (HE1.out _).mono ?_); rintro e w1 ⟨rfl, hb⟩; replace hL := hL.grow hb; clear hb; dsimp only) | (go_at_call 45; (with_reducible refine (HE2.out _).mono ?_); rintro e w1 ⟨rfl, hb⟩; replace hL := hL.grow hb; clear hb; dsimp only))
  refine draw_begin [52, 53, 54, 55, 56, 57, 58, 59, 60, 61] ?_
  apply draw_val
  · intro g w hb hdep; replace hL := hL.grow hb; clear hdep; simp only [fillD, fLa, fLb, sTa, sTb]
    go_wp2
    exact cY
  simp only [apN, apC]
  apply draw_val
  · intro g w hb hdep; replace hL := hL.grow hb; clear hdep; simp only [fillD, fLa, fLb, sTa, sTb]
    go_wp2_with (first | (with_reducible refine lld hL ?_) | (with_reducible refine ldD hL ?_))
    exact cY
  simp only [apN, apC]
  apply draw_val
  · intro g w hb hdep; replace hL := hL.grow hb; clear hdep; simp only [fillD, fLa, fLb, sTa, sTb]
    go_wp2_with (first | (with_reducible refine lld hL ?_) | (with_reducible refine ldD hL ?_))
    exact cY
  simp only [apN, apC]
  apply draw_val
  · intro g w hb hdep; replace hL := hL.grow hb; have d0 := yv hdep 0; have d1 := yv hdep 1; have d2 := yv hdep 2; clear hdep; simp only [fillD, fLa, fLb, sTa, sTb]; simp only [d0, d1, d2]
    go_wp2_with (go_at_call 49; refine (HC.out _).mono ?_; rintro e w3 ⟨rfl, hb3⟩; dsimp only)
    exact ⟨rfl, _, rfl, (by assumption), rfl⟩
  simp only [apN, apC]
  apply draw_val
  · intro g w hb hdep; replace hL := hL.grow hb; clear hdep; simp only [fillD, fLa, fLb, sTa, sTb]
    go_wp2_with (first | (with_reducible refine lld hL ?_) | (with_reducible refine ldD hL ?_))
    exact cY
  simp only [apN, apC]
  apply draw_val
  · intro g w hb hdep; replace hL := hL.grow hb; have d4 := yv hdep 4; clear hdep; simp only [fillD, fLa, fLb, sTa, sTb]; simp only [d4]
    go_wp2_with (go_at_call 50; (with_reducible refine (HO1.out _).mono ?_); rintro e w3 ⟨rfl, hb3⟩; dsimp only)
    exact ⟨rfl, _, rfl, (by assumption), rfl⟩
  simp only [apN, apC]
  apply draw_val
  · intro g w hb hdep; replace hL := hL.grow hb; have d5 := yv hdep 5; clear hdep; simp only [fillD, fLa, fLb, sTa, sTb]; simp only [d5]
    go_wp2
    exact cY
  simp only [apN, apC]
  refine' draw_guard (j := 6) rfl rfl rfl (by decide) (by simp) ?_ ?_; rotate_left
  · intro hcs; simp only [Bool.and_eq_true, beqT, beqF] at hcs; intro g w hb hdep; replace hL := hL.grow hb; clear hdep; simp only [fillD, fLa, fLb, sTa, sTb]
    go_wp2_with (first | (with_reducible refine lld hL ?_) | (with_reducible refine ldD hL ?_))
    exact cY
  simp only [apN, apC]
  refine' draw_guard (j := 6) rfl rfl rfl (by decide) (by simp) ?_ ?_; rotate_left
  · intro hcs; simp only [Bool.and_eq_true, beqT, beqF] at hcs; intro g w hb hdep; replace hL := hL.grow hb; have d7 := yv hdep 7; simp only [hcs, beq_self_eq_true, Bool.and_self, Bool.true_and, Bool.and_true, cnd_true] at d7; clear hdep; simp only [fillD, fLa, fLb, sTa, sTb]; simp only [d7]
    go_wp2_with (go_at_call 50; (with_reducible refine (HO2.out _).mono ?_); rintro e w3 ⟨rfl, hb3⟩; dsimp only)
    exact ⟨rfl, _, rfl, (by assumption), rfl⟩
  simp only [apN, apC]
  apply draw_val
  · intro g w hb hdep; replace hL := hL.grow hb; have d6 := yv hdep 6; have d8 := yv hdep 8; clear hdep; simp only [fillD, fLa, fLb, sTa, sTb]; simp only [d6, d8]
    first | refine wp_pick_or rfl rfl ?_ | go_wp2
    exact cY
  simp only [apN, apC]
  refine draw_end1 9 hL (by kernel_rfl) (by kernel_rfl) (fun _ _ _ _ _ h => h) ?_ ?_
  · (refine late_ok rfl rfl ?_; intro g w hb hdep; (try simp [depsOf, List.filter_cons, Region.binds, AllR, RAt] at hdep); simp only [fillD, List.foldl_cons, List.foldl_nil, List.set_cons_succ, List.set_cons_zero]; (try simp only [hdep]); exact ⟨_, .inl ⟨rfl, fun w => (by go_simp <;> (try (split <;> (rename_i hs; simp [hs, cnd]))))⟩, rfl⟩)
  intro g w2 hb hR; simp only [List.length_cons, List.length_nil, Nat.reduceAdd] at hR
  have e0 := yv hR 0
  have e1 := yv hR 1
  have e2 := yv hR 2
  have e3 := yv hR 3
  have e4 := yv hR 4
  have e5 := yv hR 5
  have e6 := yv hR 6
  have e7 := yv hR 7
  have e8 := yv hR 8
  have e9 := yv hR 9
  clear hR; simp only [fillD, fLa, fLb, sTa, sTb]
  simp only [e0, e1, e2, e3, e4, e5, e6, e7, e8, e9]
  clear e0 e1 e2 e3 e4 e5 e6 e7 e8 e9
  replace hL := hL.grow hb
  clear hb
  go_wp2_with (first | (with_reducible refine lld hL ?_) | ((with_reducible first | refine lbx hL ?_ | refine lal hL ?_ | refine lbs hL ?_); clear hL; intro bl w1 hL) | ((with_reducible refine lst' hL ?_); clear hL; intro w1 hL))
  (try simp only [Exit.inBlock, Exit.then]); refine' ret2 rfl ?_ ?_ rfl ?_; (case refine'_3 => exact cRes); (case refine'_4 => exact cRes)
  exact ⟨rfl, hL.below⟩
end Go.Proofs.YteimpfplgdhclaaGreat
