/- The machine of package run in memory; its methods over and set. Conditions: the indexes that a right program has. -/
import Derived.Test.YtkdbehgekeidoaaDoorRunG
set_option linter.unusedSimpArgs false
set_option linter.unusedVariables false
namespace Go.Proofs.YtkdbehgekeidoaaDoor
open Go.RowKit

theorem spliced_get {cs vs : List Value} {off : Nat} (h : off + vs.length ≤ cs.length) (i : Nat) : (spliced cs off vs)[i]? = if i < off then cs[i]? else if i < off + vs.length then vs[i - off]? else cs[i]? := by
  unfold spliced
  by_cases h1 : i < off
  · rw [if_pos h1, List.getElem?_append_left (by rw [List.length_take]; omega), List.getElem?_take, if_pos h1]
  · rw [if_neg h1, List.getElem?_append_right (by rw [List.length_take]; omega), List.length_take, Nat.min_eq_left (by omega)]
    by_cases h2 : i < off + vs.length
    · rw [if_pos h2, List.getElem?_append_left (by omega)]
    · rw [if_neg h2, List.getElem?_append_right (by omega), List.getElem?_drop]
      congr 1; omega
theorem spliced_len {cs vs : List Value} {off : Nat} (h : off + vs.length ≤ cs.length) : (spliced cs off vs).length = cs.length := by
  unfold spliced
  simp only [List.length_append, List.length_take, List.length_drop]; omega

section
variable {E es g n cap : Nat} {cs : List Value} {p : Option Addr} {α : Type} {f : α → List Value} {d : α} {l : List α} {k : Nat}
/-- A slice that has an element lies in a block. -/
theorem RowS.block {xs : List Value} {R : List LBlk} (h : RowS E es p n cap xs R) (hn : 0 < n) : ∃ g cs, p = some ⟨g, 0, none⟩ ∧ R = [(g, E, cs)] ∧ cs.take (n * es) = xs ∧ cs.length = cap * es := by
  rcases h.2 with ⟨h1, _⟩ | ⟨g, cs, h1, h2, _, _, h3, h4⟩
  · omega
  · exact ⟨g, cs, h1, h2, h4, h3⟩
theorem RowS.same {xs : List Value} (h : RowS E es p n cap xs [(g, E, cs)]) : p = some ⟨g, 0, none⟩ ∧ n ≤ cap ∧ cap ≤ maxLen ∧ cs.length = cap * es ∧ cs.take (n * es) = xs := by
  rcases h.2 with ⟨_, _, h3⟩ | ⟨g', cs', h1, h2, h3, h4, h5, h6⟩
  · cases h3
  · simp only [List.cons.injEq, Prod.mk.injEq, and_true, true_and] at h2
    obtain ⟨rfl, rfl⟩ := h2
    exact ⟨h1, h3, h4, h5, h6⟩
theorem RowS.elem (hf : ∀ x, (f x).length = es) (d : α) (h : RowS E es p n cap (l.flatMap f) [(g, E, cs)]) (hk : k < n) : (cs.drop (k * es)).take es = f (l.getD k d) := by
  obtain ⟨_, h3, _, h5, h6⟩ := h.same
  have hlen := h.1
  rw [flat_len hf] at hlen
  have hes : k * es + es ≤ n * es := by rw [show k * es + es = (k + 1) * es by rw [Nat.add_mul, Nat.one_mul]]; exact Nat.mul_le_mul_right _ hk
  have hce : n * es ≤ cap * es := Nat.mul_le_mul_right _ h3
  apply List.ext_getElem?
  intro j
  by_cases hj : j < es
  · have hes0 : 0 < es := by omega
    have hl : l.length = n := Nat.eq_of_mul_eq_mul_right hes0 hlen
    rw [List.getElem?_take, if_pos hj, List.getElem?_drop, ← flat_get hf d l k j (by omega) hj, ← h6, List.getElem?_take, if_pos (by omega)]
  · rw [List.getElem?_eq_none (by rw [List.length_take, List.length_drop]; omega), List.getElem?_eq_none (by rw [hf]; omega)]
theorem RowS.put (hf : ∀ x, (f x).length = es) (d : α) (h : RowS E es p n cap (l.flatMap f) [(g, E, cs)]) (hk : k < n) (v : α) : RowS E es p n cap ((l.set k v).flatMap f) [(g, E, spliced cs (k * es) (f v))] := by
  obtain ⟨h2, h3, h4, h5, h6⟩ := h.same
  have hlen := h.1
  rw [flat_len hf] at hlen
  have hes : k * es + es ≤ n * es := by rw [show k * es + es = (k + 1) * es by rw [Nat.add_mul, Nat.one_mul]]; exact Nat.mul_le_mul_right _ hk
  have hce : n * es ≤ cap * es := Nat.mul_le_mul_right _ h3
  have hsp : k * es + (f v).length ≤ cs.length := by rw [hf, h5]; omega
  refine ⟨by rw [flat_len hf, List.length_set, hlen], .inr ⟨g, _, h2, rfl, h3, h4, by rw [spliced_len hsp, h5], ?_⟩⟩
  apply List.ext_getElem?
  intro i
  by_cases hi : i < n * es
  · have hes0 : 0 < es := by
      rcases Nat.eq_zero_or_pos es with h0 | h0
      · subst h0; simp at hi
      · exact h0
    have hl : l.length = n := Nat.eq_of_mul_eq_mul_right hes0 hlen
    obtain ⟨k', j, hk', hj, rfl⟩ : ∃ k' j, k' < l.length ∧ j < es ∧ i = k' * es + j :=
      ⟨i / es, i % es, by rw [hl]; exact (Nat.div_lt_iff_lt_mul hes0).2 hi, Nat.mod_lt _ hes0, by rw [Nat.mul_comm]; exact (Nat.div_add_mod i es).symm⟩
    rw [List.getElem?_take, if_pos hi, spliced_get hsp, hf, flat_get hf d (l.set k v) k' j (by rw [List.length_set]; exact hk') hj]
    by_cases hkk : k' = k
    · subst hkk
      rw [if_neg (by omega), if_pos (by omega)]
      simp [List.getD_eq_getElem?_getD, hk', Nat.add_sub_cancel_left]
    · have hlt : k' < k ∨ k < k' := by omega
      have hold : cs[k' * es + j]? = (f (l.getD k' d))[j]? := by
        rw [← flat_get hf d l k' j hk' hj, ← h6, List.getElem?_take, if_pos hi]
      have hget : (l.set k v).getD k' d = l.getD k' d := by
        simp [List.getD_eq_getElem?_getD, List.getElem?_set, Ne.symm hkk]
      rw [hget, ← hold]
      rcases hlt with h' | h'
      · have : k' * es + es ≤ k * es := by rw [show k' * es + es = (k' + 1) * es by rw [Nat.add_mul, Nat.one_mul]]; exact Nat.mul_le_mul_right _ h'
        rw [if_pos (by omega)]
      · have : k * es + es ≤ k' * es := by rw [show k * es + es = (k + 1) * es by rw [Nat.add_mul, Nat.one_mul]]; exact Nat.mul_le_mul_right _ h'
        rw [if_neg (by omega), if_neg (by omega)]
  · rw [List.getElem?_eq_none (by rw [List.length_take]; omega), List.getElem?_eq_none (by rw [flat_len hf, List.length_set, hlen]; omega)]
theorem RowS.flatlen (hf : ∀ x, (f x).length = es) (hes : 0 < es) {R : List LBlk} (h : RowS E es p n cap (l.flatMap f) R) : n = l.length := by
  have hlen := h.1
  rw [flat_len hf] at hlen
  exact (Nat.eq_of_mul_eq_mul_right hes hlen).symm
end

/-- The machine's cells. -/
abbrev machC (p : Pg) (r : Rn) (ins : Sl) : List Value := [.int .i64 p.vars, .int .i64 p.fields, .slice p.pc p.n p.cap, .int .i64 r.at', .slice r.vars.p r.vars.n r.vars.cap, .slice r.things.p r.things.n r.things.cap, .int .i64 r.taken, .slice r.lines.p r.lines.n r.lines.cap, .int .i64 r.ending, .slice ins.p ins.n ins.cap]
/-- The machine lies at block bm, in memory of a call's own; s: its run. -/
def Mach (w0 : World) (bm : Nat) (p : Pg) (ins : Sl) (s : Rs) (w : World) : Prop :=
  ∃ r ts Rv Rt Rl Rf, RowsR r s ts Rv Rt Rl Rf ∧ Loc w0 w ((bm, 50, machC p r ins) :: (Rv ++ (Rt ++ (Rl ++ Rf)))) []

theorem end0 {P : Program} {fn : Func} {R : Ending → World → Prop} {a : Act} {w : World} (hr : fn.results = #[]) (hd : a.defers = []) (hR : R (.returned (.tuple #[])) w) : bodyPost P fn R .normal a w :=
  bodyPost_end (v := .tuple #[]) (by rw [results_eq, hr]; simp) hd hR
theorem ret0 {P : Program} {fn : Func} {R : Ending → World → Prop} {a : Act} {w : World} (hr : fn.results = #[]) (hd : a.defers = []) (hR : R (.returned (.tuple #[])) w) : bodyPost P fn R .ret a w :=
  bodyPost_ret (v := .tuple #[]) (by rw [results_eq, hr]; simp) hd hR

set_option maxRecDepth 100000 in
set_option maxHeartbeats 1600000 in
theorem over_any (w0 : World) (bm : Nat) (p : Pg) (ins : Sl) (s : Rs) (k : Int) (w : World) (h : Mach w0 bm p ins s w) :
    Calls Tryd.prog 34 #[.pointer (some ⟨bm, 0, none⟩), .int .i64 k] w fun e w' => e = .returned (.tuple #[]) ∧ Mach w0 bm p ins { s with ending := k } w' := by
  obtain ⟨r, ts, Rv, Rt, Rl, Rf, hR, hL⟩ := h
  have HR := Lib.hid hR
  clear hR
  obtain ⟨ra, rv, rt, rk, rl, re⟩ := r
  go_enter Tryd.func34, Tryd.ntmps34
  go_wp2_with (first | (with_reducible refine lld hL ?_) | ((with_reducible first | refine lbx hL ?_ | refine lal hL ?_ | refine lbs hL ?_); clear hL; intro bl w1 hL) | ((with_reducible refine lst' hL ?_); clear hL; intro w1 hL))
  (try simp only [Exit.inBlock, Exit.then]); (first | refine end0 rfl rfl ?_ | refine ret0 rfl rfl ?_)
  obtain ⟨h1, h2, h3, h4, h5, h6, h7⟩ := HR.out
  exact ⟨rfl, ⟨ra, rv, rt, rk, rl, k⟩, ts, Rv, Rt, Rl, Rf, ⟨h1, h2, h3, h4, h5, h6, rfl⟩, hL⟩

/-- A variable is set, and it goes on. -/
def Rs.set (s : Rs) (k : Nat) (v : Vl) : Rs := { s with vars := s.vars.set k v, at' := s.at' + 1 }
set_option maxRecDepth 100000 in
set_option maxHeartbeats 1600000 in
theorem set_any (w0 : World) (bm : Nat) (p : Pg) (ins : Sl) (s : Rs) (k : Nat) (v : Vl) (w : World) (h : Mach w0 bm p ins s w) (hk : k < s.vars.length) (ha : 0 ≤ s.at' ∧ s.at' ≤ 1000000) :
    Calls Tryd.prog 39 #[.pointer (some ⟨bm, 0, none⟩), .int .i64 k, v.v] w fun e w' => e = .returned (.tuple #[]) ∧ Mach w0 bm p ins (s.set k v) w' := by
  obtain ⟨r, ts, Rv, Rt, Rl, Rf, hR, hL⟩ := h
  have hn := hR.vars.flatlen lenV (by decide)
  have haa := hR.a
  obtain ⟨gv, cs, hp, rfl, htk, hlen⟩ := hR.vars.block (by omega)
  simp only [List.cons_append, List.nil_append] at hL
  have hput := hR.vars.put lenV dV (k := k) (by omega) v
  have hk : k < r.vars.n := by omega
  have hle := hR.vars.fits
  have HR := Lib.hid (And.intro hR hput)
  have ha2 : 0 ≤ r.at' ∧ r.at' ≤ 1000000 := by omega
  have HS := Lib.hid (show k * 2 + v.cells.length ≤ cs.length by show k * 2 + 2 ≤ _; rw [hlen]; omega)
  clear hR hput hn haa htk hlen hle ha
  obtain ⟨ra, ⟨vp, vn, vc⟩, rt, rk, rl, re⟩ := r
  dsimp only at hp hk ha2
  subst hp
  obtain ⟨ha0, ha1⟩ := ha2
  go_enter Tryd.func39, Tryd.ntmps39
  go_upto_region 1 with (first | (with_reducible refine lld hL ?_) | ((with_reducible first | refine lbx hL ?_ | refine lal hL ?_ | refine lbs hL ?_); clear hL; intro bl w1 hL) | ((with_reducible refine lst' hL ?_); clear hL; intro w1 hL))
  refine draw_begin [6, 7, 8, 9, 10, 11, 12, 13] ?_
  apply draw_val
  · intro g w hb hdep; replace hL := hL.grow hb; clear hdep; simp only [fillD, fLa, fLb, sTa, sTb]
    go_wp2
    exact cY
  simp only [apN, apC]
  apply draw_val
  · intro g w hb hdep; replace hL := hL.grow hb; have d0 := yv hdep 0; clear hdep; simp only [fillD, fLa, fLb, sTa, sTb]; simp only [d0]
    go_wp2
    exact cY
  simp only [apN, apC]
  apply draw_val
  · intro g w hb hdep; replace hL := hL.grow hb; have d1 := yv hdep 1; clear hdep; simp only [fillD, fLa, fLb, sTa, sTb]; simp only [d1]
    go_wp2
    exact cY
  simp only [apN, apC]
  apply draw_val
  · intro g w hb hdep; replace hL := hL.grow hb; have d2 := yv hdep 2; clear hdep; simp only [fillD, fLa, fLb, sTa, sTb]; simp only [d2]
    go_wp2
    exact cY
  simp only [apN, apC]
  apply draw_val
  · intro g w hb hdep; replace hL := hL.grow hb; have d3 := yv hdep 3; clear hdep; simp only [fillD, fLa, fLb, sTa, sTb]; simp only [d3]
    go_wp2_with (first | (with_reducible refine lld hL ?_) | (with_reducible refine ldD hL ?_))
    exact cY
  simp only [apN, apC]
  apply draw_val
  · intro g w hb hdep; replace hL := hL.grow hb; clear hdep; simp only [fillD, fLa, fLb, sTa, sTb]
    go_wp2
    exact cY
  simp only [apN, apC]
  apply draw_val
  · intro g w hb hdep; replace hL := hL.grow hb; clear hdep; simp only [fillD, fLa, fLb, sTa, sTb]
    go_wp2_with (first | (with_reducible refine lld hL ?_) | (with_reducible refine ldD hL ?_))
    exact cY
  simp only [apN, apC]
  apply draw_val
  · intro g w hb hdep; replace hL := hL.grow hb; have d4 := yv hdep 4; have d5 := yv hdep 5; clear hdep; simp only [fillD, fLa, fLb, sTa, sTb]; simp only [d4, d5]
    go_wp2
    exact cY
  simp only [apN, apC]
  refine draw_end hL (by kernel_rfl) (by kernel_rfl) ?_
  intro g w2 hb hR; simp only [List.length_cons, List.length_nil, Nat.reduceAdd] at hR
  have e0 := yv hR 0
  have e1 := yv hR 1
  have e2 := yv hR 2
  have e3 := yv hR 3
  have e4 := yv hR 4
  have e5 := yv hR 5
  have e6 := yv hR 6
  have e7 := yv hR 7
  clear hR; simp only [fillD, fLa, fLb, sTa, sTb]
  simp only [e0, e1, e2, e3, e4, e5, e6, e7]
  clear e0 e1 e2 e3 e4 e5 e6 e7
  replace hL := hL.grow hb
  clear hb
  go_wp2_with (first | (refine loc_store (b := gv) (off := k * 2) (vs := v.cells) (cs' := spliced cs (k * 2) v.cells) hL rfl rfl (by repeat (first | exact InL.head | apply InL.tail)) rfl tValue.sz rfl HS.out rfl ?_; clear hL; intro w' hL) | (with_reducible refine lld hL ?_) | ((with_reducible first | refine lbx hL ?_ | refine lal hL ?_ | refine lbs hL ?_); clear hL; intro bl w1 hL) | ((with_reducible refine lst' hL ?_); clear hL; intro w1 hL))
  (try simp only [Exit.inBlock, Exit.then]); (first | refine end0 rfl rfl ?_ | refine ret0 rfl rfl ?_)
  obtain ⟨⟨h1, h2, h3, h4, h5, h6, h7⟩, hput⟩ := HR.out
  refine ⟨rfl, ⟨ra + 1, ⟨some ⟨gv, 0, none⟩, vn, vc⟩, rt, rk, rl, re⟩, ts, [(gv, 56, spliced cs (k * 2) v.cells)], Rt, Rl, Rf, ⟨hput, h2, h3, h4, ?_, h6, h7⟩, hL.drop (List.sublist_cons_self _ _) (fun _ h => h)⟩
  show ra + 1 = s.at' + 1
  rw [← h5]
end Go.Proofs.YtkdbehgekeidoaaDoor
