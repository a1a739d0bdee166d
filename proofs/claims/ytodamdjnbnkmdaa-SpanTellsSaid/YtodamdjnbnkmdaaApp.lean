/- A slice of the call's own that is appended to, beside 'Loc'. Over any program. Conditions: the bounds on lengths that the model asks. -/
import Derived.Test.YtodamdjnbnkmdaaLaws
set_option linter.unusedSimpArgs false
set_option linter.unusedVariables false
namespace Go.Proofs.Ytodamdjnbnkmdaa
open Go.RowKit

/-- v is a slice of n elements of type E (size cells each) of the call's own; its cells are xs; R: the block that it lies in, if it has one. -/
def RowL (E : TypeId) (size : Nat) (v : Value) (n : Nat) (xs : List Value) (R : List LBlk) : Prop :=
  xs.length = n * size ∧ ((v = .slice none 0 0 ∧ n = 0 ∧ R = []) ∨
    ∃ g cap cs, v = .slice (some ⟨g, 0, none⟩) n cap ∧ R = [(g, E, cs)] ∧ n ≤ cap ∧ cap ≤ maxLen ∧ cs.length = cap * size ∧ cs.take (n * size) = xs)

theorem RowL.nil {E : TypeId} {size : Nat} : RowL E size (.slice none 0 0) 0 [] [] := ⟨by simp, .inl ⟨rfl, rfl, rfl⟩⟩

inductive Split (R : List LBlk) : List LBlk → List LBlk → Prop where
  | nil : Split R R []
  | cons {L K : List LBlk} (x : LBlk) (h : Split R L K) : Split R (x :: L) (x :: K)
theorem Split.eq {R L K : List LBlk} (h : Split R L K) : L = K ++ R := by
  induction h with
  | nil => rfl
  | cons x _ ih => rw [ih]; rfl

structure BytesT (P : Program) (T : TypeId) (n : Nat) : Prop where
  bytes : (P.info? T).map (·.bytes) = some n

theorem Loc.perm {w0 w : World} {L L' D} (h : Loc w0 w L D) (hp : L'.Perm L) : Loc w0 w L' D :=
  ⟨h.below, (hp.map _).nodup_iff.2 h.nodup, fun e he => h.ids e (hp.mem_iff.1 he), fun e he => h.cells e (hp.mem_iff.1 he), fun S hS => by
    obtain ⟨X, hX, hO⟩ := h.data S hS
    exact ⟨X, fun b hx => ⟨(hX b hx).1, fun e he => (hX b hx).2 e (hp.mem_iff.1 he)⟩, hO⟩⟩

theorem Loc.sub {w0 w : World} {L L' D} (h : Loc w0 w L D) (hn : (L'.map (·.1)).Nodup) (hs : ∀ e ∈ L', e ∈ L) : Loc w0 w L' D :=
  ⟨h.below, hn, fun e he => h.ids e (hs e he), fun e he => h.cells e (hs e he), fun S hS => by
    obtain ⟨X, hX, hO⟩ := h.data S hS
    exact ⟨X, fun b hx => ⟨(hX b hx).1, fun e he => (hX b hx).2 e (hs e he)⟩, hO⟩⟩

theorem below_of_grown {w w' : World} (h : w.grownBy w' none) : Below w.heap.size w w' :=
  ⟨h.os, h.tape, h.output, h.size, fun k hk => h.block k hk (by simp)⟩

section
variable {P : Program} {ops : Array Oper} {Q : Exit → Act → World → Prop} {a : Act} {w0 w : World} {rest : List Oper} {L : List LBlk} {D : List Datum}
  {d : Option Tmp} {ty : TypeId} {pos : String} {after : Array Edge} {g : Option (Nat × Bool)}

theorem rowL_of_owns {base E size : Nat} {v : Value} {n : Nat} {xs : List Value} (h : w.ownsRow base E size v n xs) :
    ∃ R, RowL E size v n xs R ∧ (∀ e ∈ R, base ≤ e.1 ∧ w.heap[e.1]? = some (.cells e.2.2.toArray e.2.1 (0, 0))) ∧ (R.map (·.1)).Nodup := by
  obtain ⟨h1, h2⟩ := h
  rcases h2 with ⟨hv, hn⟩ | ⟨g, cap, cur, hv, hb, hg, hn, hc, hcs, ht⟩
  · exact ⟨[], ⟨h1, .inl ⟨hv, hn, rfl⟩⟩, by simp, by simp⟩
  · refine ⟨[(g, E, cur.toList)], ⟨h1, .inr ⟨g, cap, cur.toList, hv, rfl, hn, hc, by simpa using hcs, ht⟩⟩, fun e he => ?_, by simp⟩
    rw [List.mem_singleton.1 he]
    exact ⟨hb, by simpa using hg⟩

/-- What append does to a slice of the call's own. -/
theorem run_append_row {E t ty : TypeId} {z : List Value} {bytes : Nat} {K R : List LBlk} (hL : Loc w0 w (K ++ R) D) (hT : SliceT P t E z) (hby : BytesT P E bytes) (hz : 0 < z.length)
    {v : Value} {n : Nat} {xs : List Value} (hR : RowL E z.length v n xs R) {ad : Addr} {m c : Nat} {news : List Value} (hl : news.length = m * z.length)
    (hnews : ∀ j u, news[j]? = some u → w.cell? (ad.add j) = some u) (h1 : ∀ u ∈ news, u.oneCell' = true) (h63 : n + m ≤ maxLen) (hbytes : (n + m) * bytes ≤ 140737488355328) :
    ∃ v' w' R', (Builtin.append_ #[t, t] ty #[v, .slice (some ad) m c]).run P w = .ok v' w' ∧ RowL E z.length v' (n + m) (xs ++ news) R' ∧ Loc w0 w' (K ++ R') D := by
  obtain ⟨zv, hzv, hzc⟩ := run_zero_of hT.zero w
  obtain ⟨i, hi⟩ : ∃ i, P.info? E = some i := by
    have := hby.bytes
    cases hi : P.info? E with
    | none => simp [hi] at this
    | some i => exact ⟨i, rfl⟩
  have hib : i.bytes = bytes := by have := hby.bytes; simpa [hi] using this
  have his : i.size = z.length := by have := hT.size.size; simpa [hi] using this
  obtain ⟨zv', hz1, hz2⟩ : ∃ zv, i.zero = some zv ∧ zv.cells.toList = z := by
    have := hT.zero.zero
    cases hzz : i.zero with
    | none => simp [hi, hzz] at this
    | some zv => exact ⟨zv, rfl, by simpa [hi, hzz] using this⟩
  have hzs : zv'.cells.size = z.length := by rw [← hz2]; simp
  -- the fresh case
  have fresh : ∀ v' w', w'.ownsRow w.heap.size E z.length v' (n + m) (xs ++ news) → w.grownBy w' none → ∃ R', RowL E z.length v' (n + m) (xs ++ news) R' ∧ Loc w0 w' (K ++ R') D := by
    intro v' w' ho hg
    obtain ⟨R', h2, h3, _⟩ := rowL_of_owns ho
    refine ⟨R', h2, ?_⟩
    have hb := below_of_grown hg
    have hLK : Loc w0 w K D := hL.drop (List.sublist_append_left K R) (fun _ h => h)
    rcases h2.2 with ⟨_, _, hr⟩ | ⟨g', cap', cs', _, hr, _⟩
    · subst hr; rw [List.append_nil]; exact hLK.grow hb
    · subst hr
      have h4 := h3 _ List.mem_cons_self
      exact (hLK.gain hb h4.1 h4.2).perm (List.perm_append_comm)
  obtain ⟨hx, hR2⟩ := hR
  rcases hR2 with ⟨hv, hn, hr⟩ | ⟨g, cap, cs, hv, hr, hnc, hcm, hcs, htake⟩
  · subst hv; subst hn; subst hr
    have hown : w.ownsRow w.heap.size E z.length (.slice none 0 0) 0 xs := ⟨hx, .inl ⟨rfl, rfl⟩⟩
    obtain ⟨v', w', h2, h3, h4, _⟩ := run_append_own (P := P) w w.heap.size t ty E i zv' z.length bytes hT.und hi hz1 his hib hzs hz _ 0 xs hown ad m c news hl hnews h1 h63 hbytes (Nat.le_refl _)
    obtain ⟨R', h5, h6⟩ := fresh v' w' h3 h4
    exact ⟨v', w', R', h2, h5, h6⟩
  · subst hv; subst hr
    have hg : w.heap[g]? = some (.cells cs.toArray E (0, 0)) := hL.cells (g, E, cs) (by simp)
    have hown : w.ownsRow 0 E z.length (.slice (some ⟨g, 0, none⟩) n cap) n xs := ⟨hx, .inr ⟨g, cap, cs.toArray, rfl, Nat.zero_le _, hg, hnc, hcm, by simpa using hcs, by simpa using htake⟩⟩
    by_cases hroom : n + m ≤ cap
    · obtain ⟨w', h2, h3, h4⟩ := run_append_fits (P := P) w 0 t ty E i z.length hT.und hi his g n cap xs hown ad m c news hl hnews h1 hroom
      obtain ⟨R', h5, h6, _⟩ := rowL_of_owns h3
      refine ⟨_, w', R', h2, h5, ?_⟩
      rcases h5.2 with ⟨hv, _⟩ | ⟨g', cap', cs', hv, hr, _⟩
      · simp at hv
      · simp only [Value.slice.injEq, Option.some.injEq, Addr.mk.injEq, and_true, true_and] at hv
        obtain ⟨rfl, _⟩ := hv
        subst hr
        have h7 := (h6 _ List.mem_cons_self).2
        have hp : Loc w0 w ((g, E, cs) :: K) D := hL.perm (by simpa using (List.perm_append_comm (l₁ := [(g, E, cs)]) (l₂ := K)))
        exact (hp.put (f := fun c => (g, E, c) :: K) .head cs' h4.os h4.tape h4.output h4.size h7 (fun k hk hne => h4.block k hk (by simp [hne]))).perm (List.perm_append_comm)
    · have holds : ∀ j u, xs[j]? = some u → w.cell? ((⟨g, 0, none⟩ : Addr).add j) = some u := fun j u hj => by
        rw [add_addr, Nat.zero_add]
        have : cs[j]? = some u := by
          rw [← htake] at hj
          rw [List.getElem?_take] at hj
          split at hj
          · exact hj
          · cases hj
        simp [World.cell?, hg, this]
      obtain ⟨v', w', h2, h3, h4⟩ := run_append_arg_grows (P := P) w t ty E i zv' z.length bytes hT.und hi hz1 his hib hzs hz ⟨g, 0, none⟩ n cap xs hx holds ad m c news hl hnews (by omega) h63 hbytes
      obtain ⟨R', h5, h6⟩ := fresh v' w' h3 h4
      exact ⟨v', w', R', h2, h5, h6⟩

theorem loc_append {s x : Operand} {E t : TypeId} {z : List Value} {bytes : Nat} {K R : List LBlk} {v : Value} {n : Nat} {xs : List Value} (hR : RowL E z.length v n xs R) (hL : Loc w0 w L D)
    (hw : Region.wanted ⟨d, .call { callee := .builtin .append, args := #[s, x], argTypes := #[t, t] }, ty, pos, after, g⟩ (yielded ops a.tmps) = true) (hs : a.eval s = v) (hK : Split R L K) (hT : SliceT P t E z) (hby : BytesT P E bytes) (hz : 0 < z.length)
    {ad : Addr} {m c : Nat} {news : List Value} (hx : a.eval x = .slice (some ad) m c) (hnews : ∀ j u, news[j]? = some u → w.cell? (ad.add j) = some u) (hl : news.length = m * z.length)
    (h1 : ∀ u ∈ news, u.oneCell' = true) (h63 : n + m ≤ maxLen) (hbytes : (n + m) * bytes ≤ 140737488355328)
    (h : ∀ v' R' w', RowL E z.length v' (n + m) (xs ++ news) R' → Loc w0 w' (K ++ R') D → wpList P ops Q rest (a.put d v') w') :
    wpList P ops Q (⟨d, .call { callee := .builtin .append, args := #[s, x], argTypes := #[t, t] }, ty, pos, after, g⟩ :: rest) a w := by
  rw [hK.eq] at hL
  obtain ⟨v', w', R', h2, h3, h4⟩ := run_append_row (P := P) (ty := ty) hL hT hby hz hR hl hnews h1 h63 hbytes
  refine wpList_val (o := ⟨d, .call { callee := .builtin .append, args := #[s, x], argTypes := #[t, t] }, ty, pos, after, g⟩) (v := v') (w' := w') hw ?_ (h v' R' w' h3 h4)
  unfold execOp
  simp only [resolve, invoke, builtin, Sem.run_bind, Sem.run_pure, Result.andThen_ok, List.map_toArray, List.map_cons, List.map_nil, hs, hx]
  rw [h2]; rfl
end
end Go.Proofs.Ytodamdjnbnkmdaa
