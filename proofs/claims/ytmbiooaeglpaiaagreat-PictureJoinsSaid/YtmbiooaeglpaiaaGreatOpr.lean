/- What a reading says of programs and runs. Conditions: none. | The row's reach, said of a run's lines. Conditions: none. -/
import Derived.Test.YtmbiooaeglpaiaaGreatOpn
import Derived.Test.YtmbiooaeglpaiaaGreatDat
set_option linter.unusedSimpArgs false
set_option linter.unusedVariables false
namespace Go.Proofs.YtmbiooaeglpaiaaGreat
open Go.ChangeShapes Go.WideShapes Go.ChangeAt Go.RowKit Go.Deep Go.Joins

section
variable {H : Type} {enc : TypeId × Value → H} {w : World} {base : Nat} {spare : Nat → Bool} {held : Bool}
/-- A thing, and its fields. -/
def ThAt (w : World) (t : Th) : Prop := t.fs.n ≤ 9223372036854775807 ∧ ∃ fv : Nat → Vl, ListC w 2 t.fs.p t.fs.n (fun j => (fv j).cells)
abbrev thC (t : Th) : List Value := [.int .i64 t.site, .slice t.fs.p t.fs.n t.fs.cap]
instance : Inhabited Th := ⟨⟨0, ⟨none, 0, 0⟩⟩⟩
theorem open_values {fuel : Nat} {cs : List Value} {x : DataW H × List MemPlace} (h : DataW.trod enc Tryz.prog w base spare held fuel 29 cs = some x) :
    ∃ (s : Sl) (g : Nat → Vl), cs = [.slice s.p s.n s.cap] ∧ s.n ≤ 9223372036854775807 ∧ ListC w 2 s.p s.n (fun k => (g k).cells) := by
  obtain ⟨p, n, cap, g, h1, h2, h3, -, -⟩ := open_list Vl.cells (fun _ => True) Tryz.underlying29 (by rw [show Tryz.prog.cellsOf 61 = 2 by kernel_rfl]; decide) (fun n cs y hy => open_value hy) h
  rw [show Tryz.prog.cellsOf 61 = 2 by kernel_rfl] at h3
  exact ⟨⟨p, n, cap⟩, g, h1, h2, h3⟩
theorem open_thing {fuel : Nat} {cs : List Value} {x : DataW H × List MemPlace} (h : DataW.trod enc Tryz.prog w base spare held fuel 58 cs = some x) : ∃ t : Th, cs = thC t ∧ ThAt w t := by
  obtain ⟨parts, ys, n, rfl, hpl, -, -, hf⟩ := open_struct Tryz.underlying58 (by kernel_rfl) h
  obtain ⟨a, b, rfl⟩ := list_len2 hpl
  obtain ⟨_, y0, p0, -, t0⟩ := hf 0 _ rfl
  obtain ⟨_, y1, p1, -, t1⟩ := hf 1 _ rfl
  cases p0; cases p1
  obtain ⟨k0, rfl, -, -⟩ := DataW.trod_int Tryz.underlying3 t0
  obtain ⟨s, g, rfl, h2, h3⟩ := open_values t1
  exact ⟨⟨k0, s⟩, rfl, h2, g, h3⟩
theorem open_run {fuel : Nat} {cs : List Value} {d : DataW H} {ps : List MemPlace} (h : DataW.trod enc Tryz.prog w base spare held fuel 33 cs = some (d, ps)) :
    ∃ (r : Rn) (s : Rs), cs = [.int .i64 r.at', .slice r.vars.p r.vars.n r.vars.cap, .slice r.things.p r.things.n r.things.cap, .int .i64 r.taken, .slice r.lines.p r.lines.n r.lines.cap, .int .i64 r.ending] ∧ RunIs w r s ∧ s.taken ≤ 9223372036854775807 ∧
      ∃ ys : List (DataW H), d = .agg ys ∧ ys.length = 6 ∧ ∃ y, ys[4]? = some y ∧ TopS y s.lines.length := by
  obtain ⟨parts, ys, n, rfl, hpl, hd, hyl, hf⟩ := open_struct Tryz.underlying33 (by kernel_rfl) h
  obtain ⟨a, b, c, d', e, f, rfl⟩ := list_len6 hpl
  obtain ⟨_, y0, p0, -, t0⟩ := hf 0 _ rfl
  obtain ⟨_, y1, p1, -, t1⟩ := hf 1 _ rfl
  obtain ⟨_, y2, p2, -, t2⟩ := hf 2 _ rfl
  obtain ⟨_, y3, p3, -, t3⟩ := hf 3 _ rfl
  obtain ⟨_, y4, p4, q4, t4⟩ := hf 4 _ rfl
  obtain ⟨_, y5, p5, -, t5⟩ := hf 5 _ rfl
  cases p0; cases p1; cases p2; cases p3; cases p4; cases p5
  obtain ⟨k0, rfl, -, -⟩ := DataW.trod_int Tryz.underlying3 t0
  obtain ⟨s1, g1, rfl, n1, l1⟩ := open_values t1
  obtain ⟨p, m, cap, g2, rfl, n2, l2, hg2, -⟩ := open_list thC (ThAt w) Tryz.underlying30 (by rw [show Tryz.prog.cellsOf 58 = 2 by kernel_rfl]; decide) (fun n cs y hy => open_thing hy) t2
  rw [show Tryz.prog.cellsOf 58 = 2 by kernel_rfl] at l2
  obtain ⟨k3, rfl, -, w3⟩ := DataW.trod_int Tryz.underlying3 t3
  obtain ⟨p4, m4, cap4, g4, rfl, n4, l4, -, top⟩ := open_list (fun s : ByteArray => [Value.string s]) (fun s => s.size ≤ maxLen) Tryz.underlying31 (by rw [show Tryz.prog.cellsOf 9 = 1 by kernel_rfl]; decide) (fun n cs y hy => open_string hy) t4
  rw [show Tryz.prog.cellsOf 9 = 1 by kernel_rfl] at l4
  obtain ⟨k5, rfl, -, -⟩ := DataW.trod_int Tryz.underlying3 t5
  obtain ⟨fv, hfv⟩ := choose_fn (fun k hk => (hg2 k hk).2)
  have hr : RunAt w ⟨k0, s1, ⟨p, m, cap⟩, k3, ⟨p4, m4, cap4⟩, k5⟩ g1 g2 fv g4 := ⟨l1, l2, fun k hk => ⟨(hg2 k hk).1, hfv k hk⟩, l4, n1, n2, n4⟩
  refine ⟨_, _, rfl, hr.is, ?_, ys.map (·.1), hd, by simp [hyl], y4.1, by simp [q4], ?_⟩
  · show k3 ≤ _
    simp only [Lit.wf, Bool.and_eq_true, decide_eq_true_eq] at w3
    exact w3.2
  · simpa [rsOf] using top
end
end Go.Proofs.YtmbiooaeglpaiaaGreat
set_option linter.unusedSimpArgs false
set_option linter.unusedVariables false
namespace Go.Proofs.YtmbiooaeglpaiaaGreat
open Go.ChangeShapes Go.WideShapes Go.ChangeAt Go.RowKit Go.Deep Go.Joins

section
variable {H : Type}
theorem weights_at {P : Program} : ∀ {ts : List TypeId} {ds : List (DataW H)} {j : Nat} {t : TypeId} {d : DataW H}, ts[j]? = some t → ds[j]? = some d → ∀ x ∈ d.weights P t, x ∈ DataW.weightsEach P ts ds
  | [], _, _, _, _, ht, _ => by simp at ht
  | _ :: _, [], _, _, _, _, hd => by simp at hd
  | t0 :: ts, d0 :: ds, 0, t, d, ht, hd => fun x hx => by
    simp at ht hd
    subst ht; subst hd
    rw [DataW.weightsEach]
    exact List.mem_append_left _ hx
  | t0 :: ts, d0 :: ds, j + 1, t, d, ht, hd => fun x hx => by
    rw [DataW.weightsEach]
    exact List.mem_append_right _ (weights_at (by simpa using ht) (by simpa using hd) x hx)
theorem weights_struct {P : Program} {t : TypeId} {fs : Array Field} {ys : List (DataW H)} (ht : P.underlying t = some (.struct fs)) : (DataW.agg ys).weights P t = DataW.weightsEach P (fs.toList.map (·.type)) ys := by
  rw [DataW.weights, ht]
theorem weights_slice {P : Program} {t e : TypeId} {es sp : List (DataW H)} (ht : P.underlying t = some (.slice e)) : (es.length + sp.length) * P.bytesOf e ∈ (DataW.slice es sp).weights P t := by
  rw [DataW.weights, ht]
  exact List.mem_cons_self
theorem top_bound {P : Program} {t e : TypeId} {y : DataW H} {n B : Nat} {l : List Nat} (ht : P.underlying t = some (.slice e)) (top : TopS y n) (hl : ∀ x ∈ y.weights P t, x ∈ l) (hb : l.all (· ≤ B) = true) : n * P.bytesOf e ≤ B := by
  rcases top with ⟨_, rfl⟩ | ⟨es, sp, rfl, rfl⟩
  · simp
  · have h1 := List.all_eq_true.1 hb _ (hl _ (weights_slice (es := es) (sp := sp) ht))
    have h2 : (es.length + sp.length) * P.bytesOf e ≤ B := by simpa using h1
    exact Nat.le_trans (Nat.mul_le_mul_right _ (Nat.le_add_right _ _)) h2
theorem lines_bound {d0 d2 y : DataW H} {ys : List (DataW H)} {ts vt : List TypeId} {gs : List (DataW H)} {n : Nat} (hz : (DataW.weightsEach Tryz.prog (ts ++ vt) ([d0, .agg ys, d2] ++ gs)).all (· ≤ reachBytes) = true) (hts : ts[1]? = some 33) (hy : ys[4]? = some y) (top : TopS y n) : n * 16 ≤ 140737488351232 := by
  have h1 := top_bound (P := Tryz.prog) (l := DataW.weightsEach Tryz.prog (ts ++ vt) ([d0, .agg ys, d2] ++ gs)) (B := reachBytes) Tryz.underlying31 top (fun x hx => ?_) hz
  · rw [show Tryz.prog.bytesOf 9 = 16 by kernel_rfl] at h1
    exact h1
  · refine weights_at (j := 1) (t := 33) (d := .agg ys) ?_ rfl x ?_
    · rw [List.getElem?_append_left (by rw [List.getElem?_eq_some_iff] at hts; exact hts.1)]; exact hts
    · rw [weights_struct Tryz.underlying33]
      exact weights_at (j := 4) (t := 31) (d := y) (by rfl) hy x hx
end
end Go.Proofs.YtmbiooaeglpaiaaGreat
