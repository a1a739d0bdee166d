/- The laws of a walk over 'Loc': a variable made, read, written; a slice built; a call; the results. Over any program. Conditions: none. -/
import Derived.Test.YtodamdjnbnkmdaaLoc
set_option linter.unusedSimpArgs false
set_option linter.unusedVariables false
namespace Go.Proofs.Ytodamdjnbnkmdaa
open Go.RowKit

section
variable {P : Program} {ops : Array Oper} {Q : Exit → Act → World → Prop} {a : Act} {w0 w : World} {rest : List Oper} {L : List LBlk} {D : List Datum}
  {d : Option Tmp} {ty : TypeId} {pos : String} {after : Array Edge} {g : Option (Nat × Bool)}

theorem wpList_val {o : Oper} {v : Value} {w' : World} (hw : Region.wanted o (yielded ops a.tmps) = true) (hrun : (execOp a.eval o).run P w = .ok (.value v) w')
    (h : wpList P ops Q rest (a.put o.dst v) w') : wpList P ops Q (o :: rest) a w :=
  wpList_step fun _ hK => by rw [if_pos hw]; unfold Oper.wp; rw [hrun]; exact hK _ _ h
theorem wpList_unit {o : Oper} {w' : World} (hw : Region.wanted o (yielded ops a.tmps) = true) (hrun : (execOp a.eval o).run P w = .ok .skip w')
    (h : wpList P ops Q rest (a.put o.dst undef) w') : wpList P ops Q (o :: rest) a w :=
  wpList_step fun _ hK => by rw [if_pos hw]; unfold Oper.wp; rw [hrun]; exact hK _ _ h

theorem want0 {op : Op} {y : Nat → Option Bool} : Region.wanted ⟨d, op, ty, pos, after, none⟩ y = true := rfl
theorem want1 {op : Op} {tmps : Array Value} {j : Nat} {b : Bool} {t : Tmp} (h1 : (ops[j]?).bind (·.dst) = some t) (h2 : tmps[t]? = some (.bool b)) :
    Region.wanted ⟨d, op, ty, pos, after, some (j, b)⟩ (yielded ops tmps) = true := by
  simp [Region.wanted, yielded, h1, h2]

/-- T is a type of one cell. -/
structure CellT (P : Program) (T : TypeId) : Prop where
  flat : (P.underlying T).map (fun d => match d with | .struct _ | .array _ _ => true | _ => false) = some false
  size : (P.info? T).map (·.size) = some 1
/-- T is a struct of n cells. -/
structure AggT (P : Program) (T : TypeId) (n : Nat) : Prop where
  flat : (P.underlying T).map (fun d => match d with | .struct _ | .array _ _ => true | _ => false) = some true
  size : (P.info? T).map (·.size) = some n
structure ZeroT (P : Program) (T : TypeId) (cs : List Value) : Prop where
  zero : ((P.info? T).bind (·.zero)).map (fun z => z.cells.toList) = some cs
/-- T's size is n cells. -/
structure SizeT (P : Program) (T : TypeId) (n : Nat) : Prop where
  size : (P.info? T).map (·.size) = some n
theorem CellT.sz {P : Program} {T : TypeId} (h : CellT P T) : SizeT P T 1 := ⟨h.size⟩
theorem AggT.sz {P : Program} {T : TypeId} {n : Nat} (h : AggT P T n) : SizeT P T n := ⟨h.size⟩

theorem run_isAgg_of {T : TypeId} {b : Bool} (h : (P.underlying T).map (fun d => match d with | .struct _ | .array _ _ => true | _ => false) = some b) (w : World) : (isAgg T).run P w = .ok b w := by
  cases hu : P.underlying T with
  | none => simp [hu] at h
  | some d =>
    simp only [hu, Option.map_some, Option.some.injEq] at h
    unfold isAgg
    rw [Sem.run_bind, run_underlying hu w]
    cases d <;> simp_all

theorem run_sizeOf_of {T : TypeId} {n : Nat} (h : (P.info? T).map (·.size) = some n) (w : World) : (sizeOf T).run P w = .ok n w := by
  cases hi : P.info? T with
  | none => simp [hi] at h
  | some i => simp [hi] at h; simp [sizeOf, typeInfo, hi, h]

/-- A variable of type T that lies at off in cells cs reads v. -/
structure Reads (P : Program) (T : TypeId) (cs : List Value) (off : Nat) (v : Value) : Prop where
  run : ∀ (w : World) (b : Nat), (∀ j, w.cell? ⟨b, j, none⟩ = cs[j]?) → (loadVar T ⟨b, off, none⟩).run P w = .ok v w

theorem add_addr (b off j : Nat) : (⟨b, off, none⟩ : Addr).add j = ⟨b, off + j, none⟩ := by
  unfold Addr.add; split <;> simp_all

theorem Reads.cell {T : TypeId} (hT : CellT P T) {cs : List Value} {off : Nat} {v : Value} (hv : cs[off]? = some v) : Reads P T cs off v := ⟨fun w b hc => by
  have : w.cell? ⟨b, off, none⟩ = some v := by rw [hc, hv]
  simp [loadVar, Sem.run_bind, run_isAgg_of hT.flat, this]⟩

theorem Reads.agg {T : TypeId} {n : Nat} (hT : AggT P T n) {cs : List Value} {off : Nat} {l : List Value} (hl : (cs.drop off).take n = l) (hn : l.length = n) : Reads P T cs off (.agg l.toArray) := ⟨fun w b hc => by
  have h1 : (loadCells ⟨b, off, none⟩ l.length).run P w = .ok l.toArray w :=
    run_loadCells_list (P := P) w ⟨b, off, none⟩ l (fun j v hv => by
      rw [add_addr, hc, ← hv, ← hl, List.getElem?_take, List.getElem?_drop]
      have : j < n := by rw [← hn]; exact (List.getElem?_eq_some_iff.1 hv).1
      simp [this])
  rw [hn] at h1
  simp [loadVar, Sem.run_bind, run_isAgg_of hT.flat, run_sizeOf_of hT.size, h1]⟩

theorem loc_box {T : TypeId} {x : Operand} {cs : List Value} (hL : Loc w0 w L D) (hw : Region.wanted ⟨d, .box T x, ty, pos, after, g⟩ (yielded ops a.tmps) = true) (hx : (a.eval x).cells.toList = cs)
    (h : ∀ b w', Loc w0 w' ((b, T, cs) :: L) D → wpList P ops Q rest (a.put d (.pointer (some ⟨b, 0, none⟩))) w') : wpList P ops Q (⟨d, .box T x, ty, pos, after, g⟩ :: rest) a w :=
  wpList_val (o := ⟨d, .box T x, ty, pos, after, g⟩) (w' := w.alloc (.cells cs.toArray T)) hw (by
    subst hx; simp [execOp, Instr.box, newVar, newRow]) (h _ _ (hL.box T cs))

theorem loc_alloc {T : TypeId} {cs : List Value} (hL : Loc w0 w L D) (hw : Region.wanted ⟨d, .alloc T, ty, pos, after, g⟩ (yielded ops a.tmps) = true) (hz : ZeroT P T cs)
    (h : ∀ b w', Loc w0 w' ((b, T, cs) :: L) D → wpList P ops Q rest (a.put d (.pointer (some ⟨b, 0, none⟩))) w') : wpList P ops Q (⟨d, .alloc T, ty, pos, after, g⟩ :: rest) a w :=
  wpList_val (o := ⟨d, .alloc T, ty, pos, after, g⟩) (w' := w.alloc (.cells cs.toArray T)) hw (by
    replace hz := hz.zero
    cases hi : P.info? T with
    | none => simp [hi] at hz
    | some i =>
      cases hzz : i.zero with
      | none => simp [hi, hzz] at hz
      | some z =>
        simp [hi, hzz] at hz
        simp [execOp, Instr.alloc, zeroValue, typeInfo, hi, hzz, newVar, newRow, ← hz]) (h _ _ (hL.box T cs))

theorem loc_load {T : TypeId} {x : Operand} {b off : Nat} {Tb : TypeId} {cs : List Value} {f : List Value → List LBlk} {v : Value} (hL : Loc w0 w L D) (hw : Region.wanted ⟨d, .load T x, ty, pos, after, g⟩ (yielded ops a.tmps) = true)
    (hx : a.eval x = .pointer (some ⟨b, off, none⟩)) (hm : InL b Tb cs L f) (hv : Reads P T cs off v)
    (h : wpList P ops Q rest (a.put d v) w) : wpList P ops Q (⟨d, .load T x, ty, pos, after, g⟩ :: rest) a w :=
  wpList_val (o := ⟨d, .load T x, ty, pos, after, g⟩) (w' := w) hw (by
    simp [execOp, Instr.loadAt, hx, Instr.sureAddr, hv.run w b (fun j => hL.cell hm j)]) h

theorem loc_loadD {T : TypeId} {x : Operand} {b off : Nat} {Tb : TypeId} {cs : List Value} {v : Value} (hL : Loc w0 w L D) (hw : Region.wanted ⟨d, .load T x, ty, pos, after, g⟩ (yielded ops a.tmps) = true)
    (hx : a.eval x = .pointer (some ⟨b, off, none⟩)) (hm : HeapAt b Tb cs ∈ D) (hv : Reads P T cs off v)
    (h : wpList P ops Q rest (a.put d v) w) : wpList P ops Q (⟨d, .load T x, ty, pos, after, g⟩ :: rest) a w :=
  wpList_val (o := ⟨d, .load T x, ty, pos, after, g⟩) (w' := w) hw (by
    have hh : w.heap[b]? = some (.cells cs.toArray Tb (0, 0)) := hL.get hm
    simp [execOp, Instr.loadAt, hx, Instr.sureAddr, hv.run w b (fun j => by simp [World.cell?, hh])]) h

/-- cs with the cells vs at off. -/
def spliced (cs : List Value) (off : Nat) (vs : List Value) : List Value := cs.take off ++ (vs ++ cs.drop (off + vs.length))

theorem spliced_cons (cs : List Value) (k : Nat) (v : Value) (vs : List Value) (h : k < cs.length) : spliced (cs.set k v) (k + 1) vs = spliced cs k (v :: vs) := by
  unfold spliced
  have h1 : (cs.set k v).take (k + 1) = cs.take k ++ [v] := by
    rw [List.take_add_one, List.take_set_of_le (Nat.le_refl _)]
    simp [h]
  rw [h1, List.drop_set_of_lt (by omega)]
  simp [show k + 1 + vs.length = k + (vs.length + 1) from by omega]

theorem loc_store {T : TypeId} {x y : Operand} {b off : Nat} {Tb : TypeId} {cs vs cs' : List Value} {f : List Value → List LBlk} (hL : Loc w0 w L D) (hw : Region.wanted ⟨d, .store T x y, ty, pos, after, g⟩ (yielded ops a.tmps) = true)
    (hx : a.eval x = .pointer (some ⟨b, off, none⟩)) (hm : InL b Tb cs L f) (hy : (a.eval y).cells.toList = vs) (hT : SizeT P T vs.length) (h1 : vs.all (·.oneCell') = true)
    (ho : off + vs.length ≤ cs.length) (hs : spliced cs off vs = cs')
    (h : ∀ w', Loc w0 w' (f cs') D → wpList P ops Q rest (a.put d undef) w') : wpList P ops Q (⟨d, .store T x y, ty, pos, after, g⟩ :: rest) a w := by
  have hp := hL.heap hm
  obtain ⟨w', hrun, hw1, hw2, hw3, hw4, hw5, hw6⟩ : ∃ w', (storeCells ⟨b, off, none⟩ vs 0).run P w = .ok () w' ∧ w'.os = w.os ∧ w'.tape = w.tape ∧ w'.output = w.output ∧ w'.heap.size = w.heap.size ∧
      w'.heap[b]? = some (.cells cs'.toArray Tb (0, 0)) ∧ ∀ k, k ≠ b → w'.heap[k]? = w.heap[k]? := by
    have key : ∀ (vs : List Value) (off i : Nat) (cs : List Value) (w : World), w.heap[b]? = some (.cells cs.toArray Tb (0, 0)) → vs.all (·.oneCell') = true → off + i + vs.length ≤ cs.length →
        ∃ w', (storeCells ⟨b, off, none⟩ vs i).run P w = .ok () w' ∧ w'.os = w.os ∧ w'.tape = w.tape ∧ w'.output = w.output ∧ w'.heap.size = w.heap.size ∧
          w'.heap[b]? = some (.cells (spliced cs (off + i) vs).toArray Tb (0, 0)) ∧ ∀ k, k ≠ b → w'.heap[k]? = w.heap[k]? := by
      intro vs
      induction vs with
      | nil => intro off i cs w hp _ _; exact ⟨w, by simp [storeCells], rfl, rfl, rfl, rfl, by simpa [spliced] using hp, fun _ _ => rfl⟩
      | cons v vs ih =>
        intro off i cs w hp h1 ho
        simp only [List.all_cons, Bool.and_eq_true] at h1
        simp only [List.length_cons] at ho
        have hc : w.cell? ⟨b, off + i, none⟩ = some (cs[off + i]'(by omega)) := by simp [World.cell?, hp]
        have hf : w.frozen? ⟨b, off + i, none⟩ = false := by simp [World.frozen?, hp]
        have hb : (w.setCell ⟨b, off + i, none⟩ v).heap[b]? = some (.cells (cs.set (off + i) v).toArray Tb (0, 0)) := by
          simp [World.setCell, Array.getElem?_modify, hp]
        obtain ⟨w', hr, e1, e2, e3, e4, e5, e6⟩ := ih off (i + 1) (cs.set (off + i) v) (w.setCell ⟨b, off + i, none⟩ v) hb h1.2 (by simp; omega)
        refine ⟨w', ?_, e1, e2, e3, ?_, ?_, ?_⟩
        · rw [storeCells, Sem.run_bind, add_addr, run_store P w _ v .plain h1.1, hc]
          simp [hf, hr]
        · rw [e4]; simp
        · rw [e5, ← spliced_cons cs (off + i) v vs (by omega), show off + (i + 1) = off + i + 1 from by omega]
        · intro k hk
          rw [e6 k hk, Below.heap_setCell _ _ _ _ hk]
    have := key vs off 0 cs w hp h1 (by omega)
    simpa [hs] using this
  refine wpList_unit (o := ⟨d, .store T x y, ty, pos, after, g⟩) (w' := w') hw ?_ (h _ (hL.put hm cs' hw1 hw2 hw3 (Nat.le_of_eq hw4.symm) hw5 (fun k _ hk => hw6 k hk)))
  have hsz : (a.eval y).cells.size = vs.length := by rw [← hy]; simp
  simp [execOp, Instr.storeAt, hx, Instr.sureAddr, storeVar, hsz, run_sizeOf_of hT.size, hy, hrun]

/-- T is a type of slices of E, whose zero value has the cells z. -/
structure SliceT (P : Program) (T E : TypeId) (z : List Value) : Prop where
  und : P.underlying T = some (.slice E)
  zero : ZeroT P E z
  size : SizeT P E z.length

theorem run_zero_of {E : TypeId} {z : List Value} (h : ZeroT P E z) (w : World) : ∃ v, (zeroValue E).run P w = .ok v w ∧ v.cells.toList = z := by
  have hz := h.zero
  cases hi : P.info? E with
  | none => simp [hi] at hz
  | some i =>
    cases hzz : i.zero with
    | none => simp [hi, hzz] at hz
    | some v =>
      simp [hi, hzz] at hz
      exact ⟨v, by simp [zeroValue, typeInfo, hi, hzz], hz⟩

theorem put_cells (off : Nat) : ∀ (l : List Value) (j : Nat) (pre old post : List Value), pre.length = off + j → old.length = l.length →
    (l.zipIdx j).foldl (fun (cs : Array Value) (c : Value × Nat) => cs.setIfInBounds (off + c.2) c.1) (pre ++ (old ++ post)).toArray = (pre ++ (l ++ post)).toArray
  | [], _, _, old, _, _, h => by
    have : old = [] := List.length_eq_zero_iff.1 (by simpa using h)
    subst this; rfl
  | x :: l, j, pre, o :: old, post, hp, h => by
    rw [List.zipIdx_cons, List.foldl_cons]
    have e : (pre ++ (o :: old ++ post)).toArray.setIfInBounds (off + j) x = ((pre ++ [x]) ++ (old ++ post)).toArray := by
      rw [List.setIfInBounds_toArray]
      congr 1
      rw [← hp]
      simp
    show List.foldl _ ((pre ++ (o :: old ++ post)).toArray.setIfInBounds (off + j) x) _ = _
    rw [e, put_cells off l (j + 1) (pre ++ [x]) old post (by simp; omega) (by simpa using h)]
    simp
  | _ :: _, _, _, [], _, _, h => by simp at h

theorem fill_all (k : Nat) : ∀ (ps : List (Nat × Value)) (i : Nat) (pre rest : List Value), ps.map (·.1) = List.range' i ps.length → pre.length = i * k → rest.length = ps.length * k → (∀ p ∈ ps, p.2.cells.size = k) →
    Instr.fill (fun i => some (i * k, k)) (pre ++ rest).toArray ps = some (pre ++ ps.flatMap (fun p => p.2.cells.toList)).toArray
  | [], i, pre, rest, _, _, hr, _ => by
    have : rest = [] := List.length_eq_zero_iff.1 (by simpa using hr)
    subst this; rfl
  | (i', v) :: ps, i, pre, rest, hi, hp, hr, hs => by
    have hv : v.cells.size = k := hs _ List.mem_cons_self
    simp only [List.map_cons, List.length_cons, List.range'_succ, List.cons.injEq] at hi
    obtain ⟨rfl, hi⟩ := hi
    have hk : k ≤ rest.length := by rw [hr, List.length_cons]; exact Nat.le_mul_of_pos_left _ (by omega)
    obtain ⟨old, rest', rfl, ho⟩ : ∃ old rest', rest = old ++ rest' ∧ old.length = k := ⟨rest.take k, rest.drop k, (List.take_append_drop k rest).symm, by simp [hk]⟩
    have hr' : rest'.length = ps.length * k := by
      simp only [List.length_append, List.length_cons, Nat.add_mul, Nat.one_mul, ho] at hr; omega
    have h1 : ¬ ((decide (v.cells.size ≠ k) || decide (i' * k + v.cells.size > (pre ++ (old ++ rest')).toArray.size)) = true) := by
      simp [hv, hp, ho]
    have h2 := put_cells (i' * k) v.cells.toList 0 pre old rest' (by omega) (by simp [ho, hv])
    have h3 : v.cells.zipIdx.foldl (fun (cs : Array Value) (x : Value × Nat) => cs.setIfInBounds (i' * k + x.2) x.1) (pre ++ (old ++ rest')).toArray = (pre ++ (v.cells.toList ++ rest')).toArray := by
      rw [← h2, ← Array.foldl_toList]; simp
    have h4 := fill_all k ps (i' + 1) (pre ++ v.cells.toList) rest' hi (by simp [hp, hv, Nat.add_mul]) hr' (fun p hp => hs p (List.mem_cons_of_mem _ hp))
    have h5 : Instr.fill (fun i => some (i * k, k)) (pre ++ (v.cells.toList ++ rest')).toArray ps = some (pre ++ v.cells.toList ++ ps.flatMap (fun p => p.2.cells.toList)).toArray := by
      rw [← List.append_assoc]; exact h4
    simp only [Instr.fill]
    rw [if_neg h1]
    rw [show (v.cells.zipIdx.foldl (fun cs (x : Value × Nat) => match x with | (c, j) => cs.setIfInBounds (i' * k + j) c) (pre ++ (old ++ rest')).toArray) = (pre ++ (v.cells.toList ++ rest')).toArray from h3, h5]
    simp

theorem loc_buildSlice {T E : TypeId} {n : Nat} {parts : Array (Nat × Operand)} {z cs : List Value} (hL : Loc w0 w L D) (hw : Region.wanted ⟨d, .buildSlice T n parts, ty, pos, after, g⟩ (yielded ops a.tmps) = true)
    (hT : SliceT P T E z) (hn : n * z.length ≤ 16777216) (h0 : n * z.length ≠ 0) (hi : parts.toList.map (·.1) = List.range' 0 n)
    (hf : (parts.toList.map (fun p => (a.eval p.2).cells.toList)).flatten = cs) (hs : (parts.toList.map (fun p => (a.eval p.2).cells.size)).all (· == z.length) = true)
    (h : ∀ b w', Loc w0 w' ((b, E, cs) :: L) D → wpList P ops Q rest (a.put d (.slice (some ⟨b, 0, none⟩) n n)) w') : wpList P ops Q (⟨d, .buildSlice T n parts, ty, pos, after, g⟩ :: rest) a w :=
  wpList_val (o := ⟨d, .buildSlice T n parts, ty, pos, after, g⟩) (w' := w.alloc (.cells cs.toArray E)) hw (by
    obtain ⟨v, hv, hvz⟩ := run_zero_of hT.zero w
    have hva : v.cells = z.toArray := by rw [← hvz]
    have h2 : ¬ (n * z.length > 2 ^ 24) := by omega
    have hlen : parts.size = n := by have := congrArg List.length hi; simpa using this
    have hfill := fill_all z.length (parts.map fun (i, x) => (i, a.eval x)).toList 0 [] ((Array.range (n * z.length)).map (fun j => (z.toArray)[j % z.toArray.size]!)).toList
      (by simp only [Array.toList_map, List.map_map]; rw [show ((fun x : Nat × Value => x.1) ∘ fun x : Nat × Operand => match x with | (i, x) => (i, a.eval x)) = (fun x => x.1) from by funext x; rfl, hi]; simp [hlen])
      (by simp) (by simp [hlen]) (by
        intro p hp
        simp only [Array.toList_map, List.mem_map] at hp
        obtain ⟨q, hq, rfl⟩ := hp
        have := List.all_eq_true.1 hs ((a.eval q.2).cells.size) (by simp only [List.mem_map]; exact ⟨q, hq, rfl⟩)
        simpa using this)
    have hcs : ((parts.map fun (i, x) => (i, a.eval x)).toList.flatMap fun p => p.2.cells.toList) = cs := by
      rw [← hf]; simp [List.flatMap, List.map_map]; rfl
    rw [hcs] at hfill
    simp only [List.nil_append, Array.toArray_toList] at hfill
    simp only [execOp, Instr.buildSlice, Sem.run_bind, run_underlying hT.und, Result.andThen_ok, run_sizeOf_of hT.size.size, if_neg h2, if_neg h0, Sem.run_pure, hv, hva, hfill]
    simp [newRow]) (h _ _ (hL.box E cs))

theorem rounds_go {c : Code} {n : Nat} (h : c.wp P (Exit.then (Code.rounds P c Q n) Q) a w) : Code.rounds P c Q (n + 1) a w := h

/-- What one result reads behind the call. -/
def resF (tmps : Array Value) : ResultVar → Sem Value := fun
  | .tmp t => pure (tmps.getD t undef)
  | .cell a t => do loadVar t (← asAddr (tmps.getD a undef))
theorem results_eq (fn : Func) (tmps : Array Value) : results fn tmps = (do let vs ← fn.results.mapM (resF tmps); pure (if h : vs.size = 1 then vs[0] else .tuple vs)) := by
  unfold results
  have h : ∀ (f : ResultVar → Sem Value), f = resF tmps → (do let vs ← fn.results.mapM f; pure (if h : vs.size = 1 then vs[0] else .tuple vs) : Sem Value) = (do let vs ← fn.results.mapM (resF tmps); pure (if h : vs.size = 1 then vs[0] else .tuple vs)) := by
    intro f hf; rw [hf]
  exact h _ (by funext x; cases x <;> rfl)
structure ResV (P : Program) (w : World) (tmps : Array Value) (r : ResultVar) (v : Value) : Prop where
  run : (resF tmps r).run P w = .ok v w

theorem resTmp {tmps : Array Value} {t : Tmp} {v : Value} (h : tmps[t]? = some v) : ResV P w tmps (.tmp t) v := ⟨by simp [resF, h]⟩
theorem resCell {tmps : Array Value} {p : Tmp} {T : TypeId} {b : Nat} {Tb : TypeId} {cs : List Value} {f : List Value → List LBlk} {v : Value} (hL : Loc w0 w L D) (hp : tmps[p]? = some (.pointer (some ⟨b, 0, none⟩)))
    (hm : InL b Tb cs L f) (hv : Reads P T cs 0 v) : ResV P w tmps (.cell p T) v := ⟨by
  simp [resF, hp, asAddr, hv.run w b (fun j => hL.cell hm j)]⟩

theorem ret1 {fn : Func} {R : Ending → World → Prop} {r : ResultVar} {v : Value} (hr : fn.results = #[r]) (h : ResV P w a.tmps r v) (hd : a.defers = []) (hR : R (.returned v) w) : bodyPost P fn R .ret a w :=
  bodyPost_ret (v := v) (by rw [results_eq, hr]; simp [h.run]) hd hR
theorem ret2 {fn : Func} {R : Ending → World → Prop} {r s : ResultVar} {v u : Value} (hr : fn.results = #[r, s]) (h : ResV P w a.tmps r v) (k : ResV P w a.tmps s u) (hd : a.defers = []) (hR : R (.returned (.tuple #[v, u])) w) : bodyPost P fn R .ret a w :=
  bodyPost_ret (v := .tuple #[v, u]) (by rw [results_eq, hr]; simp [h.run, k.run]) hd hR
theorem ret3 {fn : Func} {R : Ending → World → Prop} {r s t : ResultVar} {v u x : Value} (hr : fn.results = #[r, s, t]) (h : ResV P w a.tmps r v) (k : ResV P w a.tmps s u) (l : ResV P w a.tmps t x) (hd : a.defers = []) (hR : R (.returned (.tuple #[v, u, x])) w) : bodyPost P fn R .ret a w :=
  bodyPost_ret (v := .tuple #[v, u, x]) (by rw [results_eq, hr]; simp [h.run, k.run, l.run]) hd hR
theorem ret4 {fn : Func} {R : Ending → World → Prop} {r s t q : ResultVar} {v u x y : Value} (hr : fn.results = #[r, s, t, q]) (h : ResV P w a.tmps r v) (k : ResV P w a.tmps s u) (l : ResV P w a.tmps t x) (m : ResV P w a.tmps q y) (hd : a.defers = []) (hR : R (.returned (.tuple #[v, u, x, y])) w) : bodyPost P fn R .ret a w :=
  bodyPost_ret (v := .tuple #[v, u, x, y]) (by rw [results_eq, hr]; simp [h.run, k.run, l.run, m.run]) hd hR
end
end Go.Proofs.Ytodamdjnbnkmdaa
