/- The builder of the library beside 'Loc': copyCheck, WriteString, WriteByte, String. Conditions: its text is not too long. -/
import Derived.Lib.AppendStr
import Derived.Lib.Builder
import Derived.Test.YtdghcnopoanieaaDoorShelfS
import Derived.Test.YtdghcnopoanieaaDoorGlob
set_option linter.unusedSimpArgs false
set_option linter.unusedVariables false
namespace Go.Proofs.YtdghcnopoanieaaDoor
open Go.RowKit

theorem tBld : CellT Tryd.prog 55 := ⟨by kernel_rfl, by kernel_rfl⟩
theorem tByts : CellT Tryd.prog 56 := ⟨by kernel_rfl, by kernel_rfl⟩
theorem sByts : SliceT Tryd.prog 56 5 [.int .u8 0] := ⟨by kernel_rfl, ⟨by kernel_rfl⟩, ⟨by kernel_rfl⟩⟩
theorem bByte : BytesT Tryd.prog 5 1 := ⟨by kernel_rfl⟩
theorem zBld : ZeroT Tryd.prog 58 [.pointer none, .slice none 0 0] := ⟨by kernel_rfl⟩

theorem zByte : (Tryd.prog.info? 5).bind (·.zero) = some (Value.int .u8 0) := by kernel_rfl
section
variable {P : Program} {ops : Array Oper} {Q : Exit → Act → World → Prop} {a : Act} {w0 w : World} {rest : List Oper} {L : List LBlk} {D : List Datum}
  {d : Option Tmp} {ty : TypeId} {pos : String} {after : Array Edge} {g : Option (Nat × Bool)}
/-- What append does to bytes of the call's own, its source a text. -/
theorem run_append_str {E t u ty : TypeId} {K R : List LBlk} (hL : Loc w0 w (K ++ R) D) (hT : SliceT P t E [.int .u8 0]) (hu : P.underlying u = some .string) (hby : BytesT P E 1) (hz0 : (P.info? E).bind (·.zero) = some (.int .u8 0))
    {v : Value} {n : Nat} {xs : List Value} (hR : RowL E 1 v n xs R) (s : ByteArray) (hbytes : n + s.size ≤ 1000000000) :
    ∃ v' w' R', (Builtin.append_ #[t, u] ty #[v, .string s]).run P w = .ok v' w' ∧ RowL E 1 v' (n + s.size) (xs ++ Lib.strCells s) R' ∧ Loc w0 w' (K ++ R') D := by
  have hmx : maxLen = 9223372036854775807 := rfl
  obtain ⟨i, hi⟩ : ∃ i, P.info? E = some i := by
    have := hby.bytes
    cases hi : P.info? E with
    | none => simp [hi] at this
    | some i => exact ⟨i, rfl⟩
  have hib : i.bytes = 1 := by have := hby.bytes; simpa [hi] using this
  have his : i.size = 1 := by have := hT.size.size; simpa [hi] using this
  have hz1 : i.zero = some (.int .u8 0) := by simpa [hi] using hz0
  have hLK : Loc w0 w K D := hL.drop (List.sublist_append_left K R) (fun _ h => h)
  obtain ⟨hx, hR2⟩ := hR
  have hxl : xs.length = n := by simpa using hx
  have hlen : (xs ++ Lib.strCells s).length = (n + s.size) * 1 := by rw [List.length_append, hxl, Lib.strCells_length, Nat.mul_one]
  rcases hR2 with ⟨rfl, rfl, rfl⟩ | ⟨g, cap, cs, rfl, rfl, hnc, hcm, hcs, htake⟩
  · have hown : w.ownsRow w.heap.size E 1 (.slice none 0 0) 0 xs := ⟨hx, .inl ⟨rfl, rfl⟩⟩
    obtain ⟨v', w', h2, h3, h4, _⟩ := Lib.run_append_own_string (P := P) w w.heap.size t u ty E i hT.und hu hi hz1 his hib _ 0 xs hown s (by omega) (by omega) (Nat.le_refl _)
    obtain ⟨R', h5, h6, _⟩ := rowL_of_owns h3
    refine ⟨v', w', R', h2, h5, ?_⟩
    have hb := below_of_grown h4
    rcases h5.2 with ⟨_, _, hr⟩ | ⟨g', cap', cs', _, hr, _⟩
    · subst hr; rw [List.append_nil]; exact hLK.grow hb
    · subst hr
      have h7 := h6 _ List.mem_cons_self
      exact (hLK.gain hb h7.1 h7.2).perm (List.perm_append_comm)
  · have hg : w.heap[g]? = some (.cells cs.toArray E (0, 0)) := hL.cells (g, E, cs) (by simp)
    by_cases hroom : n + s.size ≤ cap
    · have hr := Lib.run_append_room_string (P := P) w t u ty E i hT.und hu hi his g n cap cs.toArray hg s hroom (by simp; omega)
      refine ⟨_, _, [(g, E, cs.take n ++ Lib.strCells s ++ cs.drop (n + s.size))], hr, ⟨hlen, .inr ⟨g, cap, _, rfl, rfl, hroom, hcm, ?_, ?_⟩⟩, ?_⟩
      · simp only [List.length_append, List.length_take, List.length_drop, Lib.strCells_length]
        omega
      · have ht' : cs.take n = xs := by simpa using htake
        rw [ht', ← hlen]
        exact List.take_left
      · have hp : Loc w0 w ((g, E, cs) :: K) D := hL.perm (by simpa using (List.perm_append_comm (l₁ := [(g, E, cs)]) (l₂ := K)))
        exact (hp.put (w1 := w.setRow g (cs.take n ++ Lib.strCells s ++ cs.drop (n + s.size)).toArray) (f := fun c => (g, E, c) :: K) .head (cs.take n ++ Lib.strCells s ++ cs.drop (n + s.size)) rfl rfl rfl (by simp) (setRow_heap w g cs.toArray _ E _ hg) (fun k _ hk => setRow_other w g k _ hk)).perm (List.perm_append_comm)
    · have holds : ∀ j u, xs[j]? = some u → w.cell? ((⟨g, 0, none⟩ : Addr).add j) = some u := fun j u hj => by
        rw [add_addr, Nat.zero_add]
        have : cs[j]? = some u := by
          rw [← htake] at hj
          rw [List.getElem?_take] at hj
          split at hj
          · exact hj
          · cases hj
        simp [World.cell?, hg, this]
      have hr := Lib.run_append_grow_string (P := P) (ty := ty) w t u E i (.int .u8 0) hT.und hu hi hz1 ⟨g, 0, none⟩ n cap xs (by rw [his]; exact hx) holds s (by omega) (by omega) (by rw [hib]; exact growslice_fits (by omega) (by omega))
      have hge := grownCap_ge w (n + s.size) cap E
      have hcm2 : grownCap w (n + s.size) cap E ≤ maxLen := grownCap_le_maxLen w (n + s.size) cap E (by omega)
      have hbx := (hLK.drew).box E ((xs.toArray ++ (Lib.strCells s).toArray ++ Builtin.zeroCells (Value.int .u8 0).cells (grownCap w (n + s.size) cap E - (n + s.size))).toList)
      refine ⟨_, _, [(w.heap.size, E, (xs.toArray ++ (Lib.strCells s).toArray ++ Builtin.zeroCells (Value.int .u8 0).cells (grownCap w (n + s.size) cap E - (n + s.size))).toList)], hr, ⟨hlen, .inr ⟨w.heap.size, _, _, rfl, rfl, hge, hcm2, ?_, ?_⟩⟩, ?_⟩
      · have hz2 : (Value.int IntKind.u8 0).cells.size = 1 := rfl
        simp only [Array.length_toList, Array.size_append, List.size_toArray, size_zeroCells, hz2, hxl, Lib.strCells_length]
        omega
      · simp only [Array.toList_append, List.append_assoc]
        rw [← List.append_assoc, ← hlen]
        exact List.take_left
      · rw [Array.toArray_toList] at hbx
        exact hbx.perm (List.perm_append_comm)
theorem loc_appendStr {s x : Operand} {E t u : TypeId} {K R : List LBlk} {v : Value} {n : Nat} {xs : List Value} (hR : RowL E 1 v n xs R) (hL : Loc w0 w L D) (hK : L = K ++ R)
    (hw : Region.wanted ⟨d, .call { callee := .builtin .append, args := #[s, x], argTypes := #[t, u] }, ty, pos, after, g⟩ (yielded ops a.tmps) = true) (hs : a.eval s = v) (hT : SliceT P t E [.int .u8 0]) (hu : P.underlying u = some .string) (hby : BytesT P E 1) (hz0 : (P.info? E).bind (·.zero) = some (.int .u8 0))
    {str : ByteArray} (hx : a.eval x = .string str) (hbytes : n + str.size ≤ 1000000000)
    (h : ∀ v' R' w', RowL E 1 v' (n + str.size) (xs ++ Lib.strCells str) R' → Loc w0 w' (K ++ R') D → wpList P ops Q rest (a.put d v') w') :
    wpList P ops Q (⟨d, .call { callee := .builtin .append, args := #[s, x], argTypes := #[t, u] }, ty, pos, after, g⟩ :: rest) a w := by
  subst hK
  obtain ⟨v', w', R', h2, h3, h4⟩ := run_append_str (P := P) (ty := ty) hL hT hu hby hz0 hR str hbytes
  refine wpList_val (o := ⟨d, .call { callee := .builtin .append, args := #[s, x], argTypes := #[t, u] }, ty, pos, after, g⟩) (v := v') (w' := w') hw ?_ (h v' R' w' h3 h4)
  unfold execOp
  simp only [resolve, invoke, builtin, Sem.run_bind, Sem.run_pure, Result.andThen_ok, List.map_toArray, List.map_cons, List.map_nil, hs, hx]
  rw [h2]; rfl
end

set_option maxRecDepth 100000 in
set_option maxHeartbeats 1600000 in
theorem copyCheck_any (w0 : World) (b : Nat) (pt v : Value) (hpt : pt = .pointer none ∨ pt = .pointer (some ⟨b, 0, none⟩)) (K : List LBlk) (D : List Datum) (w : World) (hL : Loc w0 w ((b, 58, [pt, v]) :: K) D) :
    Calls Tryd.prog 49 #[.pointer (some ⟨b, 0, none⟩)] w fun e w' => e = .returned (.tuple #[]) ∧ Loc w0 w' ((b, 58, [.pointer (some ⟨b, 0, none⟩), v]) :: K) D := by
  have hsh : w.shape? b = some (58, 2) := by simp [World.shape?, hL.heap InL.head]
  rcases hpt with rfl | rfl
  · obtain ⟨j, hj, hjs⟩ := Option.map_eq_some_iff.1 strExtra.sizeBuilder
    go_enter Tryd.func49, Tryd.ntmps49
    go_wp2_with (first | (refine loc_load (b := b) hL want0 rfl InL.head (Reads.cell tBld rfl) ?_))
    rw [Lib.run_to_unsafe w ⟨b, 0, none⟩ Tryd.underlying55 Tryd.underlying88 hj (by rw [hjs]; decide) hsh (Nat.zero_lt_succ 1)]
    simp only [Result.andThen]
    rw [Oper.upon_value]
    go_wp2
    rw [run_callFunc_extern Tryd.func57 (by kernel_rfl) (by kernel_rfl) (by kernel_rfl) (e := Extern.AbiNoEscape.same) (by kernel_rfl)]
    rw [Lib.run_noEscape]
    simp only [Result.andThen]
    rw [Oper.upon_value]
    go_wp2
    rw [Lib.run_from_unsafe w ⟨b, 0, none⟩ Tryd.underlying88 Tryd.underlying55 hj hsh strExtra.liesBuilder]
    simp only [Result.andThen]
    rw [Oper.upon_value]
    go_wp2_with (first | (refine loc_store (b := b) (vs := [.pointer (some ⟨b, 0, none⟩)]) (cs' := [.pointer (some ⟨b, 0, none⟩), v]) hL want0 rfl InL.head rfl tBld.sz rfl (by simp) rfl ?_; clear hL; intro w1 hL))
    go_end0
    exact ⟨rfl, hL⟩
  · obtain ⟨j, hj, hjs⟩ := Option.map_eq_some_iff.1 strExtra.sizeBuilder
    go_enter Tryd.func49, Tryd.ntmps49
    go_wp2_with (first | (refine loc_load (b := b) hL want0 rfl InL.head (Reads.cell tBld rfl) ?_))
    rw [Lib.run_neq_ptr_same w _ Tryd.underlying55 hj]
    go_wp2
    go_end0
    exact ⟨rfl, hL⟩

/-- The builder b holds the bytes xs; R is its row. -/
structure BldR (w0 w : World) (b : Nat) (bs : List UInt8) (K : List LBlk) (D : List Datum) : Prop where
  ex : ∃ (pt : Value) (p : Option Addr) (cap : Nat) (R : List LBlk), (pt = .pointer none ∨ pt = .pointer (some ⟨b, 0, none⟩)) ∧ RowL 5 1 (.slice p bs.length cap) bs.length (bs.map (fun x => Value.int .u8 (x.toNat : Int))) R ∧ Loc w0 w ((b, 58, [pt, .slice p bs.length cap]) :: (K ++ R)) D
theorem RowL.slice {E : TypeId} {z : Nat} {v : Value} {n : Nat} {xs : List Value} {R : List LBlk} (h : RowL E z v n xs R) : ∃ p cap, v = .slice p n cap := by
  obtain ⟨p, cap, h1, _⟩ := RowS.ofL h
  exact ⟨p, cap, h1⟩
set_option maxRecDepth 100000 in
set_option maxHeartbeats 1600000 in
theorem writeStr_any (w0 : World) (b : Nat) (bs : List UInt8) (s : ByteArray) (K : List LBlk) (D : List Datum) (hn : bs.length + s.size ≤ 1000000) (w : World) (hB : BldR w0 w b bs K D) :
    Calls Tryd.prog 24 #[.pointer (some ⟨b, 0, none⟩), .string s] w fun e w' => e = .returned (.tuple #[.int .i64 s.size, .nilIface]) ∧ BldR w0 w' b (bs ++ s.data.toList) K D := by
  obtain ⟨pt, p, cap, R, hpt, hR, hL⟩ := hB.ex
  have HR := Lib.hid hR
  have HPT := Lib.hid hpt
  clear hB hR hpt
  have hl : (bs ++ s.data.toList).length = bs.length + s.size := by rw [List.length_append, Array.length_toList]; rfl
  have HX := Lib.hid (show (bs ++ s.data.toList).map (fun x => Value.int .u8 (x.toNat : Int)) = bs.map (fun x => Value.int .u8 (x.toNat : Int)) ++ Lib.strCells s from List.map_append)
  generalize bs.length = n at *
  have HLN := Lib.hid hl
  clear hl
  go_enter Tryd.func24, Tryd.ntmps24
  go_wp2_with (first | (go_at_call 49; refine (copyCheck_any _ b pt _ HPT.out _ _ _ hL).mono ?_; rintro e w3 ⟨rfl, hL2⟩; replace hL := hL2; clear hL2; dsimp only) | (refine loc_load (b := b) hL want0 rfl InL.head (Reads.cell tByts rfl) ?_) | (refine loc_appendStr (K := (b, _, _) :: K) (R := R) HR.out hL rfl want0 rfl sByts (by kernel_rfl) bByte zByte rfl (by omega) ?_; clear hL; intro v5 R5 w5 hR5 hL; obtain ⟨p5, cap5, rfl⟩ := hR5.slice; have HR5 := Lib.hid hR5; clear hR5; simp only [List.cons_append] at hL) | (refine loc_store (b := b) (vs := [.slice p5 (n + s.size) cap5]) (cs' := [.pointer (some ⟨b, 0, none⟩), .slice p5 (n + s.size) cap5]) hL want0 rfl InL.head rfl tByts.sz rfl (by simp) rfl ?_; clear hL; intro w1 hL))
  (try simp only [Exit.inBlock, Exit.then]); refine rt2 ?_
  refine ⟨rfl, ⟨.pointer (some ⟨b, 0, none⟩), p5, cap5, R5, .inr rfl, ?_, ?_⟩⟩
  · rw [HX.out, HLN.out]; exact HR5.out
  · rw [HLN.out]; exact hL
theorem split_app {R : List LBlk} : ∀ K : List LBlk, Split R (K ++ R) K
  | [] => .nil
  | x :: K => .cons x (split_app K)
set_option maxRecDepth 100000 in
set_option maxHeartbeats 1600000 in
theorem writeByte_any (w0 : World) (b : Nat) (bs : List UInt8) (ci : Int) (c : UInt8) (hc : ci = (c.toNat : Int)) (K : List LBlk) (D : List Datum) (hn : bs.length + 1 ≤ 1000000) (w : World) (hB : BldR w0 w b bs K D) :
    Calls Tryd.prog 28 #[.pointer (some ⟨b, 0, none⟩), .int .u8 ci] w fun e w' => e = .returned .nilIface ∧ BldR w0 w' b (bs ++ [c]) K D := by
  obtain ⟨pt, p, cap, R, hpt, hR, hL⟩ := hB.ex
  have HR := Lib.hid hR
  have HPT := Lib.hid hpt
  clear hB hR hpt
  have hl : (bs ++ [c]).length = bs.length + 1 := by simp
  have HX := Lib.hid (show (bs ++ [c]).map (fun x => Value.int .u8 (x.toNat : Int)) = bs.map (fun x => Value.int .u8 (x.toNat : Int)) ++ [.int .u8 ci] by rw [List.map_append, hc]; rfl)
  generalize bs.length = n at *
  have HLN := Lib.hid hl
  clear hl hc
  go_enter Tryd.func28, Tryd.ntmps28
  go_wp2_with (first | (go_at_call 49; refine (copyCheck_any _ b pt _ HPT.out _ _ _ hL).mono ?_; rintro e w3 ⟨rfl, hL2⟩; replace hL := hL2; clear hL2; dsimp only) | (refine loc_load (b := b) hL want0 rfl InL.head (Reads.cell tByts rfl) ?_) | (refine loc_buildSlice (cs := [.int .u8 ci]) hL want0 sByts (by simp) (by simp) rfl rfl rfl ?_; clear hL; intro bl w1 hL) | (refine loc_append (news := [.int .u8 ci]) (ad := ⟨bl, 0, none⟩) (m := 1) (c := 1) HR.out hL want0 rfl (.cons _ (.cons _ (split_app K))) sByts bByte (by simp) rfl (fun j u hj => by rw [add_addr, Nat.zero_add]; exact heap_cell (hL.heap (by repeat (first | exact InL.head | apply InL.tail))) j hj) rfl (by simp [Value.oneCell']) (by unfold maxLen; omega) (by omega) ?_; clear hL; intro v5 R5 w5 hR5 hL; obtain ⟨p5, cap5, rfl⟩ := hR5.slice; have HR5 := Lib.hid hR5; clear hR5; simp only [List.cons_append] at hL) | (refine loc_store (b := b) (vs := [.slice p5 (n + 1) cap5]) (cs' := [.pointer (some ⟨b, 0, none⟩), .slice p5 (n + 1) cap5]) hL want0 rfl (by repeat (first | exact InL.head | apply InL.tail)) rfl tByts.sz rfl (by simp) rfl ?_; clear hL; intro w1 hL))
  (try simp only [Exit.inBlock, Exit.then]); refine rt1 ?_
  refine ⟨rfl, ⟨.pointer (some ⟨b, 0, none⟩), p5, cap5, R5, .inr rfl, ?_, ?_⟩⟩
  · rw [HX.out, HLN.out]; exact HR5.out
  · rw [HLN.out]; exact hL.drop (List.sublist_cons_self _ _) (fun _ h => h)
/-- The builder's text. -/
theorem string_any (w0 : World) (b : Nat) (bs : List UInt8) (K : List LBlk) (D : List Datum) (w : World) (hB : BldR w0 w b bs K D) :
    Calls Tryd.prog 29 #[.pointer (some ⟨b, 0, none⟩)] w fun e w' => e = .returned (strV bs) ∧ Below w0.heap.size w0 w' := by
  obtain ⟨pt, p, cap, R, hpt, hR, hL⟩ := hB.ex
  have hb := hL.below
  have hat : Lib.BuilderAt 58 5 w0.heap.size b pt (Lib.byteCells bs) w := by
    have hbl : (Lib.byteCells bs).length = bs.length := by simp [Lib.byteCells]
    refine ⟨hL.ids _ List.mem_cons_self, .slice p bs.length cap, hL.heap InL.head, ?_, ?_⟩
    · rw [hbl]
      obtain ⟨h1, h2⟩ := hR
      refine ⟨h1, ?_⟩
      rcases h2 with ⟨h3, h4, _⟩ | ⟨g, cap', cs, h3, h4, h5, h6, h7, h8⟩
      · exact .inl ⟨h3, h4⟩
      · subst h4
        have hm : (g, 5, cs) ∈ (b, 58, [pt, Value.slice p bs.length cap]) :: (K ++ [(g, 5, cs)]) := List.mem_cons_of_mem _ (List.mem_append_right _ List.mem_cons_self)
        exact .inr ⟨g, cap', cs.toArray, h3, hL.ids _ hm, hL.cells _ hm, h5, h6, by simpa using h7, h8⟩
    · obtain ⟨h1, h2⟩ := hR
      rcases h2 with ⟨h3, h4, _⟩ | ⟨g, cap', cs, h3, h4, _⟩
      · rw [h3]; simp [Value.ownBlock]
      · subst h4
        rw [h3]
        have hn := hL.nodup
        simp only [List.map_cons, List.nodup_cons] at hn
        simp only [Value.ownBlock, ne_eq, Option.some.injEq]
        rintro rfl
        exact hn.1 (by simp)
  have his : Lib.IsBuilder 58 5 w0.heap.size b (Lib.byteCells bs) w := by
    rcases hpt with rfl | rfl
    · exact .inl hat
    · exact .inr hat
  refine (Any.Builder_String_any strLays strExtra w0.heap.size b bs w his hL.size).mono ?_
  rintro e w' ⟨rfl, hb2⟩
  exact ⟨rfl, hb.trans hb2⟩
end Go.Proofs.YtdghcnopoanieaaDoor
