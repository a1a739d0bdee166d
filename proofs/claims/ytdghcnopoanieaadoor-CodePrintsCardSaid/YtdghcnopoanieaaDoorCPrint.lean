/- The walk over the package code's Print. Conditions: the library's variables; the instructions lie in memory. -/
import Derived.Test.YtdghcnopoanieaaDoorBld
import Derived.Test.YtdghcnopoanieaaDoorRPrint2
import Derived.Test.YtdghcnopoanieaaDoorVal
set_option linter.unusedSimpArgs false
set_option linter.unusedVariables false
namespace Go.Proofs.YtdghcnopoanieaaDoor
open Go.RowKit

theorem look_word {k : Int} (h : betw k 1 19 = true) : shapeL.find? (fun x => k == x.1) = some (k, .agg #[.string (wordS k), .string (namesS k)]) := by
  rcases kinds_of h with rfl | rfl | rfl | rfl | rfl | rfl | rfl | rfl | rfl | rfl | rfl | rfl | rfl | rfl | rfl | rfl | rfl | rfl | rfl <;> rfl
theorem run_lookup_map1 {P : Program} {w : World} {T K V : TypeId} (hT : MapT P T K V) {b : Nat} {l : List (Int × Value)} {k : Int} {v : Value} (h : w.heap[b]? = some (.map (rowsOf l).toArray l.length)) (hv : l.find? (fun x => k == x.1) = some (k, v)) :
    (Instr.lookup T (.map (some b)) (.int .i64 k) false).run P w = .ok v w := by
  have h1 := findNow_rows k l 0 0
  have hc : ∀ e, (Instr.checkKey e 10000 K (.int .i64 k)).run P w = .ok () w := fun e => run_checkKey hT e 9999 k
  have hfind : (((l.zipIdx 0).find? fun x => k == x.1.1).map fun x => x.1) = l.find? (fun x => k == x.1) := by
    have : ∀ (l : List (Int × Value)) (i : Nat), (((l.zipIdx i).find? fun x => k == x.1.1).map fun x => x.1) = l.find? (fun x => k == x.1) := by
      intro l
      induction l with
      | nil => intro i; rfl
      | cons x l ih =>
        intro i
        simp only [List.zipIdx_cons, List.find?_cons]
        cases (k == x.1) with
        | true => rfl
        | false => exact ih (i + 1)
    exact this l 0
  have hk : (Instr.findKey K (.int .i64 k) (rowsOf l)).run P w = .ok (((l.zipIdx 0).find? fun x => k == x.1.1).map fun x => (x.2, x.1.2)) w := by
    simp only [Instr.findKey, Sem.run_bind, run_underlying hT.key, Result.andThen_ok, rowsOf, h1]
    simp
  simp only [Instr.lookup, Sem.run_bind, run_underlying hT.und, Result.andThen_ok, run_getObj_map h, Sem.run_pure, hc, hk]
  rw [hv] at hfind
  cases hz : (l.zipIdx 0).find? fun x => k == x.1.1 with
  | none => rw [hz] at hfind; cases hfind
  | some x =>
    rw [hz] at hfind
    have := Option.some.inj hfind
    simp [this]
theorem map_lookup1 {P : Program} {ops : Array Oper} {Q : Exit → Act → World → Prop} {a : Act} {w : World} {rest : List Oper} {d : Option Tmp} {ty : TypeId} {pos : String} {after : Array Edge}
    {T K V : TypeId} {v : Value} {b : Nat} {l : List (Int × Value)} {kk : Int} {x k : Operand} (hT : MapT P T K V) (h : w.heap[b]? = some (.map (rowsOf l).toArray l.length))
    (hv : l.find? (fun x => kk == x.1) = some (kk, v)) (hx : a.eval x = .map (some b)) (hk : a.eval k = .int .i64 kk)
    (hQ : wpList P ops Q rest (a.put d v) w) : wpList P ops Q (⟨d, .lookup T x k false, ty, pos, after, none⟩ :: rest) a w :=
  wpList_val (o := ⟨d, .lookup T x k false, ty, pos, after, none⟩) (w' := w) rfl (by simp only [execOp, hx, hk]; rw [Sem.run_bind, run_lookup_map1 hT h hv]; rfl) hQ
def PtOk (b : Nat) (pt : Value) : Prop := pt = .pointer none ∨ pt = .pointer (some ⟨b, 0, none⟩)
theorem BldR.of {w0 w : World} {b : Nat} {bs : Byt} {K L : List LBlk} {D : List Datum} {pt : Value} {p : Option Addr} {cap : Nat} {R : List LBlk} (hpt : PtOk b pt)
    (hR : RowL 5 1 (.slice p bs.length cap) bs.length (bs.map (fun x => Value.int .u8 (x.toNat : Int))) R) (hL : Loc w0 w L D) (hp : ((b, 58, [pt, .slice p bs.length cap]) :: (K ++ R)).Perm L) : BldR w0 w b bs K D :=
  ⟨pt, p, cap, R, hpt, hR, hL.perm hp⟩
theorem BldR.start {w0 w : World} {b : Nat} {K : List LBlk} {D : List Datum} (hL : Loc w0 w ((b, 58, [.pointer none, .slice none 0 0]) :: K) D) : BldR w0 w b [] K D :=
  ⟨.pointer none, none, 0, [], .inl rfl, RowL.nil, by simpa using hL⟩
theorem BldR.less {w0 w : World} {b : Nat} {bs : Byt} {K K' : List LBlk} {D : List Datum} (h : BldR w0 w b bs K D) (hk : K'.Sublist K) : BldR w0 w b bs K' D := by
  obtain ⟨pt, p, cap, R, h1, h2, h3⟩ := h.ex
  exact ⟨pt, p, cap, R, h1, h2, h3.drop (.cons_cons _ (hk.append (List.Sublist.refl R))) (fun _ h => h)⟩

theorem lineT_le (i : Ins) (j : Nat) : (lineT i j).length ≤ (lineD i).length := by
  have h : (argsD i).flatMap (fun a => 32 :: a) = ((argsD i).take j).flatMap (fun a => 32 :: a) ++ ((argsD i).drop j).flatMap (fun a => 32 :: a) := by
    rw [← List.flatMap_append, List.take_append_drop]
  rw [lineD, glue_flat, h]
  unfold lineT
  simp only [List.length_append]
  omega
set_option maxRecDepth 100000 in
set_option maxHeartbeats 800000 in
theorem print_any (v f : Int) (pc : Option Addr) (cap : Nat) (is : List Ins) (hz : checkL v f is = 0) (w : World) (hg : Glob w) (hc : CodeAt w ⟨v, f, pc, is.length, cap⟩ (insAt is)) :
    Calls Tryd.prog 10 #[Pg.v ⟨v, f, pc, is.length, cap⟩] w fun e w' => e = .returned (.tuple #[strV (printD v f is), .int .i64 0]) ∧ Below w.heap.size w w' := by
  obtain ⟨hr, -⟩ := right_pg hz
  have HR := Lib.hid hr
  have HPD := Lib.hid (printD_eq v f is)
  obtain ⟨⟨v1, v2⟩, ⟨f1, f2⟩, hfew, heach⟩ := hr
  have HEA := Lib.hid heach
  have HCK := Lib.hid (fun w' (hb' : Below w.heap.size w w') => codeCheck_any ⟨v, f, pc, is.length, cap⟩ (insAt is) w' (hc.grow hb') (by show is.length ≤ _; omega))
  rw [show checkProg ⟨v, f, pc, is.length, cap⟩ (insAt is) = 0 from hz] at HCK
  obtain ⟨b, o, hpc, hcr⟩ := hc.reads
  dsimp only at hpc hcr
  have HP := Lib.hid hpc
  have HC := Lib.hid hcr
  have HG := Lib.hid hg
  have H1 := Lib.hid (fun w' (hb' : Below w.heap.size w w') => itoaZ v (by omega) (by omega) w' (HG.out.grow hb'))
  have H2 := Lib.hid (fun w' (hb' : Below w.heap.size w w') => itoaZ f (by omega) (by omega) w' (HG.out.grow hb'))
  have s1 : (digs v).size ≤ 21 := digs_size (by omega)
  have s2 : (digs f).size ≤ 21 := digs_size (by omega)
  have HSI := Lib.hid (show ∀ k, k ≤ is.length → (printT v f (is.take k)).length ≤ 89 + 89 * 60 from fun k hk => by
    have := printT_len HR.out.small HR.out.fsmall (is.take k) (fun i hi => HR.out.each i (List.mem_of_mem_take hi))
    rw [List.length_take] at this
    omega)
  clear hc hpc hcr heach hz hg
  generalize hn : is.length = n at *
  have HN := Lib.hid hn
  clear hn
  rw [show (⟨(Lib.itoa v).toArray⟩ : ByteArray) = digs v from rfl] at H1
  rw [show (⟨(Lib.itoa f).toArray⟩ : ByteArray) = digs f from rfl] at H2
  have hL := Loc.start w
  go_enter Tryd.func10, Tryd.ntmps10
  go_step
  go_step
  go_step
  ((with_reducible refine lbx hL ?_); clear hL; intro b1 w1 hL)
  go_upto_region 5 with (first | (go_at_call 15; refine (HCK.out _ hL.below).mono ?_; rintro e w1 ⟨rfl, hb⟩; replace hL := hL.grow hb; clear hb; dsimp only) | ((with_reducible refine loc_alloc (T := 58) hL want0 zBld ?_); clear hL; intro b5 w1 hL) | (with_reducible first | refine lld hL ?_ | ((first | refine lbx hL ?_ | refine lal hL ?_ | refine lbs hL ?_); clear hL; intro bl w1 hL) | (refine lst' hL ?_; clear hL; intro w1 hL)))
  refine draw_begin [15, 16, 17, 18, 19, 20, 21, 22, 23, 24] ?_
  refine dv0 ?_
  refine dv1 0 ?_
  apply draw_val
  · intro g w hb hdep; replace hL := hL.grow hb; have d1 := yv hdep 1; clear hdep; simp only [fillD, fLa, fLb, sTa, sTb]; simp only [d1]
    go_wp2_with (go_at_call 25; (first | ((with_reducible refine (H1.out _ hL.below).mono ?_); rintro e w3 ⟨rfl, hb3⟩; dsimp only) | ((with_reducible refine (H2.out _ hL.below).mono ?_); rintro e w3 ⟨rfl, hb3⟩; dsimp only)))
    exact ⟨rfl, _, rfl, hb3, rfl⟩
  simp only [apN, apC]
  refine dv1 2 ?_
  refine dv1 3 ?_
  refine dv0 ?_
  refine dv1 5 ?_
  apply draw_val
  · intro g w hb hdep; replace hL := hL.grow hb; have d6 := yv hdep 6; clear hdep; simp only [fillD, fLa, fLb, sTa, sTb]; simp only [d6]
    go_wp2_with (go_at_call 25; (first | ((with_reducible refine (H1.out _ hL.below).mono ?_); rintro e w3 ⟨rfl, hb3⟩; dsimp only) | ((with_reducible refine (H2.out _ hL.below).mono ?_); rintro e w3 ⟨rfl, hb3⟩; dsimp only)))
    exact ⟨rfl, _, rfl, hb3, rfl⟩
  simp only [apN, apC]
  refine dv2 4 7 ?_
  refine dv1 8 ?_
  refine dnd hL ?_
  clear hL; intro w2 hL; simp only [fillX, sTa, sTb]
  have hx5 : (((({ data := #[118, 97, 114, 115, 32] } : ByteArray) ++ digs v) ++ { data := #[32, 102, 105, 101, 108, 100, 115, 32] }) ++ digs f ++ { data := #[10] }).data.toList = printT v f (is.take 0) := by
    simp [cat_list, printT, headT, glue, varsW, fieldsW, digs]
  have hx6 : ([] : Byt).length + (((({ data := #[118, 97, 114, 115, 32] } : ByteArray) ++ digs v) ++ { data := #[32, 102, 105, 101, 108, 100, 115, 32] }) ++ digs f ++ { data := #[10] }).size ≤ 1000000 := by
    have := HSI.out 0 (Nat.zero_le _)
    rw [← hx5, Array.length_toList] at this
    exact Nat.le_trans (Nat.le_of_eq (Nat.zero_add _)) (Nat.le_trans this (by decide))
  go_wp2_with (first | (go_at_call 24; refine (writeStr_any w b5 [] _ [(b1, 24, [.int .i64 v, .int .i64 f, .slice pc n cap])] [] hx6 _ (BldR.start hL)).mono ?_; rintro e w3 ⟨rfl, hB⟩; clear hL; rw [List.nil_append, hx5] at hB; obtain ⟨pt, p5, c5, R5, hpt, hR5, hL⟩ := hB.ex; have HPT : PtOk b5 pt := hpt; have HR5 := Lib.hid hR5; have HB := Lib.hid hB; clear hpt hR5 hB; simp only [List.cons_append, List.nil_append] at hL; dsimp only) | (with_reducible first | refine lld hL ?_ | ((first | refine lbx hL ?_ | refine lal hL ?_ | refine lbs hL ?_); clear hL; intro bl w1 hL) | (refine lst' hL ?_; clear hL; intro w1 hL)))
  clear hx5 hx6
  go_loopw [29] (fun c wr => ∃ k : Nat, k ≤ n ∧ c = .int .i64 k ∧ BldR w wr b5 (printT v f (is.take k)) [(b1, 24, [.int .i64 v, .int .i64 f, .slice pc n cap])] []) (fun c _ => n - (intOf c).toNat)
  case atStart => exact ⟨0, Nat.zero_le _, rfl, HB.out⟩
  case round =>
    clear hL HB HPT HR5
    obtain ⟨k, hk, rfl, hB⟩ := hrel
    have hln := HSI.out k hk
    obtain ⟨pt, p5, c5, R5, hpt, hR5, hL⟩ := hB.ex
    have HPT : PtOk b5 pt := hpt
    have HR5 := Lib.hid hR5
    have HB := Lib.hid hB
    clear hpt hR5 hB
    simp only [List.cons_append, List.nil_append] at hL
    by_cases hlt : k < n
    · obtain ⟨hmem, htake⟩ := insAt_mem (k := k) (is := is) (by rw [HN.out]; exact hlt)
      have HTK := Lib.hid htake
      have HRD := Lib.hid (HC.out k hlt)
      have HPC := Lib.hid (HP.out (by omega))
      obtain ⟨hik, hfi⟩ := HEA.out _ hmem
      clear hmem htake
      generalize insAt is k = ik at HTK HRD hik hfi
      have HLW := Lib.hid (look_word hik)
      have HIK := Lib.hid hik
      have hws := wordS_size ik.kind hik
      have hlen1 := lineD_len hik hfi
      have HFI := Lib.hid hfi
      clear hik hfi
      obtain rfl := HPC.out
      clear HPC HP
      have HLT := Lib.hid hlt
      have HLN1 := Lib.hid hln
      have HWS := Lib.hid hws
      have HLE := Lib.hid hlen1
      go_upto_region 9 with (first | (refine loc_loadB HRD.out hL rfl rfl ?_) | ((with_reducible refine lal hL ?_); clear hL; intro b7 w1 hL) | (with_reducible first | refine lld hL ?_ | ((first | refine lbx hL ?_ | refine lal hL ?_ | refine lbs hL ?_); clear hL; intro bl w1 hL) | (refine lst' hL ?_; clear hL; intro w1 hL)))
      clear hlt hln hws hlen1
      refine draw_begin [33, 34, 35, 36, 8] ?_
      refine draw_next (MapR w1.heap.size (rowsOf shapeL).toArray shapeL.length) MapR.stable ?_ ?_
      · intro g w hb hdep; replace hL := hL.grow hb; clear hdep; simp only [fillD, fLa, fLb, sTa, sTb]
        go_wp2_with (go_at_call 26; refine (shapes_any _).mono ?_; rintro e w3 ⟨b, rfl, hge, hm, hb3⟩; dsimp only)
        exact ⟨rfl, _, rfl, hb3, b, Nat.le_trans hb.size hge, rfl, hm⟩
      simp only [apN, apC]
      refine dv0 ?_
      refine dv1 1 ?_
      apply draw_val
      · intro g w hb hdep; replace hL := hL.grow hb; have d0 : (MapR w1.heap.size (rowsOf shapeL).toArray shapeL.length) (g 33) w := yr hdep 0; obtain ⟨bm, em, d0, fm⟩ := d0; have d2 := yv hdep 2; clear hdep; simp only [fillD, fLa, fLb, sTa, sTb]; simp only [d0, d2]
        refine map_lookup1 (v := .agg #[.string (wordS ik.kind), .string (namesS ik.kind)]) mShapes fm HLW.out rfl rfl ?_
        exact cY
      simp only [apN, apC]
      apply draw_ptr
      · intro g w hb hdep; replace hL := hL.grow hb; clear hdep; simp only [fillD, fLa, fLb, sTa, sTb]
        go_wp2
        exact ⟨rfl, _, rfl, (Below.refl _ _).alloc (Nat.le_refl _) _, _, hb.size, rfl, heap_new _ _⟩
      simp only [apN, apC]
      refine draw_end hL (by kernel_rfl) (by kernel_rfl) ?_
      intro g w2 hb hR; simp only [List.length_cons, List.length_nil, Nat.reduceAdd] at hR
      have e0 : (MapR w1.heap.size (rowsOf shapeL).toArray shapeL.length) (g 33) w2 := yr hR 0
      obtain ⟨bm, em, e0, fm⟩ := e0
      have e1 := yv hR 1
      have e2 := yv hR 2
      have e3 := yv hR 3
      obtain ⟨b4, p4, e4, c4⟩ := rat_ptr (allR_get hR (j := 4) (by decide)) rfl rfl
      clear hR; simp only [fillD, fLa, fLb, sTa, sTb]
      simp only [e0, e1, e2, e3, e4]
      clear e0 e1 e2 e3 e4
      replace hL := hL.gain hb p4 c4
      clear p4 c4
      clear hb
      have HLS := Lib.hid (fun j (hj : j < (namesS ik.kind).size) => lineT_succ (i := ik) (k := j) hj)
      have HLA := Lib.hid (lineT_all (i := ik) (k := (namesS ik.kind).size) rfl)
      have hl0 : printT v f (is.take k) ++ (wordS ik.kind).data.toList = printT v f (is.take k) ++ lineT ik 0 := by simp [lineT, wordOf]
      have hfew := names_few HIK.out
      have HGC := Lib.hid (fun c => getC_few HFI.out c)
      have HLL := Lib.hid (fun j => Nat.le_trans (lineT_le ik j) HLE.out)
      generalize hns : namesS ik.kind = ns at HLS HLA hfew hL ⊢
      have HNS := Lib.hid hns
      clear hns
      generalize hwd : wordS ik.kind = wd at hl0 hL HWS ⊢
      have HWD := Lib.hid hwd
      clear hwd
      go_wp2_with (first | (go_at_call 24; refine (writeStr_any w b5 (printT v f (is.take k)) _ [(b4, 65, [.string wd, .string ns]), (b7, 47, ik.cells), (b1, 24, [.int .i64 v, .int .i64 f, .slice (some ⟨b, o, none⟩) n cap])] [] (by have := HLN1.out; have := HWS.out; omega) _ (BldR.of HPT HR5.out hL (List.perm_middle (l₁ := [_, _])).symm)).mono ?_; rintro e w3 ⟨rfl, hB⟩; clear hL HB HPT HR5; rw [hl0] at hB; obtain ⟨pt, p5, c5, R5, hpt, hR5, hL⟩ := hB.ex; have HPT : PtOk b5 pt := hpt; have HR5 := Lib.hid hR5; have HB := Lib.hid hB; clear hpt hR5 hB; simp only [List.cons_append, List.nil_append] at hL; dsimp only) | (with_reducible first | refine lld hL ?_ | ((first | refine lbx hL ?_ | refine lal hL ?_ | refine lbs hL ?_); clear hL; intro bl w1 hL) | (refine lst' hL ?_; clear hL; intro w1 hL)))
      clear hl0
      go_loopw [43] (fun c wr => ∃ j : Nat, j ≤ ns.size ∧ c = .int .i64 j ∧ BldR w wr b5 (printT v f (is.take k) ++ lineT ik j) [(b4, 65, [.string wd, .string ns]), (b7, 47, ik.cells), (b1, 24, [.int .i64 v, .int .i64 f, .slice (some ⟨b, o, none⟩) n cap])] []) (fun c _ => ns.size - (intOf c).toNat)
      case atStart => exact ⟨0, Nat.zero_le _, rfl, HB.out⟩
      case round =>
        clear hL HB HPT HR5
        obtain ⟨j, hj, rfl, hB⟩ := hrel
        obtain ⟨pt, p5, c5, R5, hpt, hR5, hL⟩ := hB.ex
        have HPT : PtOk b5 pt := hpt
        have HR5 := Lib.hid hR5
        have HB := Lib.hid hB
        clear hpt hR5 hB
        simp only [List.cons_append, List.nil_append] at hL
        by_cases hlt : j < ns.size
        · have hgc := HGC.out ((ns[j]'hlt).toNat : Int)
          have H3 := Lib.hid (fun w' (hb' : Below w.heap.size w w') => itoaZ (getC ik ((ns[j]'hlt).toNat : Int)) (by omega) (by omega) w' (HG.out.grow hb'))
          have hil := itoa_len (n := getC ik ((ns[j]'hlt).toNat : Int)) (by omega) (by omega)
          have hnx : (printT v f (is.take k) ++ lineT ik j) ++ (({ data := #[32] } : ByteArray) ++ ⟨(Lib.itoa (getC ik ((ns[j]'hlt).toNat : Int))).toArray⟩).data.toList = printT v f (is.take k) ++ lineT ik (j + 1) := by
            rw [HLS.out j hlt, cat_list, List.append_assoc, letter_eq hlt]
            simp
          have hsz : (printT v f (is.take k) ++ lineT ik j).length + (({ data := #[32] } : ByteArray) ++ ⟨(Lib.itoa (getC ik ((ns[j]'hlt).toNat : Int))).toArray⟩).size ≤ 1000000 := by
            have h1 := HLN1.out
            have h2 := HLL.out j
            have h3 : (({ data := #[32] } : ByteArray) ++ ⟨(Lib.itoa (getC ik ((ns[j]'hlt).toNat : Int))).toArray⟩).size = 1 + (Lib.itoa (getC ik ((ns[j]'hlt).toNat : Int))).length := by
              rw [ByteArray.size_append]
              show 1 + (Lib.itoa _).toArray.size = _
              rw [List.size_toArray]
            rw [List.length_append, h3]
            omega
          have HNX := Lib.hid hnx
          have HSZ := Lib.hid hsz
          clear hnx hsz
          have s3 : (({ data := (Lib.itoa (getC ik ((ns[j]'hlt).toNat : Int))).toArray } : ByteArray)).size ≤ 21 := by show (Lib.itoa _).toArray.size ≤ 21; rw [List.size_toArray]; exact hil
          clear hgc
          go_wp2_with (first | (go_at_call 27; refine (part_any b7 _ _).mono ?_; rintro e w' ⟨rfl, rfl⟩; dsimp only) | (go_at_call 25; refine (H3.out _ hL.below).mono ?_; rintro e w3 ⟨rfl, hb⟩; replace hL := hL.grow hb; clear hb; dsimp only) | (go_at_call 24; refine (writeStr_any w b5 (printT v f (is.take k) ++ lineT ik j) _ [(b4, 65, [.string wd, .string ns]), (b7, 47, ik.cells), (b1, 24, [.int .i64 v, .int .i64 f, .slice (some ⟨b, o, none⟩) n cap])] [] HSZ.out _ (BldR.of HPT HR5.out hL (List.Perm.refl _))).mono ?_; rintro e w3 ⟨rfl, hB⟩; clear hL HB HPT HR5; rw [HNX.out] at hB; obtain ⟨pt, p5, c5, R5, hpt, hR5, hL⟩ := hB.ex; have HPT : PtOk b5 pt := hpt; have HR5 := Lib.hid hR5; have HB := Lib.hid hB; clear hpt hR5 hB; simp only [List.cons_append, List.nil_append] at hL; dsimp only) | (refine loc_load (b := b7) hL want0 rfl (by repeat (first | exact InL.head | apply InL.tail)) (Reads.cell tInt (getC_at ik _)) ?_) | (with_reducible first | refine lld hL ?_ | ((first | refine lbx hL ?_ | refine lal hL ?_ | refine lbs hL ?_); clear hL; intro bl w1 hL) | (refine lst' hL ?_; clear hL; intro w1 hL)))
          go_roundw
          case rel => exact ⟨j + 1, by omega, by go_num, HB.out⟩
          case measure => simp [intOf]; omega
        · obtain rfl : j = ns.size := by omega
          have hfin : (printT v f (is.take k) ++ lineT ik ns.size) ++ [10] = printT v f (is.take (k + 1)) := by
            rw [HTK.out, printT_snoc, HLA.out, List.append_assoc]
          have hsz : (printT v f (is.take k) ++ lineT ik ns.size).length + 1 ≤ 1000000 := by
            have h1 := HLN1.out
            have h2 := HLL.out ns.size
            rw [List.length_append]
            omega
          clear hlt
          go_wp2_with (first | (go_at_call 28; refine (writeByte_any w b5 (printT v f (is.take k) ++ lineT ik ns.size) 10 10 rfl [(b4, 65, [.string wd, .string ns]), (b7, 47, ik.cells), (b1, 24, [.int .i64 v, .int .i64 f, .slice (some ⟨b, o, none⟩) n cap])] [] hsz _ (BldR.of HPT HR5.out hL (List.Perm.refl _))).mono ?_; rintro e w3 ⟨rfl, hB⟩; clear hL HB HPT HR5; rw [hfin] at hB; obtain ⟨pt, p5, c5, R5, hpt, hR5, hL⟩ := hB.ex; have HPT : PtOk b5 pt := hpt; have HR5 := Lib.hid hR5; have HB := Lib.hid hB; clear hpt hR5 hB; simp only [List.cons_append, List.nil_append] at hL; dsimp only) | (with_reducible first | refine lld hL ?_ | ((first | refine lbx hL ?_ | refine lal hL ?_ | refine lbs hL ?_); clear hL; intro bl w1 hL) | (refine lst' hL ?_; clear hL; intro w1 hL)))
          have hlt2 := HLT.out
          go_roundw
          case rel => exact ⟨k + 1, by omega, by go_num, HB.out.less (.cons _ (.cons _ (List.Sublist.refl _)))⟩
          case measure => simp [intOf]; omega
    · obtain rfl : k = n := by omega
      go_wp2_with (first | (go_at_call 29; refine (string_any w b5 _ _ _ _ HB.out).mono ?_; rintro e w3 ⟨rfl, hb⟩; dsimp only) | (with_reducible first | refine lld hL ?_ | ((first | refine lbx hL ?_ | refine lal hL ?_ | refine lbs hL ?_); clear hL; intro bl w1 hL) | (refine lst' hL ?_; clear hL; intro w1 hL)))
      (try simp only [Exit.inBlock, Exit.then]); refine rt2 ?_
      exact ⟨by rw [HPD.out, ← HN.out, List.take_length]; rfl, hb⟩
end Go.Proofs.YtdghcnopoanieaaDoor
