/- The walk over the reference's PrintOf. Conditions: the program is right. -/
import Derived.Test.YtdghcnopoanieaaDoorRPrint
set_option linter.unusedSimpArgs false
set_option linter.unusedVariables false
namespace Go.Proofs.YtdghcnopoanieaaDoor
open Go.RowKit

theorem glue_len (c : UInt8) (m : Nat) : ∀ ps : List Byt, (∀ p ∈ ps, p.length ≤ m) → (glue c ps).length ≤ ps.length * (m + 1)
  | [], _ => by simp [glue]
  | [p], h => by have := h p List.mem_cons_self; simp [glue]; omega
  | p :: q :: qs, h => by
    have h1 := h p List.mem_cons_self
    have h2 := glue_len c m (q :: qs) (fun x hx => h x (List.mem_cons_of_mem _ hx))
    rw [glue_cons (by simp), List.length_append, List.length_cons]
    simp only [List.length_cons] at h2 ⊢
    have h3 : (qs.length + 1 + 1) * (m + 1) = (qs.length + 1) * (m + 1) + (m + 1) := by rw [Nat.add_mul]; omega
    omega
theorem getC_few {i : Ins} (hf : Few5 i) (c : Int) : -10000000000 ≤ getC i c ∧ getC i c ≤ 10000000000 := by
  obtain ⟨h1, h2, h3, h4, h5⟩ := hf
  unfold getC
  split; exact h1
  split; exact h2
  split; exact h3
  split; exact h5
  exact h4
theorem lineD_len {i : Ins} (hb : betw i.kind 1 19 = true) (hf : Few5 i) : (lineD i).length ≤ 88 := by
  have h := glue_len 32 21 (wordOf i.kind :: argsD i) (fun p hp => by
    rcases List.mem_cons.1 hp with rfl | hp
    · exact Nat.le_trans (word_len hb) (by decide)
    · obtain ⟨c, _, rfl⟩ := List.mem_map.1 hp
      have := getC_few hf (c.toNat : Int)
      exact itoa_len (by omega) (by omega))
  rw [List.length_cons, args_len] at h
  have := names_few hb
  have h2 : ((namesS i.kind).size + 1) * (21 + 1) ≤ 4 * 22 := Nat.mul_le_mul (by omega) (by omega)
  exact Nat.le_trans h (Nat.le_trans h2 (by decide))
theorem headT_len {v f : Int} (hv : 1 ≤ v ∧ v ≤ 8) (hf : 0 ≤ f ∧ f ≤ 3) : (headT v f).length ≤ 88 := by
  have h := glue_len 32 21 [varsW, Lib.itoa v, fieldsW, Lib.itoa f] (fun p hp => by
    simp only [List.mem_cons, List.not_mem_nil, or_false] at hp
    rcases hp with rfl | rfl | rfl | rfl
    · decide
    · exact itoa_len (by omega) (by omega)
    · decide
    · exact itoa_len (by omega) (by omega))
  exact h
theorem printT_len {v f : Int} (hv : 1 ≤ v ∧ v ≤ 8) (hf : 0 ≤ f ∧ f ≤ 3) : ∀ is : List Ins, (∀ i ∈ is, betw i.kind 1 19 = true ∧ Few5 i) → (printT v f is).length ≤ 89 + 89 * is.length := by
  intro is h
  have h1 := headT_len hv hf
  have h2 : ∀ is : List Ins, (∀ i ∈ is, betw i.kind 1 19 = true ∧ Few5 i) → (is.flatMap (fun i => lineD i ++ [10])).length ≤ 89 * is.length := by
    intro is
    induction is with
    | nil => simp
    | cons i is ih =>
      intro h
      have h3 := lineD_len (h i List.mem_cons_self).1 (h i List.mem_cons_self).2
      have h4 := ih (fun j hj => h j (List.mem_cons_of_mem _ hj))
      rw [List.flatMap_cons, List.length_append, List.length_append, List.length_cons, List.length_cons, List.length_nil]
      omega
  have h3 := h2 is h
  unfold printT
  rw [List.length_append, List.length_cons]
  omega
/-- A program that is right, as a list. -/
structure RightPg (v f : Int) (is : List Ins) : Prop where
  small : 1 ≤ v ∧ v ≤ 8
  fsmall : 0 ≤ f ∧ f ≤ 3
  few : is.length ≤ 60
  each : ∀ i ∈ is, betw i.kind 1 19 = true ∧ Few5 i
theorem right_pg {v f : Int} {is : List Ins} (h : checkL v f is = 0) : RightPg v f is ∧ ∀ i ∈ is, checkOne ⟨v, f, none, is.length, 0⟩ i = 0 := by
  obtain ⟨hs, hk⟩ := prog_right h
  have hone : ∀ i ∈ is, checkOne ⟨v, f, none, is.length, 0⟩ i = 0 := fun i hi => by
    obtain ⟨j, hj, rfl⟩ := List.mem_iff_getElem.1 hi
    have := hk j hj
    rwa [show insAt is j = is[j] by simp [insAt, hj]] at this
  obtain ⟨v1, v2, f1, f2, n1⟩ := hs
  exact ⟨⟨⟨v1, v2⟩, ⟨f1, f2⟩, n1, fun i hi => ⟨(checkOne_parts (hone i hi)).1, few5 ⟨v1, v2, f1, f2, n1⟩ (hone i hi)⟩⟩, hone⟩
theorem insAt_mem {is : List Ins} {k : Nat} (h : k < is.length) : insAt is k ∈ is ∧ is.take (k + 1) = is.take k ++ [insAt is k] := by
  have e : insAt is k = is[k] := by simp [insAt, h]
  rw [e]
  exact ⟨List.getElem_mem h, (List.take_append_getElem h).symm⟩

set_option maxRecDepth 100000 in
set_option maxHeartbeats 4000000 in
theorem rPrint_any (v f : Int) (pc : Option Addr) (cap : Nat) (is : List Ins) (hr : RightPg v f is) (w : World) (hc : CodeAt w ⟨v, f, pc, is.length, cap⟩ (insAt is)) :
    Calls Tryd.prog 13 #[Pg.v ⟨v, f, pc, is.length, cap⟩] w fun e w' => e = .returned (strV (printD v f is)) ∧ Below w.heap.size w w' := by
  have HR := Lib.hid hr
  have HPD := Lib.hid (printD_eq v f is)
  obtain ⟨⟨v1, v2⟩, ⟨f1, f2⟩, hfew, heach⟩ := hr
  have HEA := Lib.hid heach
  clear heach
  obtain ⟨b, o, hpc, hcr⟩ := hc.reads
  dsimp only at hpc hcr
  have HP := Lib.hid hpc
  have HC := Lib.hid hcr
  clear hc hpc hcr
  have H1 := Lib.hid (fun w' => rDigits_any v (by omega) w')
  have H2 := Lib.hid (fun w' => rDigits_any f (by omega) w')
  have s1 : (digs v).size ≤ 21 := digs_size (by omega)
  have s2 : (digs f).size ≤ 21 := digs_size (by omega)
  have HSI := Lib.hid (show ∀ k, k ≤ is.length → (printT v f (is.take k)).length ≤ 89 + 89 * 60 from fun k hk => by
    have := printT_len HR.out.small HR.out.fsmall (is.take k) (fun i hi => HR.out.each i (List.mem_of_mem_take hi))
    rw [List.length_take] at this
    omega)
  generalize hn : is.length = n at *
  have HN := Lib.hid hn
  clear hn
  have hL := Loc.start w
  go_enter Tryd.func13, Tryd.ntmps13
  go_step
  go_step
  go_step
  ((with_reducible refine lbx hL ?_); clear hL; intro b1 w1 hL)
  go_upto_region 1 with (first | (with_reducible first | refine lld hL ?_ | ((first | refine lbx hL ?_ | refine lal hL ?_ | refine lbs hL ?_); clear hL; intro bl w1 hL) | (refine lst' hL ?_; clear hL; intro w1 hL)))
  refine draw_begin [5, 6, 7, 8, 9, 10, 11, 12, 13, 14, 3] ?_
  refine dv0 ?_
  refine dv1 0 ?_
  apply draw_val
  · intro g w hb hdep; replace hL := hL.grow hb; have d1 := yv hdep 1; clear hdep; simp only [fillD, fLa, fLb, sTa, sTb]; simp only [d1]
    go_wp2_with (go_at_call 35; (first | ((with_reducible refine (H1.out _).mono ?_); rintro e w3 ⟨rfl, hb3⟩; dsimp only) | ((with_reducible refine (H2.out _).mono ?_); rintro e w3 ⟨rfl, hb3⟩; dsimp only)))
    exact ⟨rfl, _, rfl, hb3, rfl⟩
  simp only [apN, apC]
  refine dv1 2 ?_
  refine dv1 3 ?_
  refine dv0 ?_
  refine dv1 5 ?_
  apply draw_val
  · intro g w hb hdep; replace hL := hL.grow hb; have d6 := yv hdep 6; clear hdep; simp only [fillD, fLa, fLb, sTa, sTb]; simp only [d6]
    go_wp2_with (go_at_call 35; (first | ((with_reducible refine (H1.out _).mono ?_); rintro e w3 ⟨rfl, hb3⟩; dsimp only) | ((with_reducible refine (H2.out _).mono ?_); rintro e w3 ⟨rfl, hb3⟩; dsimp only)))
    exact ⟨rfl, _, rfl, hb3, rfl⟩
  simp only [apN, apC]
  refine dv2 4 7 ?_
  refine dv1 8 ?_
  refine dv1 9 ?_
  refine dnd hL ?_
  clear hL; intro w2 hL; simp only [fillX, sTa, sTb]
  go_wp2_with (first | (with_reducible first | refine lld hL ?_ | ((first | refine lbx hL ?_ | refine lal hL ?_ | refine lbs hL ?_); clear hL; intro bl w1 hL) | (refine lst' hL ?_; clear hL; intro w1 hL)))
  go_loopw [3, 4] (fun c3 c4 wr => ∃ (k : Nat) (x : ByteArray), k ≤ n ∧ c3 = .string x ∧ c4 = .int .i64 k ∧ x.data.toList = printT v f (is.take k) ∧ Loc w wr [(b1, 24, [.int .i64 v, .int .i64 f, .slice pc n cap])] []) (fun _ c _ => n - (intOf c).toNat)
  case atStart =>
    refine ⟨0, _, Nat.zero_le _, rfl, rfl, ?_, hL⟩
    simp [cat_list, printT, headT, glue, varsW, fieldsW, digs]
  case round =>
    clear hL
    obtain ⟨k, x, hk, rfl, rfl, hx, hL⟩ := hrel
    have HX := Lib.hid hx
    have hxs : x.size ≤ 89 + 89 * 60 := by
      have h1 := HSI.out k hk
      rw [← hx, Array.length_toList] at h1
      exact h1
    clear hx
    by_cases hlt : k < n
    · obtain ⟨hmem, htake⟩ := insAt_mem (k := k) (is := is) (by rw [HN.out]; exact hlt)
      have HTK := Lib.hid htake
      have HLI := Lib.hid (fun w' => rLine_any (insAt is k) (HEA.out _ hmem).1 (HEA.out _ hmem).2 w')
      have hls : (lineD (insAt is k)).length ≤ 88 := lineD_len (HEA.out _ hmem).1 (HEA.out _ hmem).2
      have HRD := Lib.hid (HC.out k hlt)
      have HPC := Lib.hid (HP.out (by omega))
      clear hmem htake
      generalize insAt is k = ik at HTK HLI HRD hls
      generalize hld : lineD ik = ld at HLI hls
      have HLD := Lib.hid hld
      clear hld
      obtain ⟨xs, hx1, hx2⟩ : ∃ xs : ByteArray, strV ld = .string xs ∧ xs.data.toList = ld := ⟨⟨ld.toArray⟩, rfl, by simp⟩
      have hxsz : xs.size ≤ 88 := by rw [← hx2, Array.length_toList] at hls; exact hls
      have HXS := Lib.hid hx2
      rw [hx1] at HLI
      clear hx1 hx2 hls
      obtain rfl := HPC.out
      clear HPC
      go_wp2_with (first | (go_at_call 36; refine (HLI.out _).mono ?_; rintro e w1 ⟨rfl, hb⟩; replace hL := hL.grow hb; clear hb; dsimp only) | (refine loc_loadB HRD.out hL rfl rfl ?_) | (with_reducible first | refine lld hL ?_ | ((first | refine lbx hL ?_ | refine lal hL ?_ | refine lbs hL ?_); clear hL; intro bl w1 hL) | (refine lst' hL ?_; clear hL; intro w1 hL)))
      go_roundw
      case rel =>
        refine ⟨k + 1, _, by omega, rfl, by go_num, ?_, hL⟩
        simp only [cat_list]
        rw [HX.out, HXS.out, HTK.out, printT_snoc, ← HLD.out]
      case measure => simp [intOf]; omega
    · obtain rfl : k = n := by omega
      go_wp2_with (first | (with_reducible first | refine lld hL ?_ | ((first | refine lbx hL ?_ | refine lal hL ?_ | refine lbs hL ?_); clear hL; intro bl w1 hL) | (refine lst' hL ?_; clear hL; intro w1 hL)))
      (try simp only [Exit.inBlock, Exit.then]); refine rt1 ?_
      refine ⟨congrArg Ending.returned (str_ext ?_), hL.below⟩
      rw [HX.out, HPD.out, ← HN.out, List.take_length]
end Go.Proofs.YtdghcnopoanieaaDoor
