/- The walks over functions on lists of ints: slices.Index, slices.Contains, the reference's Has and SameInts. Conditions: the ints lie in memory that was there. -/
import Derived.Test.YteimpfplgdhclaaGreatCod
set_option linter.unusedSimpArgs false
set_option linter.unusedVariables false
namespace Go.Proofs.YteimpfplgdhclaaGreat
open Go.RowKit

/-- Is v one of l? -/
def hasI (l : List Int) (v : Int) : Bool := anyN (fun k => l.getD k 0 == v) l.length
theorem hasI_iff {l : List Int} {v : Int} : hasI l v = true ↔ v ∈ l := by
  unfold hasI
  rw [anyN_iff]
  constructor
  · rintro ⟨k, hk, h⟩
    rw [List.getD_eq_getElem?_getD, List.getElem?_eq_getElem hk] at h
    have : l[k] = v := by simpa using h
    exact this ▸ List.getElem_mem hk
  · intro h
    obtain ⟨k, hk, h⟩ := List.mem_iff_getElem.1 h
    exact ⟨k, hk, by rw [List.getD_eq_getElem?_getD, List.getElem?_eq_getElem hk]; simp [h]⟩
/-- Do two lists of one length differ? -/
def sameI (l m : List Int) : Bool := (l.length == m.length) && !anyN (fun k => l.getD k 0 != m.getD k 0) l.length
theorem sameI_self (l : List Int) : sameI l l = true := by
  unfold sameI
  rw [anyN_no (fun k _ => by simp)]
  simp

set_option maxRecDepth 100000 in
set_option maxHeartbeats 1600000 in
theorem indexI_any (s : Sl) (l : List Int) (v : Int) (w : World) (hl : IntsAt w s l) :
    Calls Tryz.prog 86 #[s.v, .int .i64 v] w fun e w' => ∃ r : Int, e = .returned (.int .i64 r) ∧ decide (0 ≤ r) = hasI l v ∧ Below w.heap.size w w' := by
  obtain ⟨b, o, hp, hc⟩ := hl.reads tInt
  have hn := hl.n
  have hm := hl.m
  obtain ⟨p, n, cap⟩ := s
  dsimp only at hp hc hn hm
  subst hn
  dsimp only [Sl.v]
  have HP := Lib.hid hp
  have HC := Lib.hid hc
  clear hp hc hl
  have hL := Loc.start w
  go_enter Tryz.func86, Tryz.ntmps86
  go_wp2
  go_loopw [8] (fun x wr => ∃ k : Nat, k ≤ l.length ∧ x = .int .i64 k ∧ (∀ j, j < k → (l.getD j 0 == v) = false) ∧ Loc w wr [] []) (fun x _ => l.length - (intOf x).toNat)
  case atStart => exact ⟨0, Nat.zero_le _, rfl, fun j hj => absurd hj (by omega), hL⟩
  case round =>
    clear hL
    obtain ⟨k, hk, rfl, hq, hL⟩ := hrel
    have HQ := Lib.hid hq
    clear hq
    by_cases hlt : k < l.length
    · have HPC := Lib.hid (HP.out (by omega))
      have HR := Lib.hid (HC.out k hlt)
      generalize hx : l.getD k 0 = x at HR
      have HX := Lib.hid hx
      clear hx
      go_upto_region 4 with (fail)
      refine seq_begin [11, 12, 13, 14, 15, 16] ?_
      apply draw_val
      · intro g w hb hdep; replace hL := hL.grow hb; clear hdep; simp only [fillD, fLa, fLb, sTa, sTb]
        go_wp2
        exact cY
      simp only [apN, apC]
      apply draw_val
      · intro g w hb hdep; replace hL := hL.grow hb; clear hdep; simp only [fillD, fLa, fLb, sTa, sTb]
        go_wp2
        exact cY
      simp only [apN, apC]
      apply draw_val
      · intro g w hb hdep; replace hL := hL.grow hb; clear hdep; simp only [fillD, fLa, fLb, sTa, sTb]
        go_wp2
        exact cY
      simp only [apN, apC]
      apply draw_val
      · intro g w hb hdep; replace hL := hL.grow hb; have d1 := yv hdep 1; have d2 := yv hdep 2; clear hdep; simp only [fillD, fLa, fLb, sTa, sTb]; simp only [d1, d2]
        (simp only [HPC.out]; go_wp2)
        exact cY
      simp only [apN, apC]
      apply draw_val
      · intro g w hb hdep; replace hL := hL.grow hb; have d3 := yv hdep 3; clear hdep; simp only [fillD, fLa, fLb, sTa, sTb]; simp only [d3]
        refine loc_loadB HR.out hL rfl rfl ?_
        exact cY
      simp only [apN, apC]
      apply draw_val
      · intro g w hb hdep; replace hL := hL.grow hb; have d0 := yv hdep 0; have d4 := yv hdep 4; clear hdep; simp only [fillD, fLa, fLb, sTa, sTb]; simp only [d0, d4]
        go_wp2
        exact cY
      simp only [apN, apC]
      refine seq_end hL (by kernel_rfl) ?_
      intro g w2 hb hR; simp only [List.length_cons, List.length_nil, Nat.reduceAdd] at hR
      have e0 := yv hR 0
      have e1 := yv hR 1
      have e2 := yv hR 2
      have e3 := yv hR 3
      have e4 := yv hR 4
      have e5 := yv hR 5
      clear hR; simp only [fillD, fLa, fLb, sTa, sTb]
      simp only [e0, e1, e2, e3, e4, e5]
      clear e0 e1 e2 e3 e4 e5
      replace hL := hL.grow hb
      clear hb
      by_cases he : x = v
      · subst he
        have HA := Lib.hid (show hasI l x = true from anyN_yes hlt (by show (l.getD k 0 == x) = true; rw [HX.out]; exact beq_self_eq_true x))
        go_wp2
        go_ret
        exact ⟨_, rfl, by rw [HA.out]; simp, hL.below⟩
      · have h1 : (v == x) = false := beq_eq_false_iff_ne.2 (fun h => he h.symm)
        have HE := Lib.hid he
        clear he
        simp only [h1]
        clear h1
        go_wp2
        go_roundw
        case rel =>
          refine ⟨k + 1, by omega, by go_num, fun j hj => ?_, hL⟩
          rcases Nat.lt_or_ge j k with h | h
          · exact HQ.out j h
          · obtain rfl : j = k := by omega
            rw [HX.out]
            exact beq_eq_false_iff_ne.2 HE.out
        case measure => simp [intOf]; omega
    · obtain rfl : k = l.length := by omega
      have HA := Lib.hid (show hasI l v = false from anyN_no HQ.out)
      go_wp2
      go_ret
      exact ⟨_, rfl, by rw [HA.out]; rfl, hL.below⟩

set_option maxRecDepth 100000 in
set_option maxHeartbeats 1600000 in
theorem containsI_any (s : Sl) (l : List Int) (v : Int) (w : World) (hl : IntsAt w s l) :
    Calls Tryz.prog 62 #[s.v, .int .i64 v] w fun e w' => e = .returned (.bool (hasI l v)) ∧ Below w.heap.size w w' := by
  have HI := Lib.hid (indexI_any s l v w hl)
  clear hl
  go_enter Tryz.func62, Tryz.ntmps62
  go_wp2_with (go_at_call 86; refine HI.out.mono ?_; rintro e w1 ⟨r, rfl, hr, hb⟩; dsimp only)
  go_ret
  exact ⟨by rw [← hr]; rfl, hb⟩

set_option maxRecDepth 100000 in
set_option maxHeartbeats 1600000 in
theorem rHas_any (s : Sl) (l : List Int) (v : Int) (w : World) (hl : IntsAt w s l) :
    Calls Tryz.prog 27 #[s.v, .int .i64 v] w fun e w' => e = .returned (.bool (hasI l v)) ∧ Below w.heap.size w w' := by
  obtain ⟨b, o, hp, hc⟩ := hl.reads tInt
  have hn := hl.n
  have hm := hl.m
  obtain ⟨p, n, cap⟩ := s
  dsimp only at hp hc hn hm
  subst hn
  dsimp only [Sl.v]
  have HP := Lib.hid hp
  have HC := Lib.hid hc
  clear hp hc hl
  have hL := Loc.start w
  go_enter Tryz.func27, Tryz.ntmps27
  go_wp2
  go_loopw [5] (fun x wr => ∃ k : Nat, k ≤ l.length ∧ x = .int .i64 k ∧ (∀ j, j < k → (l.getD j 0 == v) = false) ∧ Loc w wr [] []) (fun x _ => l.length - (intOf x).toNat)
  case atStart => exact ⟨0, Nat.zero_le _, rfl, fun j hj => absurd hj (by omega), hL⟩
  case round =>
    clear hL
    obtain ⟨k, hk, rfl, hq, hL⟩ := hrel
    have HQ := Lib.hid hq
    clear hq
    by_cases hlt : k < l.length
    · have HPC := Lib.hid (HP.out (by omega))
      have HR := Lib.hid (HC.out k hlt)
      generalize hx : l.getD k 0 = x at HR
      have HX := Lib.hid hx
      clear hx
      go_upto_region 4 with (fail)
      refine seq_begin [12, 13, 14, 15, 16, 17] ?_
      apply draw_val
      · intro g w hb hdep; replace hL := hL.grow hb; clear hdep; simp only [fillD, fLa, fLb, sTa, sTb]
        go_wp2
        exact cY
      simp only [apN, apC]
      apply draw_val
      · intro g w hb hdep; replace hL := hL.grow hb; clear hdep; simp only [fillD, fLa, fLb, sTa, sTb]
        go_wp2
        exact cY
      simp only [apN, apC]
      apply draw_val
      · intro g w hb hdep; replace hL := hL.grow hb; have d0 := yv hdep 0; have d1 := yv hdep 1; clear hdep; simp only [fillD, fLa, fLb, sTa, sTb]; simp only [d0, d1]
        (simp only [HPC.out]; go_wp2)
        exact cY
      simp only [apN, apC]
      apply draw_val
      · intro g w hb hdep; replace hL := hL.grow hb; have d2 := yv hdep 2; clear hdep; simp only [fillD, fLa, fLb, sTa, sTb]; simp only [d2]
        refine loc_loadB HR.out hL rfl rfl ?_
        exact cY
      simp only [apN, apC]
      apply draw_val
      · intro g w hb hdep; replace hL := hL.grow hb; clear hdep; simp only [fillD, fLa, fLb, sTa, sTb]
        go_wp2
        exact cY
      simp only [apN, apC]
      apply draw_val
      · intro g w hb hdep; replace hL := hL.grow hb; have d3 := yv hdep 3; have d4 := yv hdep 4; clear hdep; simp only [fillD, fLa, fLb, sTa, sTb]; simp only [d3, d4]
        go_wp2
        exact cY
      simp only [apN, apC]
      refine seq_end hL (by kernel_rfl) ?_
      intro g w2 hb hR; simp only [List.length_cons, List.length_nil, Nat.reduceAdd] at hR
      have e0 := yv hR 0
      have e1 := yv hR 1
      have e2 := yv hR 2
      have e3 := yv hR 3
      have e4 := yv hR 4
      have e5 := yv hR 5
      clear hR; simp only [fillD, fLa, fLb, sTa, sTb]
      simp only [e0, e1, e2, e3, e4, e5]
      clear e0 e1 e2 e3 e4 e5
      replace hL := hL.grow hb
      clear hb
      by_cases he : x = v
      · subst he
        have HA := Lib.hid (show hasI l x = true from anyN_yes hlt (by show (l.getD k 0 == x) = true; rw [HX.out]; exact beq_self_eq_true x))
        go_wp2
        go_ret
        exact ⟨by first | (rw [HA.out]; done) | (rw [HA.out]; rfl), hL.below⟩
      · have h1 : (x == v) = false := beq_eq_false_iff_ne.2 he
        have HE := Lib.hid he
        clear he
        simp only [h1]
        clear h1
        go_wp2
        go_roundw
        case rel =>
          refine ⟨k + 1, by omega, by go_num, fun j hj => ?_, hL⟩
          rcases Nat.lt_or_ge j k with h | h
          · exact HQ.out j h
          · obtain rfl : j = k := by omega
            rw [HX.out]
            exact beq_eq_false_iff_ne.2 HE.out
        case measure => simp [intOf]; omega
    · obtain rfl : k = l.length := by omega
      have HA := Lib.hid (show hasI l v = false from anyN_no HQ.out)
      go_wp2
      go_ret
      exact ⟨by first | (rw [HA.out]; done) | (rw [HA.out]; rfl), hL.below⟩

set_option maxRecDepth 100000 in
set_option maxHeartbeats 1600000 in
theorem sameInts_any (s t : Sl) (l m : List Int) (w : World) (hl : IntsAt w s l) (hm : IntsAt w t m) :
    Calls Tryz.prog 57 #[s.v, t.v] w fun e w' => e = .returned (.bool (sameI l m)) ∧ Below w.heap.size w w' := by
  obtain ⟨b, o, hp, hc⟩ := hl.reads tInt
  obtain ⟨b2, o2, hp2, hc2⟩ := hm.reads tInt
  have hn := hl.n
  have hs := hl.m
  have hn2 := hm.n
  have hs2 := hm.m
  obtain ⟨p, n, cap⟩ := s
  obtain ⟨p2, n2, cap2⟩ := t
  dsimp only at hp hc hn hs hp2 hc2 hn2 hs2
  subst hn
  subst hn2
  dsimp only [Sl.v]
  have HP := Lib.hid hp
  have HC := Lib.hid hc
  have HP2 := Lib.hid hp2
  have HC2 := Lib.hid hc2
  clear hp hc hl hp2 hc2 hm
  have hL := Loc.start w
  by_cases hlen : (l.length : Int) = m.length
  · have hlen' : l.length = m.length := by omega
    have h0 : ((l.length : Int) != (m.length : Int)) = false := by simp [hlen]
    have HS := Lib.hid (show sameI l m = !anyN (fun k => l.getD k 0 != m.getD k 0) l.length by simp [sameI, hlen'])
    have HLE := Lib.hid hlen'
    clear hlen hlen'
    go_enter Tryz.func57, Tryz.ntmps57
    go_wp2
    go_loopw [5] (fun x wr => ∃ k : Nat, k ≤ l.length ∧ x = .int .i64 k ∧ (∀ j, j < k → (l.getD j 0 != m.getD j 0) = false) ∧ Loc w wr [] []) (fun x _ => l.length - (intOf x).toNat)
    case atStart => exact ⟨0, Nat.zero_le _, rfl, fun j hj => absurd hj (by omega), hL⟩
    case round =>
      clear hL
      obtain ⟨k, hk, rfl, hq, hL⟩ := hrel
      have HQ := Lib.hid hq
      clear hq
      by_cases hlt : k < l.length
      · have hlt2 : k < m.length := by rw [← HLE.out]; exact hlt
        have HPC := Lib.hid (HP.out (by omega))
        have HPC2 := Lib.hid (HP2.out (by omega))
        have HR := Lib.hid (HC.out k hlt)
        have HR2 := Lib.hid (HC2.out k hlt2)
        generalize hx : l.getD k 0 = x at HR
        generalize hy : m.getD k 0 = y at HR2
        have HX := Lib.hid hx
        have HY := Lib.hid hy
        clear hx hy
        go_upto_region 6 with (fail)
        refine draw_begin [17, 18, 19, 20, 21, 22, 23, 24, 25] ?_
        apply draw_val
        · intro g w hb hdep; replace hL := hL.grow hb; clear hdep; simp only [fillD, fLa, fLb, sTa, sTb]
          go_wp2
          exact cY
        simp only [apN, apC]
        apply draw_val
        · intro g w hb hdep; replace hL := hL.grow hb; clear hdep; simp only [fillD, fLa, fLb, sTa, sTb]
          go_wp2
          exact cY
        simp only [apN, apC]
        apply draw_val
        · intro g w hb hdep; replace hL := hL.grow hb; have d0 := yv hdep 0; have d1 := yv hdep 1; clear hdep; simp only [fillD, fLa, fLb, sTa, sTb]; simp only [d0, d1]
          (simp only [HPC.out]; go_wp2)
          exact cY
        simp only [apN, apC]
        apply draw_val
        · intro g w hb hdep; replace hL := hL.grow hb; have d2 := yv hdep 2; clear hdep; simp only [fillD, fLa, fLb, sTa, sTb]; simp only [d2]
          refine loc_loadB HR.out hL rfl rfl ?_
          exact cY
        simp only [apN, apC]
        apply draw_val
        · intro g w hb hdep; replace hL := hL.grow hb; clear hdep; simp only [fillD, fLa, fLb, sTa, sTb]
          go_wp2
          exact cY
        simp only [apN, apC]
        apply draw_val
        · intro g w hb hdep; replace hL := hL.grow hb; clear hdep; simp only [fillD, fLa, fLb, sTa, sTb]
          go_wp2
          exact cY
        simp only [apN, apC]
        apply draw_val
        · intro g w hb hdep; replace hL := hL.grow hb; have d4 := yv hdep 4; have d5 := yv hdep 5; clear hdep; simp only [fillD, fLa, fLb, sTa, sTb]; simp only [d4, d5]
          (simp only [HPC2.out]; go_wp2)
          exact cY
        simp only [apN, apC]
        apply draw_val
        · intro g w hb hdep; replace hL := hL.grow hb; have d6 := yv hdep 6; clear hdep; simp only [fillD, fLa, fLb, sTa, sTb]; simp only [d6]
          refine loc_loadB HR2.out hL rfl rfl ?_
          exact cY
        simp only [apN, apC]
        apply draw_val
        · intro g w hb hdep; replace hL := hL.grow hb; have d3 := yv hdep 3; have d7 := yv hdep 7; clear hdep; simp only [fillD, fLa, fLb, sTa, sTb]; simp only [d3, d7]
          go_wp2
          exact cY
        simp only [apN, apC]
        refine draw_end hL (by kernel_rfl) (by kernel_rfl) ?_
        intro g w2 hb hR; simp only [List.length_cons, List.length_nil, Nat.reduceAdd] at hR
        have e0 := yv hR 0
        have e1 := yv hR 1
        have e2 := yv hR 2
        have e3 := yv hR 3
        have e4 := yv hR 4
        have e5 := yv hR 5
        have e6 := yv hR 6
        have e7 := yv hR 7
        have e8 := yv hR 8
        clear hR; simp only [fillD, fLa, fLb, sTa, sTb]
        simp only [e0, e1, e2, e3, e4, e5, e6, e7, e8]
        clear e0 e1 e2 e3 e4 e5 e6 e7 e8
        replace hL := hL.grow hb
        clear hb
        by_cases he : x = y
        · have h1 : (x != y) = false := by simp [he]
          have HE := Lib.hid h1
          simp only [h1]
          clear h1 he
          go_wp2
          go_roundw
          case rel =>
            refine ⟨k + 1, by omega, by go_num, fun j hj => ?_, hL⟩
            rcases Nat.lt_or_ge j k with h | h
            · exact HQ.out j h
            · obtain rfl : j = k := by omega
              rw [HX.out, HY.out]
              exact HE.out
          case measure => simp [intOf]; omega
        · have h1 : (x != y) = true := by simp [he]
          have HA := Lib.hid (anyN_yes (q := fun k => l.getD k 0 != m.getD k 0) hlt (by show (l.getD k 0 != m.getD k 0) = true; rw [HX.out, HY.out]; exact h1))
          simp only [h1]
          clear h1 he
          go_wp2
          go_ret
          exact ⟨by rw [HS.out, HA.out]; rfl, hL.below⟩
      · obtain rfl : k = l.length := by omega
        have HA := Lib.hid (anyN_no HQ.out)
        go_wp2
        go_ret
        exact ⟨by rw [HS.out, HA.out]; rfl, hL.below⟩
  · have h0 : ((l.length : Int) != (m.length : Int)) = true := by simpa using hlen
    have HS := Lib.hid (show sameI l m = false by
      have : ¬ l.length = m.length := by omega
      simp [sameI, this])
    clear hlen
    go_enter Tryz.func57, Tryz.ntmps57
    go_wp2
    go_ret
    exact ⟨by first | (rw [HS.out]; done) | (rw [HS.out]; rfl), hL.below⟩
end Go.Proofs.YteimpfplgdhclaaGreat
