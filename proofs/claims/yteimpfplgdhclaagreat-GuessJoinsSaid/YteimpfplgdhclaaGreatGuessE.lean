/- The walks over guess.Right, the reference's CheckGuess, ready, CheckGuesses. Conditions: what they read lies in memory that was there. -/
import Derived.Test.YteimpfplgdhclaaGreatGuessD
import Derived.Test.YteimpfplgdhclaaGreatCodeCheck
import Derived.Test.YteimpfplgdhclaaGreatSitesP
set_option linter.unusedSimpArgs false
set_option linter.unusedVariables false
namespace Go.Proofs.YteimpfplgdhclaaGreat
open Go.RowKit

def siteBadG (p : Pg) (is : Nat → Ins) (l : List Int) : Bool := anyN (fun k => !isSite p is (l.getD k 0)) l.length
def rightG (p : Pg) (is : Nat → Ins) (g : Gu) (l : List Int) : Int := if checkSpan g.span ≠ 0 then checkSpan g.span else if siteBadG p is l = true then 5 else if dropI l = true then 4 else 0
theorem dropI_yes {l : List Int} {k : Nat} (hk : k + 1 < l.length) (h : decide (l.getD (k + 1) 0 ≤ l.getD k 0) = true) : dropI l = true :=
  anyN_yes (q := fun k => decide (l.getD (k + 1) 0 ≤ l.getD k 0)) (k := k) (by omega) h

set_option maxRecDepth 100000 in
set_option maxHeartbeats 4000000 in
theorem gright_any (p : Pg) (is : Nat → Ins) (g : Gu) (l : List Int) (w : World) (hc : CodeAt w p is) (hl : IntsAt w g.s l) :
    Calls Tryz.prog 44 #[p.v, g.v] w fun e w' => e = .returned (.int .i64 (rightG p is g l)) ∧ Below w.heap.size w w' := by
  have HF := Lib.hid (show rightG p is g l = if checkSpan g.span ≠ 0 then checkSpan g.span else if siteBadG p is l = true then 5 else if dropI l = true then 4 else 0 from rfl)
  obtain ⟨gl, ⟨gn, glo, ghi⟩, gt, gf, ⟨gp, gk, gc⟩⟩ := g
  obtain ⟨b, o, hpp, hcc⟩ := hl.reads tInt
  have hnn := hl.n
  have hm64 := hl.m
  dsimp only at hnn hpp hcc hm64 HF hl
  subst hnn
  have HP := Lib.hid hpp
  have HC := Lib.hid hcc
  have HCA := Lib.hid hc
  have HL := Lib.hid hl
  have hs := fun w' => check_any ⟨gn, glo, ghi⟩ w'
  generalize hcs : checkSpan ⟨gn, glo, ghi⟩ = cs at hs HF
  have HS := Lib.hid hs
  clear hl hpp hcc hc hs hcs
  have hL := Loc.start w
  go_enter Tryz.func44, Tryz.ntmps44
  go_step
  go_step
  go_step
  ((with_reducible refine lbx hL ?_); clear hL; intro b2 w1 hL)
  ((with_reducible refine lbx hL ?_); clear hL; intro b3 w1 hL)
  by_cases h0 : cs = 0
  case neg =>
    have k0 : (cs != 0) = true := by simpa using h0
    have HX := Lib.hid h0
    clear h0
    go_wp2_with (first | (with_reducible refine lld hL ?_) | ((with_reducible first | refine lbx hL ?_ | refine lal hL ?_ | refine lbs hL ?_); clear hL; intro bl w1 hL) | ((with_reducible refine lst' hL ?_); clear hL; intro w1 hL) | (go_at_call 67; refine (HS.out _).mono ?_; rintro e w1 ⟨rfl, hb⟩; replace hL := hL.grow hb; clear hb; dsimp only))
    (try simp only [Exit.inBlock, Exit.then]); refine' ret1 rfl ?_ rfl ?_; (case refine'_2 => exact cRes)
    exact ⟨by rw [HF.out, if_pos HX.out]; rfl, hL.below⟩
  subst h0
  have HF2 := Lib.hid (HF.out.trans (if_neg (by omega)))
  clear HF
  go_upto_region 4 with (first | (with_reducible refine lld hL ?_) | ((with_reducible first | refine lbx hL ?_ | refine lal hL ?_ | refine lbs hL ?_); clear hL; intro bl w1 hL) | ((with_reducible refine lst' hL ?_); clear hL; intro w1 hL) | (go_at_call 67; refine (HS.out _).mono ?_; rintro e w1 ⟨rfl, hb⟩; replace hL := hL.grow hb; clear hb; dsimp only))
  have hcl := containsInts ⟨gp, l.length, gc⟩ l (fun k => !isSite p is (l.getD k 0)) 68 (.pointer (some ⟨b2, 0, none⟩)) _ (HL.out.grow hL.below) ⟨enterR, fun k _ w2 hb2 => gright1_any p is (l.getD k 0) b2 w2 ((hL.readsG (b := b2) (Tv := 24) (off := 0) (v := p.v) (by repeat (first | exact InL.head | apply InL.tail)) (Reads.agg tProg rfl rfl)).grow hb2) ((HCA.out.grow hL.below).grow hb2)⟩
  rw [show anyN (fun k => !isSite p is (l.getD k 0)) l.length = siteBadG p is l from rfl] at hcl
  cases h4 : siteBadG p is l with
  | true =>
    rw [h4] at hcl
    have HCL := Lib.hid hcl
    have H := Lib.hid h4
    clear hcl h4
    go_wp2_with (first | (with_reducible refine lld hL ?_) | ((with_reducible first | refine lbx hL ?_ | refine lal hL ?_ | refine lbs hL ?_); clear hL; intro bl w1 hL) | ((with_reducible refine lst' hL ?_); clear hL; intro w1 hL) | (go_at_call 60; ((with_reducible refine (HCL.out).mono ?_); rintro e w1 ⟨rfl, hb⟩; replace hL := hL.grow hb; clear hb; dsimp only)))
    (try simp only [Exit.inBlock, Exit.then]); refine' ret1 rfl ?_ rfl ?_; (case refine'_2 => exact cRes)
    exact ⟨by rw [HF2.out, if_pos H.out]; rfl, hL.below⟩
  | false =>
  rw [h4] at hcl
  have HCL := Lib.hid hcl
  have HF3 := Lib.hid (HF2.out.trans (if_neg (by rw [h4]; decide)))
  clear hcl h4 HF2
  go_wp2_with (first | (with_reducible refine lld hL ?_) | ((with_reducible first | refine lbx hL ?_ | refine lal hL ?_ | refine lbs hL ?_); clear hL; intro bl w1 hL) | ((with_reducible refine lst' hL ?_); clear hL; intro w1 hL) | (go_at_call 60; ((with_reducible refine (HCL.out).mono ?_); rintro e w1 ⟨rfl, hb⟩; replace hL := hL.grow hb; clear hb; dsimp only)))
  clear HCL
  go_loopw [6] (fun c wr => ∃ i : Nat, 1 ≤ i ∧ i ≤ l.length + 1 ∧ c = .int .i64 i ∧ (∀ j, j + 1 < i → decide (l.getD (j + 1) 0 ≤ l.getD j 0) = false) ∧ Loc w wr [(b3, 29, [.bool gl, .bool gn, .int .i64 glo, .int .i64 ghi, .bool gt, .bool gf, .slice gp l.length gc]), (b2, 24, [.int .i64 p.vars, .int .i64 p.fields, .slice p.pc p.n p.cap])] []) (fun c _ => l.length + 1 - (intOf c).toNat)
  case atStart => exact ⟨1, by omega, by omega, rfl, fun j hj => absurd hj (by omega), hL⟩
  case round =>
    obtain ⟨i, hi1, hi2, rfl, hq, hL⟩ := hrel
    have HQ := Lib.hid hq
    clear hq
    by_cases hlt : i < l.length
    · have HP2 := Lib.hid (HP.out (by omega))
      obtain ⟨k, hk⟩ : ∃ k, i = k + 1 := ⟨i - 1, by omega⟩
      have hr := HC.out i hlt
      have hr2 := HC.out k (by omega)
      have HIK := Lib.hid (show ((i : Int) - 1) = (k : Int) by omega)
      have HK := Lib.hid hk
      have hk1 : k < l.length := by omega
      generalize hx : l.getD i 0 = x at hr
      generalize hy : l.getD k 0 = y at hr2
      have HX := Lib.hid hx
      have HY := Lib.hid hy
      have HR1 := Lib.hid hr
      have HR2 := Lib.hid hr2
      clear hx hr hy hr2 hk
      go_upto_region 9 with (first | (with_reducible refine lld hL ?_) | ((with_reducible first | refine lbx hL ?_ | refine lal hL ?_ | refine lbs hL ?_); clear hL; intro bl w1 hL) | ((with_reducible refine lst' hL ?_); clear hL; intro w1 hL))
      refine draw_begin [24, 25, 26, 27, 28, 29, 30, 31, 32, 33, 34, 35] ?_
      apply draw_val
      · intro g w hb hdep; replace hL := hL.grow hb; clear hdep; simp only [fillD, fLa, fLb, sTa, sTb]
        go_wp2
        exact cY
      simp only [apN, apC]
      apply draw_val
      · intro g w hb hdep; replace hL := hL.grow hb; have d0 := yv hdep 0; clear hdep; simp only [fillD, fLa, fLb, sTa, sTb]; simp only [d0]
        go_wp2_with (first | (with_reducible refine lld hL ?_) | (with_reducible refine ldD hL ?_))
        exact cY
      simp only [apN, apC]
      apply draw_val
      · intro g w hb hdep; replace hL := hL.grow hb; clear hdep; simp only [fillD, fLa, fLb, sTa, sTb]
        go_wp2
        exact cY
      simp only [apN, apC]
      apply draw_val
      · intro g w hb hdep; replace hL := hL.grow hb; have d1 := yv hdep 1; have d2 := yv hdep 2; clear hdep; simp only [fillD, fLa, fLb, sTa, sTb]; simp only [d1, d2]
        (simp only [HP2.out]; go_wp2)
        exact cY
      simp only [apN, apC]
      apply draw_val
      · intro g w hb hdep; replace hL := hL.grow hb; have d3 := yv hdep 3; clear hdep; simp only [fillD, fLa, fLb, sTa, sTb]; simp only [d3]
        refine loc_loadB HR1.out hL rfl rfl ?_
        exact cY
      simp only [apN, apC]
      apply draw_val
      · intro g w hb hdep; replace hL := hL.grow hb; clear hdep; simp only [fillD, fLa, fLb, sTa, sTb]
        go_wp2
        exact cY
      simp only [apN, apC]
      apply draw_val
      · intro g w hb hdep; replace hL := hL.grow hb; have d5 := yv hdep 5; clear hdep; simp only [fillD, fLa, fLb, sTa, sTb]; simp only [d5]
        go_wp2_with (first | (with_reducible refine lld hL ?_) | (with_reducible refine ldD hL ?_))
        exact cY
      simp only [apN, apC]
      apply draw_val
      · intro g w hb hdep; replace hL := hL.grow hb; clear hdep; simp only [fillD, fLa, fLb, sTa, sTb]
        go_wp2
        exact cY
      simp only [apN, apC]
      apply draw_val
      · intro g w hb hdep; replace hL := hL.grow hb; have d7 := yv hdep 7; clear hdep; simp only [fillD, fLa, fLb, sTa, sTb]; simp only [d7]
        go_wp2
        exact cY
      simp only [apN, apC]
      apply draw_val
      · intro g w hb hdep; replace hL := hL.grow hb; have d6 := yv hdep 6; have d8 := yv hdep 8; clear hdep; simp only [fillD, fLa, fLb, sTa, sTb]; simp only [d6, d8]
        (simp only [HP2.out, HIK.out]; go_wp2)
        exact cY
      simp only [apN, apC]
      apply draw_val
      · intro g w hb hdep; replace hL := hL.grow hb; have d9 := yv hdep 9; clear hdep; simp only [fillD, fLa, fLb, sTa, sTb]; simp only [d9]
        refine loc_loadB HR2.out hL rfl rfl ?_
        exact cY
      simp only [apN, apC]
      apply draw_val
      · intro g w hb hdep; replace hL := hL.grow hb; have d4 := yv hdep 4; have d10 := yv hdep 10; clear hdep; simp only [fillD, fLa, fLb, sTa, sTb]; simp only [d4, d10]
        go_wp2
        exact cY
      simp only [apN, apC]
      refine draw_end hL (by kernel_rfl) (by kernel_rfl) ?_
      intro g w2 hb hR; simp only [List.length_cons, List.length_nil, Nat.reduceAdd] at hR
      have e0 := yv hR 0
      have e1 := yv hR 1
      have e2 := yv hR 2
      have e3 := yv hR 3
      have e4 := yv hR 4
      have e5 := yv hR 5
      have e6 := yv hR 6
      have e7 := yv hR 7
      have e8 := yv hR 8
      have e9 := yv hR 9
      have e10 := yv hR 10
      have e11 := yv hR 11
      clear hR; simp only [fillD, fLa, fLb, sTa, sTb]
      simp only [e0, e1, e2, e3, e4, e5, e6, e7, e8, e9, e10, e11]
      clear e0 e1 e2 e3 e4 e5 e6 e7 e8 e9 e10 e11
      replace hL := hL.grow hb
      clear hb
      cases hd : decide (x ≤ y) with
      | true =>
        have HAN := Lib.hid (dropI_yes (l := l) (k := k) (by rw [← HK.out]; exact hlt) (by rw [← HK.out, HX.out, HY.out]; exact hd))
        clear hd
        go_wp2_with (first | (with_reducible refine lld hL ?_) | ((with_reducible first | refine lbx hL ?_ | refine lal hL ?_ | refine lbs hL ?_); clear hL; intro bl w1 hL) | ((with_reducible refine lst' hL ?_); clear hL; intro w1 hL))
        (try simp only [Exit.inBlock, Exit.then]); refine' ret1 rfl ?_ rfl ?_; (case refine'_2 => exact cRes)
        exact ⟨by rw [HF3.out, if_pos HAN.out]; rfl, hL.below⟩
      | false =>
        have HD := Lib.hid hd
        clear hd
        go_wp2_with (first | (with_reducible refine lld hL ?_) | ((with_reducible first | refine lbx hL ?_ | refine lal hL ?_ | refine lbs hL ?_); clear hL; intro bl w1 hL) | ((with_reducible refine lst' hL ?_); clear hL; intro w1 hL))
        go_roundw
        case rel =>
          refine ⟨i + 1, by omega, by omega, by go_num, fun j hj => ?_, hL⟩
          rcases Nat.lt_or_ge (j + 1) i with h | h
          · exact HQ.out j h
          · have hj2 := HK.out
            obtain rfl : j = k := by omega
            rw [← hj2, HX.out, HY.out]
            exact HD.out
        case measure => simp [intOf]; omega
    · have HAN := Lib.hid (show dropI l = false from anyN_no fun j hj => HQ.out j (by omega))
      clear HQ
      go_wp2_with (first | (with_reducible refine lld hL ?_) | ((with_reducible first | refine lbx hL ?_ | refine lal hL ?_ | refine lbs hL ?_); clear hL; intro bl w1 hL) | ((with_reducible refine lst' hL ?_); clear hL; intro w1 hL))
      (try simp only [Exit.inBlock, Exit.then]); refine' ret1 rfl ?_ rfl ?_; (case refine'_2 => exact cRes)
      exact ⟨by rw [HF3.out, HAN.out]; rfl, hL.below⟩

set_option maxRecDepth 100000 in
set_option maxHeartbeats 4000000 in
theorem rCheckGuess_any (p : Pg) (is : Nat → Ins) (g : Gu) (l : List Int) (w : World) (hn : p.n ≤ 9223372036854775807) (hc : CodeAt w p is) (hl : IntsAt w g.s l) :
    Calls Tryz.prog 24 #[p.v, g.v] w fun e w' => e = .returned (.int .i64 (rightG p is g l)) ∧ Below w.heap.size w w' := by
  have HF := Lib.hid (show rightG p is g l = if checkSpan g.span ≠ 0 then checkSpan g.span else if siteBadG p is l = true then 5 else if dropI l = true then 4 else 0 from rfl)
  obtain ⟨gl, ⟨gn, glo, ghi⟩, gt, gf, ⟨gp, gk, gc⟩⟩ := g
  obtain ⟨b, o, hpp, hcc⟩ := hl.reads tInt
  have hnn := hl.n
  have hm64 := hl.m
  dsimp only at hnn hpp hcc hm64 HF hl
  subst hnn
  have HP := Lib.hid hpp
  have HC := Lib.hid hcc
  have HSI := Lib.hid (fun a w' (hb : Below w.heap.size w w') => rIsSite_any p is a w' hn (hc.grow hb))
  have hs := fun w' => rCheck_any ⟨gn, glo, ghi⟩ w'
  generalize hcs : checkSpan ⟨gn, glo, ghi⟩ = cs at hs HF
  have HS := Lib.hid hs
  clear hl hpp hcc hc hs hcs
  have hL := Loc.start w
  go_enter Tryz.func24, Tryz.ntmps24
  go_step
  go_step
  go_step
  ((with_reducible refine lbx hL ?_); clear hL; intro b2 w1 hL)
  ((with_reducible refine lbx hL ?_); clear hL; intro b3 w1 hL)
  by_cases h0 : cs = 0
  case neg =>
    have k0 : (cs != 0) = true := by simpa using h0
    have HX := Lib.hid h0
    clear h0
    go_wp2_with (first | (with_reducible refine lld hL ?_) | ((with_reducible first | refine lbx hL ?_ | refine lal hL ?_ | refine lbs hL ?_); clear hL; intro bl w1 hL) | ((with_reducible refine lst' hL ?_); clear hL; intro w1 hL) | (go_at_call 53; refine (HS.out _).mono ?_; rintro e w1 ⟨rfl, hb⟩; replace hL := hL.grow hb; clear hb; dsimp only))
    (try simp only [Exit.inBlock, Exit.then]); refine' ret1 rfl ?_ rfl ?_; (case refine'_2 => exact cRes)
    exact ⟨by rw [HF.out, if_pos HX.out]; rfl, hL.below⟩
  subst h0
  have HF2 := Lib.hid (HF.out.trans (if_neg (by omega)))
  clear HF
  go_wp2_with (first | (with_reducible refine lld hL ?_) | ((with_reducible first | refine lbx hL ?_ | refine lal hL ?_ | refine lbs hL ?_); clear hL; intro bl w1 hL) | ((with_reducible refine lst' hL ?_); clear hL; intro w1 hL) | (go_at_call 53; refine (HS.out _).mono ?_; rintro e w1 ⟨rfl, hb⟩; replace hL := hL.grow hb; clear hb; dsimp only))
  go_loopw [6] (fun c wr => ∃ k : Nat, k ≤ l.length ∧ c = .int .i64 k ∧ (∀ j, j < k → (!isSite p is (l.getD j 0)) = false) ∧ Loc w wr [(b3, 29, [.bool gl, .bool gn, .int .i64 glo, .int .i64 ghi, .bool gt, .bool gf, .slice gp l.length gc]), (b2, 24, [.int .i64 p.vars, .int .i64 p.fields, .slice p.pc p.n p.cap])] []) (fun c _ => l.length - (intOf c).toNat)
  case atStart => exact ⟨0, Nat.zero_le _, rfl, fun j hj => absurd hj (by omega), hL⟩
  case round =>
    obtain ⟨k, hk, rfl, hq, hL⟩ := hrel
    have HQ := Lib.hid hq
    clear hq
    by_cases hlt : k < l.length
    · have HP2 := Lib.hid (HP.out (by omega))
      have hr := HC.out k hlt
      generalize hx : l.getD k 0 = x at hr
      have HX := Lib.hid hx
      have HR1 := Lib.hid hr
      clear hx hr
      go_upto_region 7 with (first | (with_reducible refine lld hL ?_) | ((with_reducible first | refine lbx hL ?_ | refine lal hL ?_ | refine lbs hL ?_); clear hL; intro bl w1 hL) | ((with_reducible refine lst' hL ?_); clear hL; intro w1 hL))
      refine draw_begin [21, 22, 23, 24, 25, 26, 27, 28] ?_
      apply draw_val
      · intro g w hb hdep; replace hL := hL.grow hb; clear hdep; simp only [fillD, fLa, fLb, sTa, sTb]
        go_wp2_with (first | (with_reducible refine lld hL ?_) | (with_reducible refine ldD hL ?_))
        exact cY
      simp only [apN, apC]
      apply draw_val
      · intro g w hb hdep; replace hL := hL.grow hb; clear hdep; simp only [fillD, fLa, fLb, sTa, sTb]
        go_wp2
        exact cY
      simp only [apN, apC]
      apply draw_val
      · intro g w hb hdep; replace hL := hL.grow hb; have d1 := yv hdep 1; clear hdep; simp only [fillD, fLa, fLb, sTa, sTb]; simp only [d1]
        go_wp2_with (first | (with_reducible refine lld hL ?_) | (with_reducible refine ldD hL ?_))
        exact cY
      simp only [apN, apC]
      apply draw_val
      · intro g w hb hdep; replace hL := hL.grow hb; clear hdep; simp only [fillD, fLa, fLb, sTa, sTb]
        go_wp2
        exact cY
      simp only [apN, apC]
      apply draw_val
      · intro g w hb hdep; replace hL := hL.grow hb; have d2 := yv hdep 2; have d3 := yv hdep 3; clear hdep; simp only [fillD, fLa, fLb, sTa, sTb]; simp only [d2, d3]
        (simp only [HP2.out]; go_wp2)
        exact cY
      simp only [apN, apC]
      apply draw_val
      · intro g w hb hdep; replace hL := hL.grow hb; have d4 := yv hdep 4; clear hdep; simp only [fillD, fLa, fLb, sTa, sTb]; simp only [d4]
        refine loc_loadB HR1.out hL rfl rfl ?_
        exact cY
      simp only [apN, apC]
      apply draw_val
      · intro g w hb hdep; replace hL := hL.grow hb; have d0 := yv hdep 0; have d5 := yv hdep 5; clear hdep; simp only [fillD, fLa, fLb, sTa, sTb]; simp only [d0, d5]
        go_wp2_with (go_at_call 54; refine (HSI.out _ _ hL.below).mono ?_; rintro e w3 ⟨rfl, hb3⟩; dsimp only)
        exact ⟨rfl, _, rfl, hb3, rfl⟩
      simp only [apN, apC]
      apply draw_val
      · intro g w hb hdep; replace hL := hL.grow hb; have d6 := yv hdep 6; clear hdep; simp only [fillD, fLa, fLb, sTa, sTb]; simp only [d6]
        go_wp2
        exact cY
      simp only [apN, apC]
      refine draw_end hL (by kernel_rfl) (by kernel_rfl) ?_
      intro g w2 hb hR; simp only [List.length_cons, List.length_nil, Nat.reduceAdd] at hR
      have e0 := yv hR 0
      have e1 := yv hR 1
      have e2 := yv hR 2
      have e3 := yv hR 3
      have e4 := yv hR 4
      have e5 := yv hR 5
      have e6 := yv hR 6
      have e7 := yv hR 7
      clear hR; simp only [fillD, fLa, fLb, sTa, sTb]
      simp only [e0, e1, e2, e3, e4, e5, e6, e7]
      clear e0 e1 e2 e3 e4 e5 e6 e7
      replace hL := hL.grow hb
      clear hb
      cases hd : isSite p is x with
      | false =>
        have HAN := Lib.hid (anyN_yes (q := fun k => !isSite p is (l.getD k 0)) hlt (by show (!isSite p is (l.getD k 0)) = true; rw [HX.out, hd]; rfl))
        clear hd
        go_wp2_with (first | (with_reducible refine lld hL ?_) | ((with_reducible first | refine lbx hL ?_ | refine lal hL ?_ | refine lbs hL ?_); clear hL; intro bl w1 hL) | ((with_reducible refine lst' hL ?_); clear hL; intro w1 hL))
        (try simp only [Exit.inBlock, Exit.then]); refine' ret1 rfl ?_ rfl ?_; (case refine'_2 => exact cRes)
        exact ⟨by rw [HF2.out, if_pos (show siteBadG p is l = true from HAN.out)]; rfl, hL.below⟩
      | true =>
        have HD := Lib.hid hd
        clear hd
        go_wp2_with (first | (with_reducible refine lld hL ?_) | ((with_reducible first | refine lbx hL ?_ | refine lal hL ?_ | refine lbs hL ?_); clear hL; intro bl w1 hL) | ((with_reducible refine lst' hL ?_); clear hL; intro w1 hL))
        go_roundw
        case rel =>
          refine ⟨k + 1, by omega, by go_num, fun j hj => ?_, hL⟩
          rcases Nat.lt_or_ge j k with h | h
          · exact HQ.out j h
          · obtain rfl : j = k := by omega
            rw [HX.out, HD.out]; rfl
        case measure => simp [intOf]; omega
    · obtain rfl : k = l.length := by omega
      have HF3 := Lib.hid (HF2.out.trans (if_neg (by rw [show siteBadG p is l = false from anyN_no HQ.out]; decide)))
      clear HQ HF2 HSI
      go_wp2_with (first | (with_reducible refine lld hL ?_) | ((with_reducible first | refine lbx hL ?_ | refine lal hL ?_ | refine lbs hL ?_); clear hL; intro bl w1 hL) | ((with_reducible refine lst' hL ?_); clear hL; intro w1 hL))
      go_loopw [7] (fun c wr => ∃ i : Nat, 1 ≤ i ∧ i ≤ l.length + 1 ∧ c = .int .i64 i ∧ (∀ j, j + 1 < i → decide (l.getD (j + 1) 0 ≤ l.getD j 0) = false) ∧ Loc w wr [(b3, 29, [.bool gl, .bool gn, .int .i64 glo, .int .i64 ghi, .bool gt, .bool gf, .slice gp l.length gc]), (b2, 24, [.int .i64 p.vars, .int .i64 p.fields, .slice p.pc p.n p.cap])] []) (fun c _ => l.length + 1 - (intOf c).toNat)
      case atStart => exact ⟨1, by omega, by omega, rfl, fun j hj => absurd hj (by omega), hL⟩
      case round =>
        obtain ⟨i, hi1, hi2, rfl, hq, hL⟩ := hrel
        have HQ := Lib.hid hq
        clear hq
        by_cases hlt : i < l.length
        · have HP2 := Lib.hid (HP.out (by omega))
          obtain ⟨k, hk⟩ : ∃ k, i = k + 1 := ⟨i - 1, by omega⟩
          have hr := HC.out i hlt
          have hr2 := HC.out k (by omega)
          have HIK := Lib.hid (show ((i : Int) - 1) = (k : Int) by omega)
          have HK := Lib.hid hk
          have hk1 : k < l.length := by omega
          generalize hx : l.getD i 0 = x at hr
          generalize hy : l.getD k 0 = y at hr2
          have HX := Lib.hid hx
          have HY := Lib.hid hy
          have HR1 := Lib.hid hr
          have HR2 := Lib.hid hr2
          clear hx hr hy hr2 hk
          go_upto_region 12 with (first | (with_reducible refine lld hL ?_) | ((with_reducible first | refine lbx hL ?_ | refine lal hL ?_ | refine lbs hL ?_); clear hL; intro bl w1 hL) | ((with_reducible refine lst' hL ?_); clear hL; intro w1 hL))
          refine draw_begin [36, 37, 38, 39, 40, 41, 42, 43, 44, 45, 46, 47] ?_
          apply draw_val
          · intro g w hb hdep; replace hL := hL.grow hb; clear hdep; simp only [fillD, fLa, fLb, sTa, sTb]
            go_wp2
            exact cY
          simp only [apN, apC]
          apply draw_val
          · intro g w hb hdep; replace hL := hL.grow hb; have d0 := yv hdep 0; clear hdep; simp only [fillD, fLa, fLb, sTa, sTb]; simp only [d0]
            go_wp2_with (first | (with_reducible refine lld hL ?_) | (with_reducible refine ldD hL ?_))
            exact cY
          simp only [apN, apC]
          apply draw_val
          · intro g w hb hdep; replace hL := hL.grow hb; clear hdep; simp only [fillD, fLa, fLb, sTa, sTb]
            go_wp2
            exact cY
          simp only [apN, apC]
          apply draw_val
          · intro g w hb hdep; replace hL := hL.grow hb; have d1 := yv hdep 1; have d2 := yv hdep 2; clear hdep; simp only [fillD, fLa, fLb, sTa, sTb]; simp only [d1, d2]
            (simp only [HP2.out]; go_wp2)
            exact cY
          simp only [apN, apC]
          apply draw_val
          · intro g w hb hdep; replace hL := hL.grow hb; have d3 := yv hdep 3; clear hdep; simp only [fillD, fLa, fLb, sTa, sTb]; simp only [d3]
            refine loc_loadB HR1.out hL rfl rfl ?_
            exact cY
          simp only [apN, apC]
          apply draw_val
          · intro g w hb hdep; replace hL := hL.grow hb; clear hdep; simp only [fillD, fLa, fLb, sTa, sTb]
            go_wp2
            exact cY
          simp only [apN, apC]
          apply draw_val
          · intro g w hb hdep; replace hL := hL.grow hb; have d5 := yv hdep 5; clear hdep; simp only [fillD, fLa, fLb, sTa, sTb]; simp only [d5]
            go_wp2_with (first | (with_reducible refine lld hL ?_) | (with_reducible refine ldD hL ?_))
            exact cY
          simp only [apN, apC]
          apply draw_val
          · intro g w hb hdep; replace hL := hL.grow hb; clear hdep; simp only [fillD, fLa, fLb, sTa, sTb]
            go_wp2
            exact cY
          simp only [apN, apC]
          apply draw_val
          · intro g w hb hdep; replace hL := hL.grow hb; have d7 := yv hdep 7; clear hdep; simp only [fillD, fLa, fLb, sTa, sTb]; simp only [d7]
            go_wp2
            exact cY
          simp only [apN, apC]
          apply draw_val
          · intro g w hb hdep; replace hL := hL.grow hb; have d6 := yv hdep 6; have d8 := yv hdep 8; clear hdep; simp only [fillD, fLa, fLb, sTa, sTb]; simp only [d6, d8]
            (simp only [HP2.out, HIK.out]; go_wp2)
            exact cY
          simp only [apN, apC]
          apply draw_val
          · intro g w hb hdep; replace hL := hL.grow hb; have d9 := yv hdep 9; clear hdep; simp only [fillD, fLa, fLb, sTa, sTb]; simp only [d9]
            refine loc_loadB HR2.out hL rfl rfl ?_
            exact cY
          simp only [apN, apC]
          apply draw_val
          · intro g w hb hdep; replace hL := hL.grow hb; have d4 := yv hdep 4; have d10 := yv hdep 10; clear hdep; simp only [fillD, fLa, fLb, sTa, sTb]; simp only [d4, d10]
            go_wp2
            exact cY
          simp only [apN, apC]
          refine draw_end hL (by kernel_rfl) (by kernel_rfl) ?_
          intro g w2 hb hR; simp only [List.length_cons, List.length_nil, Nat.reduceAdd] at hR
          have e0 := yv hR 0
          have e1 := yv hR 1
          have e2 := yv hR 2
          have e3 := yv hR 3
          have e4 := yv hR 4
          have e5 := yv hR 5
          have e6 := yv hR 6
          have e7 := yv hR 7
          have e8 := yv hR 8
          have e9 := yv hR 9
          have e10 := yv hR 10
          have e11 := yv hR 11
          clear hR; simp only [fillD, fLa, fLb, sTa, sTb]
          simp only [e0, e1, e2, e3, e4, e5, e6, e7, e8, e9, e10, e11]
          clear e0 e1 e2 e3 e4 e5 e6 e7 e8 e9 e10 e11
          replace hL := hL.grow hb
          clear hb
          cases hd : decide (x ≤ y) with
          | true =>
            have HAN := Lib.hid (dropI_yes (l := l) (k := k) (by rw [← HK.out]; exact hlt) (by rw [← HK.out, HX.out, HY.out]; exact hd))
            clear hd
            go_wp2_with (first | (with_reducible refine lld hL ?_) | ((with_reducible first | refine lbx hL ?_ | refine lal hL ?_ | refine lbs hL ?_); clear hL; intro bl w1 hL) | ((with_reducible refine lst' hL ?_); clear hL; intro w1 hL))
            (try simp only [Exit.inBlock, Exit.then]); refine' ret1 rfl ?_ rfl ?_; (case refine'_2 => exact cRes)
            exact ⟨by rw [HF3.out, if_pos HAN.out]; rfl, hL.below⟩
          | false =>
            have HD := Lib.hid hd
            clear hd
            go_wp2_with (first | (with_reducible refine lld hL ?_) | ((with_reducible first | refine lbx hL ?_ | refine lal hL ?_ | refine lbs hL ?_); clear hL; intro bl w1 hL) | ((with_reducible refine lst' hL ?_); clear hL; intro w1 hL))
            go_roundw
            case rel =>
              refine ⟨i + 1, by omega, by omega, by go_num, fun j hj => ?_, hL⟩
              rcases Nat.lt_or_ge (j + 1) i with h | h
              · exact HQ.out j h
              · have hj2 := HK.out
                obtain rfl : j = k := by omega
                rw [← hj2, HX.out, HY.out]
                exact HD.out
            case measure => simp [intOf]; omega
        · have HAN := Lib.hid (show dropI l = false from anyN_no fun j hj => HQ.out j (by omega))
          clear HQ
          go_wp2_with (first | (with_reducible refine lld hL ?_) | ((with_reducible first | refine lbx hL ?_ | refine lal hL ?_ | refine lbs hL ?_); clear hL; intro bl w1 hL) | ((with_reducible refine lst' hL ?_); clear hL; intro w1 hL))
          (try simp only [Exit.inBlock, Exit.then]); refine' ret1 rfl ?_ rfl ?_; (case refine'_2 => exact cRes)
          exact ⟨by rw [HF3.out, HAN.out]; rfl, hL.below⟩
end Go.Proofs.YteimpfplgdhclaaGreat
