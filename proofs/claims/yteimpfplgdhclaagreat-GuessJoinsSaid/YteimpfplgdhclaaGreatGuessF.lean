/- The walks over ready, Check and the reference's CheckGuesses. Conditions: what they read lies in memory that was there. -/
import Derived.Test.YteimpfplgdhclaaGreatGuessE
set_option linter.unusedSimpArgs false
set_option linter.unusedVariables false
namespace Go.Proofs.YteimpfplgdhclaaGreat
open Go.RowKit

/-- The first errno that is none. -/
def errs (e : Int) (f : Nat → Int) : Nat → Int
  | 0 => e
  | n + 1 => if errs e f n ≠ 0 then errs e f n else f n
theorem errs_stop {e : Int} {f : Nat → Int} {k n : Nat} (hk : k ≤ n) (h : errs e f k ≠ 0) : errs e f n = errs e f k := by
  induction n with
  | zero => obtain rfl : k = 0 := by omega
            rfl
  | succ n ih =>
    rcases Nat.lt_or_ge n k with h1 | h1
    · obtain rfl : k = n + 1 := by omega
      rfl
    · rw [errs, ih h1, if_pos h]
theorem errs_next {e : Int} {f : Nat → Int} {k : Nat} (h : errs e f k = 0) : errs e f (k + 1) = f k := by
  rw [errs, if_neg (by rw [h]; decide)]
def checkGs (p : Pg) (is : Nat → Ins) (gs : Nat → Gu) (ls : Nat → List Int) (n : Nat) : Int := errs (checkProg p is) (fun k => rightG p is (gs k) (ls k)) n
/-- Guesses in memory, one behind the other, and their sites. -/
structure GusAt (w : World) (p : Option Addr) (n : Nat) (gs : Nat → Gu) (ls : Nat → List Int) : Prop where
  at' : ListAt Tryz.prog 29 7 w p n (fun k => (gs k).v)
  sites : ∀ k, k < n → IntsAt w (gs k).s (ls k)
  m : n ≤ 9223372036854775807

set_option maxRecDepth 100000 in
set_option maxHeartbeats 4000000 in
theorem ready_any (p : Pg) (is : Nat → Ins) (lp : Option Addr) (n cap : Nat) (gs : Nat → Gu) (ls : Nat → List Int) (w : World) (hn : p.n ≤ 9223372036854775807) (hc : CodeAt w p is) (hg : GusAt w lp n gs ls) :
    Calls Tryz.prog 20 #[p.v, .slice lp n cap] w fun e w' => e = .returned (.int .i64 (checkGs p is gs ls n)) ∧ Below w.heap.size w w' := by
  obtain ⟨b, o, hpp, hcc⟩ := hg.at'.ex
  have hm := hg.m
  have HP := Lib.hid hpp
  have HC := Lib.hid hcc
  have HG := Lib.hid (fun k hk w' (hb : Below w.heap.size w w') => gright_any p is (gs k) (ls k) w' (hc.grow hb) ((hg.sites k hk).grow hb))
  have hs := fun w' (hb : Below w.heap.size w w') => codeCheck_any p is w' (hc.grow hb) hn
  have HF := Lib.hid (show checkGs p is gs ls n = errs (checkProg p is) (fun k => rightG p is (gs k) (ls k)) n from rfl)
  generalize checkProg p is = cp at hs HF
  have HS := Lib.hid hs
  clear hpp hcc hs hc hg
  have hL := Loc.start w
  go_enter Tryz.func20, Tryz.ntmps20
  go_step
  go_step
  go_step
  ((with_reducible refine lbx hL ?_); clear hL; intro b2 w1 hL)
  by_cases h0 : cp = 0
  case neg =>
    have k0 : (cp != 0) = true := by simpa using h0
    have HX := Lib.hid (show checkGs p is gs ls n = cp from HF.out.trans (errs_stop (k := 0) (Nat.zero_le _) h0))
    clear h0
    go_wp2_with (first | (with_reducible refine lld hL ?_) | ((with_reducible first | refine lbx hL ?_ | refine lal hL ?_ | refine lbs hL ?_); clear hL; intro bl w1 hL) | ((with_reducible refine lst' hL ?_); clear hL; intro w1 hL) | (go_at_call 43; refine (HS.out _ hL.below).mono ?_; rintro e w1 ⟨rfl, hb⟩; replace hL := hL.grow hb; clear hb; dsimp only))
    (try simp only [Exit.inBlock, Exit.then]); refine' ret1 rfl ?_ rfl ?_; (case refine'_2 => exact cRes)
    exact ⟨by rw [HX.out]; rfl, hL.below⟩
  subst h0
  go_wp2_with (first | (with_reducible refine lld hL ?_) | ((with_reducible first | refine lbx hL ?_ | refine lal hL ?_ | refine lbs hL ?_); clear hL; intro bl w1 hL) | ((with_reducible refine lst' hL ?_); clear hL; intro w1 hL) | (go_at_call 43; refine (HS.out _ hL.below).mono ?_; rintro e w1 ⟨rfl, hb⟩; replace hL := hL.grow hb; clear hb; dsimp only))
  go_loopw [16] (fun c wr => ∃ k : Nat, k ≤ n ∧ c = .int .i64 k ∧ errs 0 (fun k => rightG p is (gs k) (ls k)) k = 0 ∧ Loc w wr [(b2, 24, [.int .i64 p.vars, .int .i64 p.fields, .slice p.pc p.n p.cap])] []) (fun c _ => n - (intOf c).toNat)
  case atStart => exact ⟨0, Nat.zero_le _, rfl, rfl, hL⟩
  case round =>
    obtain ⟨k, hk, rfl, hq, hL⟩ := hrel
    have HQ := Lib.hid hq
    clear hq
    by_cases hlt : k < n
    · obtain rfl := HP.out (by omega)
      have hr := HC.out k hlt
      have hg1 := HG.out k hlt
      have he := errs_next HQ.out
      try dsimp only at he hr
      generalize hrg : rightG p is (gs k) (ls k) = r at hg1 he
      generalize gs k = g at hr hg1
      obtain ⟨gl, ⟨gn, glo, ghi⟩, gt, gf, ⟨gp, gk, gc⟩⟩ := g
      try dsimp only [Gu.v] at hr hg1
      have HR := Lib.hid hr
      have HG1 := Lib.hid hg1
      have HE := Lib.hid he
      clear hr hg1 he hrg
      by_cases h1 : r = 0
      case neg =>
        have k1 : (r != 0) = true := by simpa using h1
        have HX := Lib.hid (show checkGs p is gs ls n = r from HF.out.trans ((errs_stop (k := k + 1) (by omega) (by rw [HE.out]; exact h1)).trans HE.out))
        clear h1
        go_wp2_with (first | (with_reducible refine lld hL ?_) | ((with_reducible first | refine lbx hL ?_ | refine lal hL ?_ | refine lbs hL ?_); clear hL; intro bl w1 hL) | ((with_reducible refine lst' hL ?_); clear hL; intro w1 hL) | (refine loc_loadB HR.out hL (by exact cWant) rfl ?_) | (go_at_call 44; refine (HG1.out _ hL.below).mono ?_; rintro e w1 ⟨rfl, hb⟩; replace hL := hL.grow hb; clear hb; dsimp only))
        (try simp only [Exit.inBlock, Exit.then]); refine' ret1 rfl ?_ rfl ?_; (case refine'_2 => exact cRes)
        exact ⟨by rw [HX.out]; rfl, hL.below⟩
      subst h1
      go_wp2_with (first | (with_reducible refine lld hL ?_) | ((with_reducible first | refine lbx hL ?_ | refine lal hL ?_ | refine lbs hL ?_); clear hL; intro bl w1 hL) | ((with_reducible refine lst' hL ?_); clear hL; intro w1 hL) | (refine loc_loadB HR.out hL (by exact cWant) rfl ?_) | (go_at_call 44; refine (HG1.out _ hL.below).mono ?_; rintro e w1 ⟨rfl, hb⟩; replace hL := hL.grow hb; clear hb; dsimp only))
      go_roundw
      case rel => exact ⟨k + 1, by omega, by go_num, HE.out, hL.drop (List.sublist_cons_self _ _) (fun _ h => h)⟩
      case measure => simp [intOf]; omega
    · obtain rfl : k = n := by omega
      go_wp2_with (first | (with_reducible refine lld hL ?_) | ((with_reducible first | refine lbx hL ?_ | refine lal hL ?_ | refine lbs hL ?_); clear hL; intro bl w1 hL) | ((with_reducible refine lst' hL ?_); clear hL; intro w1 hL))
      (try simp only [Exit.inBlock, Exit.then]); refine' ret1 rfl ?_ rfl ?_; (case refine'_2 => exact cRes)
      exact ⟨by rw [HF.out, HQ.out]; rfl, hL.below⟩

set_option maxRecDepth 100000 in
set_option maxHeartbeats 4000000 in
theorem rCheckGuesses_any (p : Pg) (is : Nat → Ins) (lp : Option Addr) (n cap : Nat) (gs : Nat → Gu) (ls : Nat → List Int) (w : World) (hn : p.n ≤ 9223372036854775807) (hc : CodeAt w p is) (hg : GusAt w lp n gs ls) :
    Calls Tryz.prog 6 #[p.v, .slice lp n cap] w fun e w' => e = .returned (.int .i64 (checkGs p is gs ls n)) ∧ Below w.heap.size w w' := by
  obtain ⟨b, o, hpp, hcc⟩ := hg.at'.ex
  have hm := hg.m
  have HP := Lib.hid hpp
  have HC := Lib.hid hcc
  have HG := Lib.hid (fun k hk w' (hb : Below w.heap.size w w') => rCheckGuess_any p is (gs k) (ls k) w' hn (hc.grow hb) ((hg.sites k hk).grow hb))
  have hs := fun w' (hb : Below w.heap.size w w') => rCheckProgram_any p is w' (hc.grow hb) hn
  have HF := Lib.hid (show checkGs p is gs ls n = errs (checkProg p is) (fun k => rightG p is (gs k) (ls k)) n from rfl)
  generalize checkProg p is = cp at hs HF
  have HS := Lib.hid hs
  clear hpp hcc hs hc hg
  have hL := Loc.start w
  go_enter Tryz.func6, Tryz.ntmps6
  go_step
  go_step
  go_step
  ((with_reducible refine lbx hL ?_); clear hL; intro b2 w1 hL)
  go_wp2_with (first | (with_reducible refine lld hL ?_) | ((with_reducible first | refine lbx hL ?_ | refine lal hL ?_ | refine lbs hL ?_); clear hL; intro bl w1 hL) | ((with_reducible refine lst' hL ?_); clear hL; intro w1 hL) | (go_at_call 23; refine (HS.out _ hL.below).mono ?_; rintro e w1 ⟨rfl, hb⟩; replace hL := hL.grow hb; clear hb; dsimp only))
  go_loopw [5, 6] (fun c5 c6 wr => ∃ k : Nat, k ≤ n ∧ c5 = .int .i64 (errs cp (fun k => rightG p is (gs k) (ls k)) k) ∧ c6 = .int .i64 k ∧ Loc w wr [(b2, 24, [.int .i64 p.vars, .int .i64 p.fields, .slice p.pc p.n p.cap])] []) (fun _ c _ => n - (intOf c).toNat)
  case atStart => exact ⟨0, Nat.zero_le _, rfl, rfl, hL⟩
  case round =>
    obtain ⟨k, hk, rfl, rfl, hL⟩ := hrel
    generalize hq : errs cp (fun k => rightG p is (gs k) (ls k)) k = x
    have HQ := Lib.hid hq
    clear hq
    by_cases hlt : k < n
    · by_cases h1 : x = 0
      case neg =>
        have k1 : (x == 0) = false := by simpa using h1
        have HX := Lib.hid (show checkGs p is gs ls n = x from HF.out.trans ((errs_stop (k := k) (by omega) (by rw [HQ.out]; exact h1)).trans HQ.out))
        clear h1
        go_wp2_with (first | (with_reducible refine lld hL ?_) | ((with_reducible first | refine lbx hL ?_ | refine lal hL ?_ | refine lbs hL ?_); clear hL; intro bl w1 hL) | ((with_reducible refine lst' hL ?_); clear hL; intro w1 hL))
        (try simp only [Exit.inBlock, Exit.then]); refine' ret1 rfl ?_ rfl ?_; (case refine'_2 => exact cRes)
        exact ⟨by rw [HX.out]; rfl, hL.below⟩
      subst h1
      have HP2 := Lib.hid (HP.out (by omega))
      have hr := HC.out k hlt
      have hg1 := HG.out k hlt
      have he := errs_next HQ.out
      try dsimp only at he hr
      rw [← he] at hg1
      generalize gs k = g at hr hg1
      obtain ⟨gl, ⟨gn, glo, ghi⟩, gt, gf, ⟨gp, gk, gc⟩⟩ := g
      try dsimp only [Gu.v] at hr hg1
      have HR := Lib.hid hr
      have HG1 := Lib.hid hg1
      clear hr hg1 he
      go_upto_region 5 with (first | (with_reducible refine lld hL ?_) | ((with_reducible first | refine lbx hL ?_ | refine lal hL ?_ | refine lbs hL ?_); clear hL; intro bl w1 hL) | ((with_reducible refine lst' hL ?_); clear hL; intro w1 hL))
      refine draw_begin [19, 20, 21, 22, 23, 24, 5] ?_
      apply draw_val
      · intro g w hb hdep; replace hL := hL.grow hb; clear hdep; simp only [fillD, fLa, fLb, sTa, sTb]
        go_wp2_with (first | (with_reducible refine lld hL ?_) | (with_reducible refine ldD hL ?_))
        exact cY
      simp only [apN, apC]
      apply draw_val
      · intro g w hb hdep; replace hL := hL.grow hb; clear hdep; simp only [fillD, fLa, fLb, sTa, sTb]
        go_wp2
        exact cY
      simp only [apN, apC]
      apply draw_val
      · intro g w hb hdep; replace hL := hL.grow hb; clear hdep; simp only [fillD, fLa, fLb, sTa, sTb]
        go_wp2
        exact cY
      simp only [apN, apC]
      apply draw_val
      · intro g w hb hdep; replace hL := hL.grow hb; have d1 := yv hdep 1; have d2 := yv hdep 2; clear hdep; simp only [fillD, fLa, fLb, sTa, sTb]; simp only [d1, d2]
        (simp only [HP2.out]; go_wp2)
        exact cY
      simp only [apN, apC]
      apply draw_val
      · intro g w hb hdep; replace hL := hL.grow hb; have d3 := yv hdep 3; clear hdep; simp only [fillD, fLa, fLb, sTa, sTb]; simp only [d3]
        refine loc_loadB HR.out hL rfl rfl ?_
        exact cY
      simp only [apN, apC]
      apply draw_val
      · intro g w hb hdep; replace hL := hL.grow hb; have d0 := yv hdep 0; have d4 := yv hdep 4; clear hdep; simp only [fillD, fLa, fLb, sTa, sTb]; simp only [d0, d4]
        go_wp2_with (go_at_call 24; refine (HG1.out _ hL.below).mono ?_; rintro e w3 ⟨rfl, hb3⟩; dsimp only)
        exact ⟨rfl, _, rfl, hb3, rfl⟩
      simp only [apN, apC]
      apply draw_val
      · intro g w hb hdep; replace hL := hL.grow hb; have d5 := yv hdep 5; clear hdep; simp only [fillD, fLa, fLb, sTa, sTb]; simp only [d5]
        go_wp2
        exact cY
      simp only [apN, apC]
      refine draw_end hL (by kernel_rfl) (by kernel_rfl) ?_
      intro g w2 hb hR; simp only [List.length_cons, List.length_nil, Nat.reduceAdd] at hR
      have e0 := yv hR 0
      have e1 := yv hR 1
      have e2 := yv hR 2
      have e3 := yv hR 3
      have e4 := yv hR 4
      have e5 := yv hR 5
      have e6 := yv hR 6
      clear hR; simp only [fillD, fLa, fLb, sTa, sTb]
      simp only [e0, e1, e2, e3, e4, e5, e6]
      clear e0 e1 e2 e3 e4 e5 e6
      replace hL := hL.grow hb
      clear hb
      go_wp2_with (first | (with_reducible refine lld hL ?_) | ((with_reducible first | refine lbx hL ?_ | refine lal hL ?_ | refine lbs hL ?_); clear hL; intro bl w1 hL) | ((with_reducible refine lst' hL ?_); clear hL; intro w1 hL))
      go_roundw
      case rel => exact ⟨k + 1, by omega, rfl, by go_num, hL⟩
      case measure => simp [intOf]; omega
    · obtain rfl : k = n := by omega
      have HX := Lib.hid (show checkGs p is gs ls k = x from HF.out.trans HQ.out)
      go_wp2_with (first | (with_reducible refine lld hL ?_) | ((with_reducible first | refine lbx hL ?_ | refine lal hL ?_ | refine lbs hL ?_); clear hL; intro bl w1 hL) | ((with_reducible refine lst' hL ?_); clear hL; intro w1 hL))
      (try simp only [Exit.inBlock, Exit.then]); refine' ret1 rfl ?_ rfl ?_; (case refine'_2 => exact cRes)
      exact ⟨by rw [HX.out]; rfl, hL.below⟩
end Go.Proofs.YteimpfplgdhclaaGreat
