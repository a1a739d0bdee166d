/- The walks over the machine's take and onward. Conditions: the indexes and numbers that a right program and a right run have; the inputs lie in memory that was there. -/
import Derived.Test.YtkdbehgekeidoaaDoorRunK
set_option linter.unusedSimpArgs false
set_option linter.unusedVariables false
namespace Go.Proofs.YtkdbehgekeidoaaDoor
open Go.RowKit

def InputsAt (w : World) (ins : Sl) (xs : Nat → Int) : Prop := ListC w 1 ins.p ins.n (fun k => [.int .i64 (xs k)]) ∧ ins.n ≤ 9223372036854775807
def inputV (i : Ins) (ins : Sl) (xs : Nat → Int) (s : Rs) : Int := if s.taken < ins.n then max (-i.n) (min i.n (xs s.taken.toNat)) else 0
def takeS (i : Ins) (t : Nat) (ins : Sl) (xs : Nat → Int) (s : Rs) : Rs := Rs.set { s with taken := wrap64 (s.taken + 1) } t ⟨1, inputV i ins xs s⟩

set_option maxRecDepth 100000 in
set_option maxHeartbeats 4000000 in
theorem take_any (w0 : World) (bm : Nat) (p : Pg) (ins : Sl) (xs : Nat → Int) (s : Rs) (i : Ins) (t : Nat) (w : World) (h : Mach w0 bm p ins s w) (hin : InputsAt w0 ins xs) (hi : i.to = t) (ht : t < s.vars.length) (hn : 0 ≤ i.n ∧ i.n ≤ 1000000) (htk : 0 ≤ s.taken ∧ s.taken ≤ 9223372036854775807) (hat : 0 ≤ s.at' ∧ s.at' ≤ 1000000) :
    Calls Tryd.prog 45 #[.pointer (some ⟨bm, 0, none⟩), i.v] w fun e w' => e = .returned (.tuple #[]) ∧ Mach w0 bm p ins (takeS i t ins xs s) w' := by
  obtain ⟨r, ts, Rv, Rt, Rl, Rf, hR, hL⟩ := h
  have hR2 : RowsR { r with taken := wrap64 (s.taken + 1) } { s with taken := wrap64 (s.taken + 1) } ts Rv Rt Rl Rf := ⟨hR.vars, hR.things, hR.lines, hR.fields, hR.a, rfl, hR.e⟩
  have hrt := hR.t
  obtain ⟨hl, hm⟩ := hin
  obtain ⟨b, o, hp, hc⟩ := hl.ex
  have HP := Lib.hid hp
  have HC := Lib.hid hc
  have HX := Lib.hid (And.intro ht hat)
  obtain ⟨kind, to, ia, ib, num, goto⟩ := i
  obtain ⟨ra, rv, rg, rk, rl, re⟩ := r
  dsimp only at hi hn hrt hR2
  subst hi
  subst hrt
  have HR := Lib.hid hR2
  obtain ⟨hn0, hn1⟩ := hn
  obtain ⟨ht0, ht1⟩ := htk
  clear hR hR2 hp hc ht hat hl
  by_cases hlt : s.taken < ins.n
  · obtain ⟨k, hk⟩ : ∃ k : Nat, s.taken = k := ⟨s.taken.toNat, by omega⟩
    have hkn : k < ins.n := by omega
    have HP2 := Lib.hid (HP.out (by omega))
    have HRd := Lib.hid (show ReadsAt Tryd.prog 3 w0 b (o + k) (.int .i64 (xs k)) by have h := ReadsAt.cell (P := Tryd.prog) tInt (HC.out k hkn).1 ((HC.out k hkn).2 0 _ rfl); rw [Nat.mul_one, Nat.add_zero] at h; exact h)
    have HT := Lib.hid (show takeS ⟨kind, t, ia, ib, num, goto⟩ t ins xs s = Rs.set { s with taken := wrap64 (s.taken + 1) } t ⟨1, max (-num) (min num (xs k))⟩ by
      unfold takeS inputV; rw [if_pos hlt, hk]; rfl)
    have HK := Lib.hid hk
    generalize hs : s.taken = st at hlt hk HT HR hL ht0 ht1 ⊢
    subst hk
    clear HP HC
    go_enter Tryd.func45, Tryd.ntmps45
    go_upto_region 2 with (first | (with_reducible refine lld hL ?_) | ((with_reducible first | refine lbx hL ?_ | refine lal hL ?_ | refine lbs hL ?_); clear hL; intro bl w1 hL) | ((with_reducible refine lst' hL ?_); clear hL; intro w1 hL))
    refine draw_begin [5, 6, 7, 8, 9, 10, 11, 12, 13, 14, 15] ?_
    apply draw_val
    · intro g w hb hdep; replace hL := hL.grow hb; clear hdep; simp only [fillD, fLa, fLb, sTa, sTb]
      go_wp2
      exact cY
    simp only [apN, apC]
    apply draw_val
    · intro g w hb hdep; replace hL := hL.grow hb; have d0 := yv hdep 0; clear hdep; simp only [fillD, fLa, fLb, sTa, sTb]; simp only [d0]
      go_wp2
      exact cY
    simp only [apN, apC]
    apply draw_val
    · intro g w hb hdep; replace hL := hL.grow hb; have d1 := yv hdep 1; clear hdep; simp only [fillD, fLa, fLb, sTa, sTb]; simp only [d1]
      go_wp2
      exact cY
    simp only [apN, apC]
    apply draw_val
    · intro g w hb hdep; replace hL := hL.grow hb; have d2 := yv hdep 2; clear hdep; simp only [fillD, fLa, fLb, sTa, sTb]; simp only [d2]
      go_wp2
      exact cY
    simp only [apN, apC]
    apply draw_val
    · intro g w hb hdep; replace hL := hL.grow hb; have d3 := yv hdep 3; clear hdep; simp only [fillD, fLa, fLb, sTa, sTb]; simp only [d3]
      go_wp2_with (first | (with_reducible refine lld hL ?_) | (with_reducible refine ldD hL ?_))
      exact cY
    simp only [apN, apC]
    apply draw_val
    · intro g w hb hdep; replace hL := hL.grow hb; clear hdep; simp only [fillD, fLa, fLb, sTa, sTb]
      go_wp2
      exact cY
    simp only [apN, apC]
    apply draw_val
    · intro g w hb hdep; replace hL := hL.grow hb; have d5 := yv hdep 5; clear hdep; simp only [fillD, fLa, fLb, sTa, sTb]; simp only [d5]
      go_wp2
      exact cY
    simp only [apN, apC]
    apply draw_val
    · intro g w hb hdep; replace hL := hL.grow hb; have d6 := yv hdep 6; clear hdep; simp only [fillD, fLa, fLb, sTa, sTb]; simp only [d6]
      go_wp2
      exact cY
    simp only [apN, apC]
    apply draw_val
    · intro g w hb hdep; replace hL := hL.grow hb; have d7 := yv hdep 7; clear hdep; simp only [fillD, fLa, fLb, sTa, sTb]; simp only [d7]
      go_wp2_with (first | (with_reducible refine lld hL ?_) | (with_reducible refine ldD hL ?_))
      exact cY
    simp only [apN, apC]
    apply draw_val
    · intro g w hb hdep; replace hL := hL.grow hb; have d8 := yv hdep 8; clear hdep; simp only [fillD, fLa, fLb, sTa, sTb]; simp only [d8]
      go_wp2
      exact cY
    simp only [apN, apC]
    apply draw_val
    · intro g w hb hdep; replace hL := hL.grow hb; have d4 := yv hdep 4; have d9 := yv hdep 9; clear hdep; simp only [fillD, fLa, fLb, sTa, sTb]; simp only [d4, d9]
      go_wp2
      exact cY
    simp only [apN, apC]
    refine draw_end hL (by kernel_rfl) (by kernel_rfl) ?_
    intro g w2 hb hR; simp only [List.length_cons, List.length_nil, Nat.reduceAdd] at hR
    have e0 := yv hR 0
    have e1 := yv hR 1
    have e2 := yv hR 2
    have e3 := yv hR 3
    have e4 := yv hR 4
    have e5 := yv hR 5
    have e6 := yv hR 6
    have e7 := yv hR 7
    have e8 := yv hR 8
    have e9 := yv hR 9
    have e10 := yv hR 10
    clear hR; simp only [fillD, fLa, fLb, sTa, sTb]
    simp only [e0, e1, e2, e3, e4, e5, e6, e7, e8, e9, e10]
    clear e0 e1 e2 e3 e4 e5 e6 e7 e8 e9 e10
    replace hL := hL.grow hb
    clear hb
    go_upto_region 3 with (first | (with_reducible refine lld hL ?_) | ((with_reducible first | refine lbx hL ?_ | refine lal hL ?_ | refine lbs hL ?_); clear hL; intro bl w1 hL) | ((with_reducible refine lst' hL ?_); clear hL; intro w1 hL))
    refine draw_begin [16, 17, 18, 19, 20, 21, 22, 23, 24, 25, 26, 27, 28, 29, 30, 31, 32, 33, 4] ?_
    apply draw_val
    · intro g w hb hdep; replace hL := hL.grow hb; clear hdep; simp only [fillD, fLa, fLb, sTa, sTb]
      go_wp2
      exact cY
    simp only [apN, apC]
    apply draw_val
    · intro g w hb hdep; replace hL := hL.grow hb; have d0 := yv hdep 0; clear hdep; simp only [fillD, fLa, fLb, sTa, sTb]; simp only [d0]
      go_wp2_with (first | (with_reducible refine lld hL ?_) | (with_reducible refine ldD hL ?_))
      exact cY
    simp only [apN, apC]
    apply draw_val
    · intro g w hb hdep; replace hL := hL.grow hb; have d1 := yv hdep 1; clear hdep; simp only [fillD, fLa, fLb, sTa, sTb]; simp only [d1]
      go_wp2
      exact cY
    simp only [apN, apC]
    apply draw_val
    · intro g w hb hdep; replace hL := hL.grow hb; clear hdep; simp only [fillD, fLa, fLb, sTa, sTb]
      go_wp2
      exact cY
    simp only [apN, apC]
    apply draw_val
    · intro g w hb hdep; replace hL := hL.grow hb; have d3 := yv hdep 3; clear hdep; simp only [fillD, fLa, fLb, sTa, sTb]; simp only [d3]
      go_wp2_with (first | (with_reducible refine lld hL ?_) | (with_reducible refine ldD hL ?_))
      exact cY
    simp only [apN, apC]
    apply draw_val
    · intro g w hb hdep; replace hL := hL.grow hb; clear hdep; simp only [fillD, fLa, fLb, sTa, sTb]
      go_wp2
      exact cY
    simp only [apN, apC]
    apply draw_val
    · intro g w hb hdep; replace hL := hL.grow hb; have d5 := yv hdep 5; clear hdep; simp only [fillD, fLa, fLb, sTa, sTb]; simp only [d5]
      go_wp2
      exact cY
    simp only [apN, apC]
    apply draw_val
    · intro g w hb hdep; replace hL := hL.grow hb; have d6 := yv hdep 6; clear hdep; simp only [fillD, fLa, fLb, sTa, sTb]; simp only [d6]
      go_wp2
      exact cY
    simp only [apN, apC]
    apply draw_val
    · intro g w hb hdep; replace hL := hL.grow hb; have d7 := yv hdep 7; clear hdep; simp only [fillD, fLa, fLb, sTa, sTb]; simp only [d7]
      go_wp2_with (first | (with_reducible refine lld hL ?_) | (with_reducible refine ldD hL ?_))
      exact cY
    simp only [apN, apC]
    apply draw_val
    · intro g w hb hdep; replace hL := hL.grow hb; clear hdep; simp only [fillD, fLa, fLb, sTa, sTb]
      go_wp2
      exact cY
    simp only [apN, apC]
    apply draw_val
    · intro g w hb hdep; replace hL := hL.grow hb; have d9 := yv hdep 9; clear hdep; simp only [fillD, fLa, fLb, sTa, sTb]; simp only [d9]
      go_wp2
      exact cY
    simp only [apN, apC]
    apply draw_val
    · intro g w hb hdep; replace hL := hL.grow hb; have d10 := yv hdep 10; clear hdep; simp only [fillD, fLa, fLb, sTa, sTb]; simp only [d10]
      go_wp2
      exact cY
    simp only [apN, apC]
    apply draw_val
    · intro g w hb hdep; replace hL := hL.grow hb; have d11 := yv hdep 11; clear hdep; simp only [fillD, fLa, fLb, sTa, sTb]; simp only [d11]
      go_wp2
      exact cY
    simp only [apN, apC]
    apply draw_val
    · intro g w hb hdep; replace hL := hL.grow hb; have d12 := yv hdep 12; clear hdep; simp only [fillD, fLa, fLb, sTa, sTb]; simp only [d12]
      go_wp2_with (first | (with_reducible refine lld hL ?_) | (with_reducible refine ldD hL ?_))
      exact cY
    simp only [apN, apC]
    apply draw_val
    · intro g w hb hdep; replace hL := hL.grow hb; have d8 := yv hdep 8; have d13 := yv hdep 13; clear hdep; simp only [fillD, fLa, fLb, sTa, sTb]; simp only [d8, d13]
      (simp only [HP2.out]; go_wp2)
      exact cY
    simp only [apN, apC]
    apply draw_val
    · intro g w hb hdep; replace hL := hL.grow hb; have d14 := yv hdep 14; clear hdep; simp only [fillD, fLa, fLb, sTa, sTb]; simp only [d14]
      refine loc_loadB HRd.out hL rfl rfl ?_
      exact cY
    simp only [apN, apC]
    apply draw_val
    · intro g w hb hdep; replace hL := hL.grow hb; have d4 := yv hdep 4; have d15 := yv hdep 15; clear hdep; simp only [fillD, fLa, fLb, sTa, sTb]; simp only [d4, d15]
      go_wp2
      exact cY
    simp only [apN, apC]
    apply draw_val
    · intro g w hb hdep; replace hL := hL.grow hb; have d2 := yv hdep 2; have d16 := yv hdep 16; clear hdep; simp only [fillD, fLa, fLb, sTa, sTb]; simp only [d2, d16]
      go_wp2
      exact cY
    simp only [apN, apC]
    apply draw_val
    · intro g w hb hdep; replace hL := hL.grow hb; have d17 := yv hdep 17; clear hdep; simp only [fillD, fLa, fLb, sTa, sTb]; simp only [d17]
      go_wp2
      exact cY
    simp only [apN, apC]
    refine draw_end hL (by kernel_rfl) (by kernel_rfl) ?_
    intro g w3 hb hR; simp only [List.length_cons, List.length_nil, Nat.reduceAdd] at hR
    have e0 := yv hR 0
    have e1 := yv hR 1
    have e2 := yv hR 2
    have e3 := yv hR 3
    have e4 := yv hR 4
    have e5 := yv hR 5
    have e6 := yv hR 6
    have e7 := yv hR 7
    have e8 := yv hR 8
    have e9 := yv hR 9
    have e10 := yv hR 10
    have e11 := yv hR 11
    have e12 := yv hR 12
    have e13 := yv hR 13
    have e14 := yv hR 14
    have e15 := yv hR 15
    have e16 := yv hR 16
    have e17 := yv hR 17
    have e18 := yv hR 18
    clear hR; simp only [fillD, fLa, fLb, sTa, sTb]
    simp only [e0, e1, e2, e3, e4, e5, e6, e7, e8, e9, e10, e11, e12, e13, e14, e15, e16, e17, e18]
    clear e0 e1 e2 e3 e4 e5 e6 e7 e8 e9 e10 e11 e12 e13 e14 e15 e16 e17 e18
    replace hL := hL.grow hb
    clear hb
    have hw1 : wrap64 ((k : Int) + 1) = k + 1 := Go.IntWalk.wrap64_in _ (by omega)
    rw [hw1] at HR HT
    clear hw1
    go_wp2_with (first | (with_reducible refine lld hL ?_) | ((with_reducible first | refine lbx hL ?_ | refine lal hL ?_ | refine lbs hL ?_); clear hL; intro bl w1 hL) | ((with_reducible refine lst' hL ?_); clear hL; intro w1 hL) | (go_at_call 39; refine (set_any w0 bm p ins _ t ⟨_, _⟩ _ ⟨_, _, Rv, Rt, Rl, _, HR.out, hL.drop (List.sublist_cons_self _ _) (fun _ h => h)⟩ HX.out.1 HX.out.2).mono ?_; rintro e w3 ⟨rfl, hM⟩; dsimp only))
    (try simp only [Exit.inBlock, Exit.then]); (first | refine end0 rfl rfl ?_ | refine ret0 rfl rfl ?_)
    exact ⟨rfl, by rw [HT.out]; exact hM⟩
  · have HT := Lib.hid (show takeS ⟨kind, t, ia, ib, num, goto⟩ t ins xs s = Rs.set { s with taken := wrap64 (s.taken + 1) } t ⟨1, 0⟩ by
      unfold takeS inputV; rw [if_neg hlt])
    generalize hs : s.taken = st at hlt HT HR hL ht0 ht1 ⊢
    clear HP HC
    replace hlt : (ins.n : Int) ≤ st := by omega
    go_enter Tryd.func45, Tryd.ntmps45
    go_upto_region 2 with (first | (with_reducible refine lld hL ?_) | ((with_reducible first | refine lbx hL ?_ | refine lal hL ?_ | refine lbs hL ?_); clear hL; intro bl w1 hL) | ((with_reducible refine lst' hL ?_); clear hL; intro w1 hL))
    refine draw_begin [5, 6, 7, 8, 9, 10, 11, 12, 13, 14, 15] ?_
    apply draw_val
    · intro g w hb hdep; replace hL := hL.grow hb; clear hdep; simp only [fillD, fLa, fLb, sTa, sTb]
      go_wp2
      exact cY
    simp only [apN, apC]
    apply draw_val
    · intro g w hb hdep; replace hL := hL.grow hb; have d0 := yv hdep 0; clear hdep; simp only [fillD, fLa, fLb, sTa, sTb]; simp only [d0]
      go_wp2
      exact cY
    simp only [apN, apC]
    apply draw_val
    · intro g w hb hdep; replace hL := hL.grow hb; have d1 := yv hdep 1; clear hdep; simp only [fillD, fLa, fLb, sTa, sTb]; simp only [d1]
      go_wp2
      exact cY
    simp only [apN, apC]
    apply draw_val
    · intro g w hb hdep; replace hL := hL.grow hb; have d2 := yv hdep 2; clear hdep; simp only [fillD, fLa, fLb, sTa, sTb]; simp only [d2]
      go_wp2
      exact cY
    simp only [apN, apC]
    apply draw_val
    · intro g w hb hdep; replace hL := hL.grow hb; have d3 := yv hdep 3; clear hdep; simp only [fillD, fLa, fLb, sTa, sTb]; simp only [d3]
      go_wp2_with (first | (with_reducible refine lld hL ?_) | (with_reducible refine ldD hL ?_))
      exact cY
    simp only [apN, apC]
    apply draw_val
    · intro g w hb hdep; replace hL := hL.grow hb; clear hdep; simp only [fillD, fLa, fLb, sTa, sTb]
      go_wp2
      exact cY
    simp only [apN, apC]
    apply draw_val
    · intro g w hb hdep; replace hL := hL.grow hb; have d5 := yv hdep 5; clear hdep; simp only [fillD, fLa, fLb, sTa, sTb]; simp only [d5]
      go_wp2
      exact cY
    simp only [apN, apC]
    apply draw_val
    · intro g w hb hdep; replace hL := hL.grow hb; have d6 := yv hdep 6; clear hdep; simp only [fillD, fLa, fLb, sTa, sTb]; simp only [d6]
      go_wp2
      exact cY
    simp only [apN, apC]
    apply draw_val
    · intro g w hb hdep; replace hL := hL.grow hb; have d7 := yv hdep 7; clear hdep; simp only [fillD, fLa, fLb, sTa, sTb]; simp only [d7]
      go_wp2_with (first | (with_reducible refine lld hL ?_) | (with_reducible refine ldD hL ?_))
      exact cY
    simp only [apN, apC]
    apply draw_val
    · intro g w hb hdep; replace hL := hL.grow hb; have d8 := yv hdep 8; clear hdep; simp only [fillD, fLa, fLb, sTa, sTb]; simp only [d8]
      go_wp2
      exact cY
    simp only [apN, apC]
    apply draw_val
    · intro g w hb hdep; replace hL := hL.grow hb; have d4 := yv hdep 4; have d9 := yv hdep 9; clear hdep; simp only [fillD, fLa, fLb, sTa, sTb]; simp only [d4, d9]
      go_wp2
      exact cY
    simp only [apN, apC]
    refine draw_end hL (by kernel_rfl) (by kernel_rfl) ?_
    intro g w2 hb hR; simp only [List.length_cons, List.length_nil, Nat.reduceAdd] at hR
    have e0 := yv hR 0
    have e1 := yv hR 1
    have e2 := yv hR 2
    have e3 := yv hR 3
    have e4 := yv hR 4
    have e5 := yv hR 5
    have e6 := yv hR 6
    have e7 := yv hR 7
    have e8 := yv hR 8
    have e9 := yv hR 9
    have e10 := yv hR 10
    clear hR; simp only [fillD, fLa, fLb, sTa, sTb]
    simp only [e0, e1, e2, e3, e4, e5, e6, e7, e8, e9, e10]
    clear e0 e1 e2 e3 e4 e5 e6 e7 e8 e9 e10
    replace hL := hL.grow hb
    clear hb
    go_wp2_with (first | (with_reducible refine lld hL ?_) | ((with_reducible first | refine lbx hL ?_ | refine lal hL ?_ | refine lbs hL ?_); clear hL; intro bl w1 hL) | ((with_reducible refine lst' hL ?_); clear hL; intro w1 hL) | (go_at_call 39; refine (set_any w0 bm p ins _ t ⟨_, _⟩ _ ⟨_, _, Rv, Rt, Rl, _, HR.out, hL.drop (List.sublist_cons_self _ _) (fun _ h => h)⟩ HX.out.1 HX.out.2).mono ?_; rintro e w3 ⟨rfl, hM⟩; dsimp only))
    (try simp only [Exit.inBlock, Exit.then]); (first | refine end0 rfl rfl ?_ | refine ret0 rfl rfl ?_)
    exact ⟨rfl, by rw [HT.out]; exact hM⟩
end Go.Proofs.YtkdbehgekeidoaaDoor
