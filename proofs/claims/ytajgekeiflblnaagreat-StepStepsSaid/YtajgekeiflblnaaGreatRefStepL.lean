import Derived.Test.YtajgekeiflblnaaGreatRspa
import Derived.Test.YtajgekeiflblnaaGreatRspb
import Derived.Test.YtajgekeiflblnaaGreatRefStepJ
import Derived.Test.YtajgekeiflblnaaGreatRefStepK
import Derived.Test.YtajgekeiflblnaaGreatPicc
set_option linter.unusedSimpArgs false
set_option linter.unusedVariables false
set_option maxRecDepth 100000
namespace Go.Proofs.YtajgekeiflblnaaGreat
open Go.RowKit
theorem rsp_some (p : Pg) (is : Nat → Ins) (x : Pv) (d : Pd) (gx : List Gu) (at' : Nat) (w : World) (hp : checkProg p is = 0) (hc : CodeAt w p is) (hx : PicIs w x d) (hgx : GxIs w x d gx) (ok : OkPd p is d) (hat : at' < p.n) : RGoes p at' x d gx (stepD (is at') at' d) w := by
 have hr := ready_of ((prog_right hp).2 at' hat)
 rcases kinds19 hr.kd with hk | hk | hk | hk | hk | hk | hk | hk | hk | hk | hk | hk | hk
 ·exact rsp_1 p is _ x d gx at' w hp hc hx hgx ok hat rfl hk
 ·exact rsp_14 p is _ x d gx at' w hp hc hx hgx ok hat rfl hk
 ·have h2 := hr.n2 hk
  rcases (by omega : (is at').n = 0 ∨ (is at').n = 1) with h3 | h3
  ·exact rsp_2_0 p is _ x d gx at' w hp hc hx hgx ok hat rfl hk h3
  ·exact rsp_2_1 p is _ x d gx at' w hp hc hx hgx ok hat rfl hk h3
 ·exact rsp_3 p is _ x d gx at' w hp hc hx hgx ok hat rfl hk
 ·exact rsp_11 p is _ x d gx at' w hp hc hx hgx ok hat rfl hk
 ·exact rsp_12 p is _ x d gx at' w hp hc hx hgx ok hat rfl hk
 ·exact rsp_13 p is _ x d gx at' w hp hc hx hgx ok hat rfl hk
 ·exact rsp_15 p is _ x d gx at' w hp hc hx hgx ok hat rfl hk
 ·exact rsp_17 p is _ x d gx at' w hp hc hx hgx ok hat rfl hk
 ·exact rsp_16 p is _ x d gx at' w hp hc hx hgx ok hat rfl hk
 ·exact rsp_18 p is _ x d gx at' w hp hc hx hgx ok hat rfl hk
 ·exact rsp_19 p is _ x d gx at' w hp hc hx hgx ok hat rfl hk
 ·simp only [betw, Bool.and_eq_true, decide_eq_true_eq] at hk
  rcases (by omega : (is at').kind = 4 ∨ (is at').kind = 10 ∨ (5 ≤ (is at').kind ∧ (is at').kind ≤ 9)) with h | h | h
  ·exact rsp_4 p is _ x d gx at' w hp hc hx hgx ok hat rfl h
  ·exact rsp_10 p is _ x d gx at' w hp hc hx hgx ok hat rfl h
  ·exact rsp_two p is _ x d gx at' w hp hc hx hgx ok hat rfl h
set_option maxHeartbeats 1000000 in
theorem rsp_any (p : Pg) (is : Nat → Ins) (x : Pv) (d : Pd) (gx : List Gu) (at' : Nat) (w : World) (hp : checkProg p is = 0) (hc : CodeAt w p is) (hx : PicIs w x d) (hgx : GxIs w x d gx) (h : rightP p is d = 0) (hat : at' < p.n) : RGoes p at' x d gx (rawD is at' d) w := by
 cases hdn : d.none with
 | false =>
  rw [show rawD is at' d = stepD (is at') at' d from if_neg (by rw [hdn]; decide)]
  exact rsp_some p is x d gx at' w hp hc hx hgx (OkPd.of h hdn) hat
 | true =>
  have hxe := hx.e
  rw [hdn] at hxe
  rw [show rawD is at' d = ⟨[], false, false⟩ from if_pos hdn]
  unfold RGoes
  clear hx h hc hp hgx hdn
  obtain ⟨xn, ⟨xp, xvn, xc⟩, ⟨xfp, xfn, xfc⟩⟩ := x
  dsimp only at hxe
  subst hxe
  have hL := Loc.start w
  go_enter Tryz.func7, Tryz.ntmps7
  go_wp2_with (first | (with_reducible refine lld hL ?_) | ((with_reducible first | refine lbx hL ?_ | refine lal hL ?_ | refine lbs hL ?_); clear hL; intro bl w1 hL) | ((with_reducible refine lst' hL ?_); clear hL; intro w1 hL))
  (try simp only [Exit.inBlock, Exit.then]); refine' ret3 rfl ?_ ?_ ?_ rfl ?_; (case refine'_4 => exact cRes); (case refine'_5 => exact cRes); (case refine'_6 => exact cRes)
  exact ⟨nilSl, rfl, GotC.nil hL.below⟩
theorem PicIs.gx {w : World} {x : Pv} {d : Pd} (h : PicIs w x d) : ∃ gx, GxIs w x d gx := by
 obtain ⟨gx, h1, h2⟩ := h.vars.gus
 exact ⟨gx, h1, h2⟩
theorem EdsIs.reads {w : World} {s : Sl} {es : List (Int × Pd)} (h : EdsIs w s es) : ∃ (b o : Nat) (xs : Nat → Pv), (0 < s.n → s.p = some ⟨b, o, none⟩) ∧ ∀ k, k < s.n → ReadsAt Tryz.prog 3 w b (o + k * 4) (.int .i64 (es.getD k (0, zeroPd)).1) ∧ ReadsAt Tryz.prog 28 w b (o + k * 4 + 1) (xs k).v ∧ PicIs w (xs k) (es.getD k (0, zeroPd)).2 := by
 obtain ⟨hn, hm, evs, hd, hl⟩ := h
 obtain ⟨b, o, hp, hc⟩ := hl.ex
 refine ⟨b, o, fun k => (evs.getD k zeroE).x, hp, fun k hk => ?_⟩
 obtain ⟨h1, h2⟩ := hc k hk
 obtain ⟨h3, h4⟩ := hd.at' k (by omega)
 refine ⟨?_, ?_, h4⟩
 ·have h5 := ReadsAt.cell (P := Tryz.prog) tInt h1 (h2 0 _ rfl)
  rw [← h3]
  exact h5
 ·refine ReadsAt.agg (P := Tryz.prog) tPic h1 (fun j v hj => ?_) rfl
  have h6 := h2 (j + 1) v (by simpa using hj)
  rw [show o + k * 4 + 1 + j = o + k * 4 + (j + 1) by omega]
  exact h6
set_option maxHeartbeats 1600000 in
theorem sameEds_any (a b : Sl) (es : List (Int × Pd)) (w : World) (ha : EdsIs w a es) (hb : EdsIs w b es) :
  Calls Tryz.prog 9 #[.slice a.p a.n a.cap, .slice b.p b.n b.cap] w fun q w' => q = .returned (.bool true) ∧ Below w.heap.size w w' := by
 obtain ⟨ba, oa, xa, hpa, hca⟩ := ha.reads
 obtain ⟨bb, ob, xb, hpb, hcb⟩ := hb.reads
 have hna := ha.n
 have hnb := hb.n
 have hma : a.n ≤ 9223372036854775807 := ha.m
 obtain ⟨ap, an, ac⟩ := a
 obtain ⟨bp, bn, bc⟩ := b
 dsimp only at hna hnb hpa hca hpb hcb hma
 subst hna hnb
 have HS := Lib.hid (fun k (hk : k < es.length) w' (hb : Below w.heap.size w w') => samePic_any (xa k) (xb k) (es.getD k (0, zeroPd)).2 w' ((hca k hk).2.2.grow hb) ((hcb k hk).2.2.grow hb))
 have HPA := Lib.hid hpa
 have HPB := Lib.hid hpb
 have HCA := Lib.hid (fun k hk => And.intro (hca k hk).1 (hca k hk).2.1)
 have HCB := Lib.hid (fun k hk => And.intro (hcb k hk).1 (hcb k hk).2.1)
 clear ha hb hca hcb hpa hpb
 have hL := Loc.start w
 go_enter Tryz.func9, Tryz.ntmps9
 go_wp2_with (first | (with_reducible refine lld hL ?_) | ((with_reducible first | refine lbx hL ?_ | refine lal hL ?_ | refine lbs hL ?_); clear hL; intro bl w1 hL) | ((with_reducible refine lst' hL ?_); clear hL; intro w1 hL))
 go_loopw [5] (fun c wr => ∃ k : Nat, k ≤ es.length ∧ c = .int .i64 k ∧ Loc w wr [] []) (fun c _ => es.length - (intOf c).toNat)
 case atStart => exact ⟨0, Nat.zero_le _, rfl, hL⟩
 case round =>
  obtain ⟨k, hk, rfl, hL⟩ := hrel
  by_cases hlt : k < es.length
  ·obtain rfl := HPA.out (by omega)
   obtain rfl := HPB.out (by omega)
   clear HPA HPB
   obtain ⟨hr1, hr2⟩ := HCA.out k hlt
   obtain ⟨hr3, hr4⟩ := HCB.out k hlt
   have hs := HS.out k hlt
   generalize (es.getD k (0, zeroPd)).1 = g at hr1 hr3
   generalize xa k = x at hr2 hs
   generalize xb k = y at hr4 hs
   obtain ⟨xn, ⟨xp, xvn, xc⟩, ⟨xfp, xfn, xfc⟩⟩ := x
   obtain ⟨yn, ⟨yp, yvn, yc⟩, ⟨yfp, yfn, yfc⟩⟩ := y
   have HR1 := Lib.hid hr1
   have HR2 := Lib.hid hr2
   have HR3 := Lib.hid hr3
   have HR4 := Lib.hid hr4
   have HSK := Lib.hid hs
   clear hr1 hr2 hr3 hr4 hs
   go_upto_region 6 with (first | (with_reducible refine lld hL ?_) | ((with_reducible first | refine lbx hL ?_ | refine lal hL ?_ | refine lbs hL ?_); clear hL; intro bl w1 hL) | ((with_reducible refine lst' hL ?_); clear hL; intro w1 hL))
   refine draw_begin [17, 18, 19, 20, 21, 22, 23, 24, 25, 26, 27, 28, 29, 30, 31, 32, 33, 34, 35, 36, 37, 38, 39, 40, 41] ?_
   refine dv0 ?_
   refine dv0 ?_
   refine dv2 0 1 ?_
   refine dv1 2 ?_
   apply draw_val
   ·intro g w hb hdep; replace hL := hL.grow hb; have d3 := yv hdep 3; clear hdep; simp only [fillD, fLa, fLb, sTa, sTb]; simp only [d3]
    refine loc_loadB HR1.out hL rfl rfl ?_
    exact cY
   simp only [apN, apC]
   refine dv0 ?_
   refine dv0 ?_
   refine dv2 5 6 ?_
   refine dv1 7 ?_
   apply draw_val
   ·intro g w hb hdep; replace hL := hL.grow hb; have d8 := yv hdep 8; clear hdep; simp only [fillD, fLa, fLb, sTa, sTb]; simp only [d8]
    refine loc_loadB HR3.out hL rfl rfl ?_
    exact cY
   simp only [apN, apC]
   refine dv2 4 9 ?_
   refine dv1 10 ?_
   refine' draw_guard (j := 11) rfl rfl rfl (by decide) (by simp) ?_ ?_; rotate_left
   ·intro hcs; simp only [Bool.and_eq_true, beqT, beqF] at hcs; intro g w hb hdep; replace hL := hL.grow hb; clear hdep; simp only [fillD, fLa, fLb, sTa, sTb]
    go_wp2
    exact cY
   simp only [apN, apC]
   refine' draw_guard (j := 11) rfl rfl rfl (by decide) (by simp) ?_ ?_; rotate_left
   ·intro hcs; simp only [Bool.and_eq_true, beqT, beqF] at hcs; intro g w hb hdep; replace hL := hL.grow hb; clear hdep; simp only [fillD, fLa, fLb, sTa, sTb]
    go_wp2
    exact cY
   simp only [apN, apC]
   refine' draw_guard (j := 11) rfl rfl rfl (by decide) (by simp) ?_ ?_; rotate_left
   ·intro hcs; simp only [Bool.and_eq_true, beqT, beqF] at hcs; intro g w hb hdep; replace hL := hL.grow hb; have d12 := yv hdep 12; simp only [hcs, beq_self_eq_true, Bool.and_self, Bool.true_and, Bool.and_true, cnd_true] at d12; have d13 := yv hdep 13; simp only [hcs, beq_self_eq_true, Bool.and_self, Bool.true_and, Bool.and_true, cnd_true] at d13; clear hdep; simp only [fillD, fLa, fLb, sTa, sTb]; simp only [d12, d13]
    go_wp2
    exact cY
   simp only [apN, apC]
   refine' draw_guard (j := 11) rfl rfl rfl (by decide) (by simp) ?_ ?_; rotate_left
   ·intro hcs; simp only [Bool.and_eq_true, beqT, beqF] at hcs; intro g w hb hdep; replace hL := hL.grow hb; have d14 := yv hdep 14; simp only [hcs, beq_self_eq_true, Bool.and_self, Bool.true_and, Bool.and_true, cnd_true] at d14; clear hdep; simp only [fillD, fLa, fLb, sTa, sTb]; simp only [d14]
    go_wp2
    exact cY
   simp only [apN, apC]
   refine' draw_guard (j := 11) rfl rfl rfl (by decide) (by simp) ?_ ?_; rotate_left
   ·intro hcs; simp only [Bool.and_eq_true, beqT, beqF] at hcs; intro g w hb hdep; replace hL := hL.grow hb; have d15 := yv hdep 15; simp only [hcs, beq_self_eq_true, Bool.and_self, Bool.true_and, Bool.and_true, cnd_true] at d15; clear hdep; simp only [fillD, fLa, fLb, sTa, sTb]; simp only [d15]
    refine loc_loadB HR2.out hL rfl rfl ?_
    exact cY
   simp only [apN, apC]
   refine' draw_guard (j := 11) rfl rfl rfl (by decide) (by simp) ?_ ?_; rotate_left
   ·intro hcs; simp only [Bool.and_eq_true, beqT, beqF] at hcs; intro g w hb hdep; replace hL := hL.grow hb; clear hdep; simp only [fillD, fLa, fLb, sTa, sTb]
    go_wp2
    exact cY
   simp only [apN, apC]
   refine' draw_guard (j := 11) rfl rfl rfl (by decide) (by simp) ?_ ?_; rotate_left
   ·intro hcs; simp only [Bool.and_eq_true, beqT, beqF] at hcs; intro g w hb hdep; replace hL := hL.grow hb; clear hdep; simp only [fillD, fLa, fLb, sTa, sTb]
    go_wp2
    exact cY
   simp only [apN, apC]
   refine' draw_guard (j := 11) rfl rfl rfl (by decide) (by simp) ?_ ?_; rotate_left
   ·intro hcs; simp only [Bool.and_eq_true, beqT, beqF] at hcs; intro g w hb hdep; replace hL := hL.grow hb; have d17 := yv hdep 17; simp only [hcs, beq_self_eq_true, Bool.and_self, Bool.true_and, Bool.and_true, cnd_true] at d17; have d18 := yv hdep 18; simp only [hcs, beq_self_eq_true, Bool.and_self, Bool.true_and, Bool.and_true, cnd_true] at d18; clear hdep; simp only [fillD, fLa, fLb, sTa, sTb]; simp only [d17, d18]
    go_wp2
    exact cY
   simp only [apN, apC]
   refine' draw_guard (j := 11) rfl rfl rfl (by decide) (by simp) ?_ ?_; rotate_left
   ·intro hcs; simp only [Bool.and_eq_true, beqT, beqF] at hcs; intro g w hb hdep; replace hL := hL.grow hb; have d19 := yv hdep 19; simp only [hcs, beq_self_eq_true, Bool.and_self, Bool.true_and, Bool.and_true, cnd_true] at d19; clear hdep; simp only [fillD, fLa, fLb, sTa, sTb]; simp only [d19]
    go_wp2
    exact cY
   simp only [apN, apC]
   refine' draw_guard (j := 11) rfl rfl rfl (by decide) (by simp) ?_ ?_; rotate_left
   ·intro hcs; simp only [Bool.and_eq_true, beqT, beqF] at hcs; intro g w hb hdep; replace hL := hL.grow hb; have d20 := yv hdep 20; simp only [hcs, beq_self_eq_true, Bool.and_self, Bool.true_and, Bool.and_true, cnd_true] at d20; clear hdep; simp only [fillD, fLa, fLb, sTa, sTb]; simp only [d20]
    refine loc_loadB HR4.out hL rfl rfl ?_
    exact cY
   simp only [apN, apC]
   refine' draw_guard (j := 11) rfl rfl rfl (by decide) (by simp) ?_ ?_; rotate_left
   ·intro hcs; simp only [Bool.and_eq_true, beqT, beqF] at hcs; intro g w hb hdep; replace hL := hL.grow hb; have d16 := yv hdep 16; simp only [hcs, beq_self_eq_true, Bool.and_self, Bool.true_and, Bool.and_true, cnd_true] at d16; have d21 := yv hdep 21; simp only [hcs, beq_self_eq_true, Bool.and_self, Bool.true_and, Bool.and_true, cnd_true] at d21; clear hdep; simp only [fillD, fLa, fLb, sTa, sTb]; simp only [d16, d21]
    go_wp2_with (go_at_call 31; refine (HSK.out _ hL.below).mono ?_; rintro e w3 ⟨rfl, hb3⟩; dsimp only)
    exact ⟨rfl, _, rfl, hb3, rfl⟩
   simp only [apN, apC]
   refine' draw_guard (j := 11) rfl rfl rfl (by decide) (by simp) ?_ ?_; rotate_left
   ·intro hcs; simp only [Bool.and_eq_true, beqT, beqF] at hcs; intro g w hb hdep; replace hL := hL.grow hb; have d22 := yv hdep 22; simp only [hcs, beq_self_eq_true, Bool.and_self, Bool.true_and, Bool.and_true, cnd_true] at d22; clear hdep; simp only [fillD, fLa, fLb, sTa, sTb]; simp only [d22]
    go_wp2
    exact cY
   simp only [apN, apC]
   apply draw_val
   ·intro g w hb hdep; replace hL := hL.grow hb; have d11 := yv hdep 11; have d23 := yv hdep 23; clear hdep; simp only [fillD, fLa, fLb, sTa, sTb]; simp only [d11, d23]
    first | refine wp_pick_or rfl rfl ?_ | go_wp2
    exact cY
   simp only [apN, apC]
   refine draw_end hL (by kernel_rfl) (by kernel_rfl) ?_
   intro g w2 hb hR; simp only [List.length_cons, List.length_nil, Nat.reduceAdd] at hR
   have e0 := yv hR 0
   have e1 := yv hR 1
   have e2 := yv hR 2
   have e3 := yv hR 3
   have e4 := yv hR 4
   have e5 := yv hR 5
   have e6 := yv hR 6
   have e7 := yv hR 7
   have e8 := yv hR 8
   have e9 := yv hR 9
   have e10 := yv hR 10
   have e11 := yv hR 11
   have e12 := yv hR 12
   have e13 := yv hR 13
   have e14 := yv hR 14
   have e15 := yv hR 15
   have e16 := yv hR 16
   have e17 := yv hR 17
   have e18 := yv hR 18
   have e19 := yv hR 19
   have e20 := yv hR 20
   have e21 := yv hR 21
   have e22 := yv hR 22
   have e23 := yv hR 23
   have e24 := yv hR 24
   clear hR; simp only [fillD, fLa, fLb, sTa, sTb]
   simp only [e0, e1, e2, e3, e4, e5, e6, e7, e8, e9, e10, e11, e12, e13, e14, e15, e16, e17, e18, e19, e20, e21, e22, e23, e24]
   clear e0 e1 e2 e3 e4 e5 e6 e7 e8 e9 e10 e11 e12 e13 e14 e15 e16 e17 e18 e19 e20 e21 e22 e23 e24
   replace hL := hL.grow hb
   clear hb
   go_wp2_with (first | (with_reducible refine lld hL ?_) | ((with_reducible first | refine lbx hL ?_ | refine lal hL ?_ | refine lbs hL ?_); clear hL; intro bl w1 hL) | ((with_reducible refine lst' hL ?_); clear hL; intro w1 hL))
   go_roundw
   case rel => exact ⟨k + 1, by omega, by go_num, hL⟩
   case measure => simp [intOf]; omega
  ·obtain rfl : k = es.length := by omega
   clear hlt
   go_wp2_with (first | (with_reducible refine lld hL ?_) | ((with_reducible first | refine lbx hL ?_ | refine lal hL ?_ | refine lbs hL ?_); clear hL; intro bl w1 hL) | ((with_reducible refine lst' hL ?_); clear hL; intro w1 hL))
   (try simp only [Exit.inBlock, Exit.then]); refine' ret1 rfl ?_ rfl ?_; (case refine'_2 => exact cRes)
   exact ⟨rfl, hL.below⟩
end Go.Proofs.YtajgekeiflblnaaGreat
