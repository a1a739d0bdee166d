/- The walks over the reference's siteOf and ShowsOf. Conditions: what they read lies in memory that was there; the picture and the run are of one form. -/
import Derived.Test.YtmbiooaeglpaiaaGreatPice
set_option linter.unusedSimpArgs false
set_option linter.unusedVariables false
namespace Go.Proofs.YtmbiooaeglpaiaaGreat
open Go.RowKit

set_option maxRecDepth 100000 in
set_option maxHeartbeats 1600000 in
theorem rSiteOf_any (r : Rn) (ths : Nat → Th) (v : Vl) (w : World) (hn : r.things.n ≤ 9223372036854775807) (hth : ListC w 2 r.things.p r.things.n (fun k => [.int .i64 (ths k).site, .slice (ths k).fs.p (ths k).fs.n (ths k).fs.cap]))
    (hok : isValue v r.things.n = true) :
    Calls Tryz.prog 28 #[r.v, v.v] w fun e w' => e = .returned (.int .i64 (siteF ths v)) ∧ Below w.heap.size w w' := by
  by_cases hk : v.kind = 3
  · obtain ⟨m, hm, hlt⟩ := isValue_thing hok hk
    obtain ⟨bt, ot, hp, hc⟩ := hth.ex
    have hr := ReadsAt.cell (P := Tryz.prog) tInt (hc m hlt).1 ((hc m hlt).2 0 _ rfl)
    have hs : siteF ths v = (ths m).site := by unfold siteF; rw [if_pos hk, hm]; rfl
    rw [hs]
    clear hs hok hth hc
    generalize (ths m).site = si at hr ⊢
    have hp2 := hp (by omega)
    clear hp
    obtain ⟨vk, vn⟩ := v
    obtain ⟨ra, rv, ⟨tp, tn, tc⟩, rt, rl, re⟩ := r
    dsimp only at hk hm hlt hn hp2
    subst hk hm hp2
    have HR := Lib.hid hr
    clear hr
    have hL := Loc.start w
    go_enter Tryz.func28, Tryz.ntmps28
    go_wp2_with (first | (with_reducible refine ldB HR.out hL ?_) | (with_reducible refine lld hL ?_) | ((with_reducible first | refine lbx hL ?_ | refine lal hL ?_ | refine lbs hL ?_); clear hL; intro bl w1 hL) | ((with_reducible refine lst' hL ?_); clear hL; intro w1 hL))
    (try simp only [Exit.inBlock, Exit.then]); refine' ret1 rfl ?_ rfl ?_; (case refine'_2 => exact cRes)
    exact ⟨rfl, hL.below⟩
  · have hs : siteF ths v = -1 := by unfold siteF; rw [if_neg hk]
    rw [hs]
    obtain ⟨vk, vn⟩ := v
    obtain ⟨ra, rv, ⟨tp, tn, tc⟩, rt, rl, re⟩ := r
    dsimp only at hk
    have k0 : (vk == 3) = false := beq_eq_false_iff_ne.2 hk
    clear hk hs hok hth
    have hL := Loc.start w
    go_enter Tryz.func28, Tryz.ntmps28
    go_wp2_with (first | (with_reducible refine lld hL ?_) | ((with_reducible first | refine lbx hL ?_ | refine lal hL ?_ | refine lbs hL ?_); clear hL; intro bl w1 hL) | ((with_reducible refine lst' hL ?_); clear hL; intro w1 hL))
    (try simp only [Exit.inBlock, Exit.then]); refine' ret1 rfl ?_ rfl ?_; (case refine'_2 => exact cRes)
    exact ⟨rfl, hL.below⟩

set_option maxRecDepth 100000 in
set_option maxHeartbeats 1600000 in
theorem rShows_none (x : Pv) (r : Rn) (w : World) (hx : x.none = true) : Calls Tryz.prog 8 #[x.v, r.v] w fun e w' => e = .returned (.bool false) ∧ Below w.heap.size w w' := by
  obtain ⟨xn, ⟨xp, xvn, xc⟩, ⟨xfp, xfn, xfc⟩⟩ := x
  obtain ⟨ra, ⟨vp, vn, vc⟩, ⟨tp, tn, tc⟩, rt, ⟨lp, ln, lc⟩, re⟩ := r
  dsimp only at hx
  subst hx
  have hL := Loc.start w
  go_enter Tryz.func8, Tryz.ntmps8
  go_wp2_with (first | (with_reducible refine lld hL ?_) | ((with_reducible first | refine lbx hL ?_ | refine lal hL ?_ | refine lbs hL ?_); clear hL; intro bl w1 hL) | ((with_reducible refine lst' hL ?_); clear hL; intro w1 hL))
  (try simp only [Exit.inBlock, Exit.then]); refine' ret1 rfl ?_ rfl ?_; (case refine'_2 => exact cRes)
  exact ⟨rfl, hL.below⟩

set_option maxRecDepth 100000 in
set_option maxHeartbeats 1600000 in
theorem rShows_any (x : Pv) (d : Pd) (r : Rn) (s : Rs) (w : World) (hx : PicIs w x d) (hr : RunIs w r s) (ok : d.none = false → ShowOk d s) :
    Calls Tryz.prog 8 #[x.v, r.v] w fun e w' => e = .returned (.bool (showsD d s)) ∧ Below w.heap.size w w' := by
  have hxe := hx.e
  cases hdn : d.none with
  | true =>
    have hq : showsD d s = false := by simp [showsD, hdn]
    rw [hq]
    exact rShows_none x r w (by rw [hxe, hdn])
  | false =>
  replace ok := ok hdn
  rw [hdn] at hxe
  obtain ⟨ths, hra, hth⟩ := hr.ex
  have hnv := hr.nv
  have hnt := hr.nt
  have hts := fun k hk => (hth k hk).1
  have hst := fun (v : Vl) (hv : isValue v s.things.length = true) w' (hb : Below w.heap.size w w') => by
    have h := rSiteOf_any r ths v w' hra.n2 (hra.things.grow hb) (by rw [hnt]; exact hv)
    rw [siteF_eq hts hv] at h
    exact h
  have hhd := fun (g : Res) (t : Sl) (v : Vl) (hv : isValue v s.things.length = true) w' (hb : Below w.heap.size w w') (hl : IntsAt w t g.l) => by
    have h := rHeldOf_any (g.gu t) g.l v (siteV s v) w' (hl.grow hb) (isValue_kind hv)
    rw [heldR_gu] at h
    exact h
  obtain ⟨sv, hlv, hiv⟩ := hx.vars.ex
  have hxn := hx.vars.n
  obtain ⟨bg, og, hpg, hcg⟩ := hlv.ex
  obtain ⟨bv, ov, hpv, hcv⟩ := hra.vars.ex
  obtain ⟨bt, ot, hpt, hct⟩ := hra.things.ex
  obtain ⟨rs, hlr, hir⟩ := hx.fields.ex
  have hfn := hx.fields.n
  obtain ⟨bf, of, hpf, hcf⟩ := hlr.ex
  -- what is read at each variable
  have h1 := fun k (hk : k < s.vars.length) => show (∃ t, ReadsAt Tryz.prog 67 w bg (og + k * 7) ((d.var k).gu t).v ∧ IntsAt w t (d.var k).l) ∧ ReadsAt Tryz.prog 61 w bv (ov + k * 2) (s.val k).v from
    ⟨⟨sv k, ReadsAt.agg (P := Tryz.prog) tGuess (hcg k (by have := ok.nv; omega)).1 (hcg k (by have := ok.nv; omega)).2 rfl, hiv k (by have := ok.nv; omega)⟩, ReadsAt.agg (P := Tryz.prog) tValue (hcv k (by omega)).1 (hcv k (by omega)).2 rfl⟩
  have h2 := fun k (hk : k < s.things.length) => show ReadsAt Tryz.prog 58 w bt (ot + k * 2) (ths k).v from ReadsAt.agg (P := Tryz.prog) tThing (hct k (by omega)).1 (hct k (by omega)).2 rfl
  have h3 := fun k (hk : k < s.things.length) => show ∃ j : Nat, (ths k).site = j ∧ j < x.fields.n ∧ (d.row j).length = (s.thing k).2.length ∧ (s.thing k).1.toNat = j ∧ ReadsAt Tryz.prog 25 w bf (of + j) (rs j).v ∧ RowIs w (rs j) (d.row j) ∧ (ths k).fs.n = (s.thing k).2.length from by
    obtain ⟨j, e1, e2, e3⟩ := ok.site k hk
    exact ⟨j, by rw [(hth k hk).1, e1], by omega, e3, by omega, readRow (hcf j (by omega)).1 (hcf j (by omega)).2, hir j (by omega), (hth k hk).2⟩
  have h4 := fun k (hk : k < s.things.length) => (hra.fields k (by omega)).2
  have hm4 := fun k (hk : k < s.things.length) => (hra.fields k (by omega)).1
  have hpg2 : 0 < s.vars.length → x.vars.p = some ⟨bg, og, none⟩ := fun h => hpg (by have := ok.nv; omega)
  have hpv2 : 0 < s.vars.length → r.vars.p = some ⟨bv, ov, none⟩ := fun h => hpv (by omega)
  have hpt2 : 0 < s.things.length → r.things.p = some ⟨bt, ot, none⟩ := fun h => hpt (by omega)
  have hpf2 : 0 < x.fields.n → x.fields.p = some ⟨bf, of, none⟩ := hpf
  have hxv : x.vars.n = s.vars.length := by have := ok.nv; omega
  have hxm := hx.vars.m
  have hfm := hx.fields.m
  have hvm := hra.n1
  have htm := hra.n2
  have HVA := Lib.hid ok.vals
  have HFV := Lib.hid ok.fvals
  have HST := Lib.hid hst
  have HHD := Lib.hid hhd
  have H1 := Lib.hid h1
  have H2 := Lib.hid h2
  have H3 := Lib.hid h3
  have H4 := Lib.hid h4
  have HM4 := Lib.hid hm4
  have HPG := Lib.hid hpg2
  have HPV := Lib.hid hpv2
  have HPT := Lib.hid hpt2
  have HPF := Lib.hid hpf2
  have HQV := Lib.hid (show lostV d s = anyN (fun k => !heldR (d.var k) (s.val k) (siteV s (s.val k))) s.vars.length from rfl)
  have HQF := Lib.hid (fun k => show lostF d s k = anyN (fun j => !heldR (d.field (s.thing k).1.toNat j) (s.field k j) (siteV s (s.field k j))) (s.thing k).2.length from rfl)
  have HQT := Lib.hid (show lostT d s = anyN (lostF d s) s.things.length from rfl)
  have HQ := Lib.hid (show showsD d s = (!lostV d s && !lostT d s) by simp [showsD, hdn])
  clear ok hx hr hra hth hts hst hhd hlv hiv hpg hcg hpv hcv hpt hct hlr hir hpf hcf h1 h2 h3 h4 hm4 hpg2 hpv2 hpt2 hpf2 hxn hfn hdn
  obtain ⟨xn, ⟨xp, xvn, xc⟩, ⟨xfp, xfn, xfc⟩⟩ := x
  obtain ⟨ra, ⟨vp, vn, vc⟩, ⟨tp, tn, tc⟩, rt, ⟨lp, ln, lc⟩, re⟩ := r
  dsimp only at hxe hnv hnt hxv hxm hfm hvm htm HPG HPV HPT HPF
  subst hxe hnv hnt hxv
  have hL := Loc.start w
  go_enter Tryz.func8, Tryz.ntmps8
  go_step
  go_step
  go_step
  ((with_reducible refine lbx hL ?_); clear hL; intro b2 w1 hL)
  ((with_reducible refine lbx hL ?_); clear hL; intro b3 w1 hL)
  go_wp2_with (first | (with_reducible refine lld hL ?_) | ((with_reducible first | refine lbx hL ?_ | refine lal hL ?_ | refine lbs hL ?_); clear hL; intro bl w1 hL) | ((with_reducible refine lst' hL ?_); clear hL; intro w1 hL))
  go_loopw [5] (fun c wr => ∃ k : Nat, k ≤ s.vars.length ∧ c = .int .i64 k ∧ (∀ j, j < k → (!heldR (d.var j) (s.val j) (siteV s (s.val j))) = false) ∧ Loc w wr [(b3, 33, [.int .i64 ra, .slice vp s.vars.length vc, .slice tp s.things.length tc, .int .i64 rt, .slice lp ln lc, .int .i64 re]), (b2, 28, [.bool false, .slice xp s.vars.length xc, .slice xfp xfn xfc])] []) (fun c _ => s.vars.length - (intOf c).toNat)
  case atStart => exact ⟨0, Nat.zero_le _, rfl, fun j hj => absurd hj (Nat.not_lt_zero j), hL⟩
  case round =>
    obtain ⟨k, hk, rfl, hall, hL⟩ := hrel
    have HALL := Lib.hid hall
    clear hall
    by_cases hlt : k < s.vars.length
    · obtain ⟨⟨t, hr1, hi1⟩, hr2⟩ := H1.out k hlt
      have hsk := HST.out (s.val k) (HVA.out k hlt)
      have hhk := fun w' hb => HHD.out (d.var k) t (s.val k) (HVA.out k hlt) w' hb hi1
      have hpp1 := HPG.out (by omega)
      have hpp2 := HPV.out (by omega)
      subst hpp1 hpp2
      clear HPG HPV
      have hno := fun (h : heldR (d.var k) (s.val k) (siteV s (s.val k)) = false) => show lostV d s = true by rw [HQV.out]; exact anyN_yes hlt (show (!heldR (d.var k) (s.val k) (siteV s (s.val k))) = true by rw [h]; rfl)
      have hnx := fun (h : heldR (d.var k) (s.val k) (siteV s (s.val k)) = true) => show ∀ j, j < k + 1 → (!heldR (d.var j) (s.val j) (siteV s (s.val j))) = false from fun j hj => by
        rcases Nat.lt_or_ge j k with h2 | h2
        · exact HALL.out j h2
        · obtain rfl : j = k := by omega
          rw [h]; rfl
      generalize heldR (d.var k) (s.val k) (siteV s (s.val k)) = q at hhk hno hnx
      generalize siteV s (s.val k) = si at hsk hhk
      generalize s.val k = v at hr2 hsk hhk
      generalize d.var k = g at hr1 hhk
      obtain ⟨vk, vn'⟩ := v
      obtain ⟨gn, ⟨gs, glo, ghi⟩, gt, gf, gl⟩ := g
      obtain ⟨t1, t2, t3⟩ := t
      dsimp only [Res.gu] at hr1 hhk
      have HR1 := Lib.hid hr1
      have HR2 := Lib.hid hr2
      have HSK := Lib.hid hsk
      have HHK := Lib.hid hhk
      have HNX := Lib.hid hnx
      have HNO := Lib.hid hno
      clear hr1 hr2 hi1 hsk hhk hnx hno
      cases q with
      | false =>
        have HX := Lib.hid (show showsD d s = false by rw [HQ.out, HNO.out rfl]; rfl)
        clear HNX HNO HQV HQF HQT HQ HVA HFV HST HHD H1 H2 H3 H4 HM4 HPT HPF HALL
        obtain ⟨wq, hwq⟩ : ∃ x, x = wr := ⟨_, rfl⟩
        subst hwq
        go_upto_region 6 with (first | (with_reducible refine lld hL ?_) | ((with_reducible first | refine lbx hL ?_ | refine lal hL ?_ | refine lbs hL ?_); clear hL; intro bl w1 hL) | ((with_reducible refine lst' hL ?_); clear hL; intro w1 hL))
        refine draw_begin [18, 19, 20, 21, 22, 23, 24, 25, 26, 27, 28, 29, 30, 31, 32, 33, 34, 35, 36] ?_
        apply draw_val
        · intro g w hb hdep; replace hL := hL.grow hb; clear hdep; simp only [fillD, fLa, fLb, sTa, sTb]
          go_wp2
          exact cY
        simp only [apN, apC]
        apply draw_val
        · intro g w hb hdep; replace hL := hL.grow hb; have d0 := yv hdep 0; clear hdep; simp only [fillD, fLa, fLb, sTa, sTb]; simp only [d0]
          go_wp2_with (first | (with_reducible refine lld hL ?_) | (with_reducible refine ldD hL ?_))
          exact cY
        simp only [apN, apC]
        apply draw_val
        · intro g w hb hdep; replace hL := hL.grow hb; clear hdep; simp only [fillD, fLa, fLb, sTa, sTb]
          go_wp2
          exact cY
        simp only [apN, apC]
        apply draw_val
        · intro g w hb hdep; replace hL := hL.grow hb; have d1 := yv hdep 1; have d2 := yv hdep 2; clear hdep; simp only [fillD, fLa, fLb, sTa, sTb]; simp only [d1, d2]
          go_wp2
          exact cY
        simp only [apN, apC]
        apply draw_val
        · intro g w hb hdep; replace hL := hL.grow hb; have d3 := yv hdep 3; clear hdep; simp only [fillD, fLa, fLb, sTa, sTb]; simp only [d3]
          refine loc_loadB HR1.out hL rfl rfl ?_
          exact cY
        simp only [apN, apC]
        apply draw_val
        · intro g w hb hdep; replace hL := hL.grow hb; clear hdep; simp only [fillD, fLa, fLb, sTa, sTb]
          go_wp2
          exact cY
        simp only [apN, apC]
        apply draw_val
        · intro g w hb hdep; replace hL := hL.grow hb; have d5 := yv hdep 5; clear hdep; simp only [fillD, fLa, fLb, sTa, sTb]; simp only [d5]
          go_wp2_with (first | (with_reducible refine lld hL ?_) | (with_reducible refine ldD hL ?_))
          exact cY
        simp only [apN, apC]
        apply draw_val
        · intro g w hb hdep; replace hL := hL.grow hb; clear hdep; simp only [fillD, fLa, fLb, sTa, sTb]
          go_wp2
          exact cY
        simp only [apN, apC]
        apply draw_val
        · intro g w hb hdep; replace hL := hL.grow hb; have d6 := yv hdep 6; have d7 := yv hdep 7; clear hdep; simp only [fillD, fLa, fLb, sTa, sTb]; simp only [d6, d7]
          go_wp2
          exact cY
        simp only [apN, apC]
        apply draw_val
        · intro g w hb hdep; replace hL := hL.grow hb; have d8 := yv hdep 8; clear hdep; simp only [fillD, fLa, fLb, sTa, sTb]; simp only [d8]
          refine loc_loadB HR2.out hL rfl rfl ?_
          exact cY
        simp only [apN, apC]
        apply draw_val
        · intro g w hb hdep; replace hL := hL.grow hb; clear hdep; simp only [fillD, fLa, fLb, sTa, sTb]
          go_wp2_with (first | (with_reducible refine lld hL ?_) | (with_reducible refine ldD hL ?_))
          exact cY
        simp only [apN, apC]
        apply draw_val
        · intro g w hb hdep; replace hL := hL.grow hb; clear hdep; simp only [fillD, fLa, fLb, sTa, sTb]
          go_wp2
          exact cY
        simp only [apN, apC]
        apply draw_val
        · intro g w hb hdep; replace hL := hL.grow hb; have d11 := yv hdep 11; clear hdep; simp only [fillD, fLa, fLb, sTa, sTb]; simp only [d11]
          go_wp2_with (first | (with_reducible refine lld hL ?_) | (with_reducible refine ldD hL ?_))
          exact cY
        simp only [apN, apC]
        apply draw_val
        · intro g w hb hdep; replace hL := hL.grow hb; clear hdep; simp only [fillD, fLa, fLb, sTa, sTb]
          go_wp2
          exact cY
        simp only [apN, apC]
        apply draw_val
        · intro g w hb hdep; replace hL := hL.grow hb; have d12 := yv hdep 12; have d13 := yv hdep 13; clear hdep; simp only [fillD, fLa, fLb, sTa, sTb]; simp only [d12, d13]
          go_wp2
          exact cY
        simp only [apN, apC]
        apply draw_val
        · intro g w hb hdep; replace hL := hL.grow hb; have d14 := yv hdep 14; clear hdep; simp only [fillD, fLa, fLb, sTa, sTb]; simp only [d14]
          refine loc_loadB HR2.out hL rfl rfl ?_
          exact cY
        simp only [apN, apC]
        apply draw_val
        · intro g w hb hdep; replace hL := hL.grow hb; have d10 := yv hdep 10; have d15 := yv hdep 15; clear hdep; simp only [fillD, fLa, fLb, sTa, sTb]; simp only [d10, d15]
          go_wp2_with (go_at_call 28; refine (HSK.out _ hL.below).mono ?_; rintro e w3 ⟨rfl, hb3⟩; dsimp only)
          exact ⟨rfl, _, rfl, hb3, rfl⟩
        simp only [apN, apC]
        apply draw_val
        · intro g w hb hdep; replace hL := hL.grow hb; have d4 := yv hdep 4; have d9 := yv hdep 9; have d16 := yv hdep 16; clear hdep; simp only [fillD, fLa, fLb, sTa, sTb]; simp only [d4, d9, d16]
          go_wp2_with (go_at_call 27; refine (HHK.out _ hL.below).mono ?_; rintro e w3 ⟨rfl, hb3⟩; dsimp only)
          exact ⟨rfl, _, rfl, hb3, rfl⟩
        simp only [apN, apC]
        apply draw_val
        · intro g w hb hdep; replace hL := hL.grow hb; have d17 := yv hdep 17; clear hdep; simp only [fillD, fLa, fLb, sTa, sTb]; simp only [d17]
          go_wp2
          exact cY
        simp only [apN, apC]
        refine draw_end hL (by kernel_rfl) (by kernel_rfl) ?_
        intro g w2 hb hR; simp only [List.length_cons, List.length_nil, Nat.reduceAdd] at hR
        have e0 := yv hR 0
        have e1 := yv hR 1
        have e2 := yv hR 2
        have e3 := yv hR 3
        have e4 := yv hR 4
        have e5 := yv hR 5
        have e6 := yv hR 6
        have e7 := yv hR 7
        have e8 := yv hR 8
        have e9 := yv hR 9
        have e10 := yv hR 10
        have e11 := yv hR 11
        have e12 := yv hR 12
        have e13 := yv hR 13
        have e14 := yv hR 14
        have e15 := yv hR 15
        have e16 := yv hR 16
        have e17 := yv hR 17
        have e18 := yv hR 18
        clear hR; simp only [fillD, fLa, fLb, sTa, sTb]
        simp only [e0, e1, e2, e3, e4, e5, e6, e7, e8, e9, e10, e11, e12, e13, e14, e15, e16, e17, e18]
        clear e0 e1 e2 e3 e4 e5 e6 e7 e8 e9 e10 e11 e12 e13 e14 e15 e16 e17 e18
        replace hL := hL.grow hb
        clear hb
        go_wp2_with (first | (with_reducible refine lld hL ?_) | ((with_reducible first | refine lbx hL ?_ | refine lal hL ?_ | refine lbs hL ?_); clear hL; intro bl w1 hL) | ((with_reducible refine lst' hL ?_); clear hL; intro w1 hL))
        (try simp only [Exit.inBlock, Exit.then]); refine' ret1 rfl ?_ rfl ?_; (case refine'_2 => exact cRes)
        exact ⟨by rw [HX.out]; rfl, hL.below⟩
      | true =>
        have HN2 := Lib.hid (HNX.out rfl)
        clear HNX HNO
        obtain ⟨wq, hwq⟩ : ∃ x, x = wr := ⟨_, rfl⟩
        subst hwq
        go_upto_region 6 with (first | (with_reducible refine lld hL ?_) | ((with_reducible first | refine lbx hL ?_ | refine lal hL ?_ | refine lbs hL ?_); clear hL; intro bl w1 hL) | ((with_reducible refine lst' hL ?_); clear hL; intro w1 hL))
        refine draw_begin [18, 19, 20, 21, 22, 23, 24, 25, 26, 27, 28, 29, 30, 31, 32, 33, 34, 35, 36] ?_
        apply draw_val
        · intro g w hb hdep; replace hL := hL.grow hb; clear hdep; simp only [fillD, fLa, fLb, sTa, sTb]
          go_wp2
          exact cY
        simp only [apN, apC]
        apply draw_val
        · intro g w hb hdep; replace hL := hL.grow hb; have d0 := yv hdep 0; clear hdep; simp only [fillD, fLa, fLb, sTa, sTb]; simp only [d0]
          go_wp2_with (first | (with_reducible refine lld hL ?_) | (with_reducible refine ldD hL ?_))
          exact cY
        simp only [apN, apC]
        apply draw_val
        · intro g w hb hdep; replace hL := hL.grow hb; clear hdep; simp only [fillD, fLa, fLb, sTa, sTb]
          go_wp2
          exact cY
        simp only [apN, apC]
        apply draw_val
        · intro g w hb hdep; replace hL := hL.grow hb; have d1 := yv hdep 1; have d2 := yv hdep 2; clear hdep; simp only [fillD, fLa, fLb, sTa, sTb]; simp only [d1, d2]
          go_wp2
          exact cY
        simp only [apN, apC]
        apply draw_val
        · intro g w hb hdep; replace hL := hL.grow hb; have d3 := yv hdep 3; clear hdep; simp only [fillD, fLa, fLb, sTa, sTb]; simp only [d3]
          refine loc_loadB HR1.out hL rfl rfl ?_
          exact cY
        simp only [apN, apC]
        apply draw_val
        · intro g w hb hdep; replace hL := hL.grow hb; clear hdep; simp only [fillD, fLa, fLb, sTa, sTb]
          go_wp2
          exact cY
        simp only [apN, apC]
        apply draw_val
        · intro g w hb hdep; replace hL := hL.grow hb; have d5 := yv hdep 5; clear hdep; simp only [fillD, fLa, fLb, sTa, sTb]; simp only [d5]
          go_wp2_with (first | (with_reducible refine lld hL ?_) | (with_reducible refine ldD hL ?_))
          exact cY
        simp only [apN, apC]
        apply draw_val
        · intro g w hb hdep; replace hL := hL.grow hb; clear hdep; simp only [fillD, fLa, fLb, sTa, sTb]
          go_wp2
          exact cY
        simp only [apN, apC]
        apply draw_val
        · intro g w hb hdep; replace hL := hL.grow hb; have d6 := yv hdep 6; have d7 := yv hdep 7; clear hdep; simp only [fillD, fLa, fLb, sTa, sTb]; simp only [d6, d7]
          go_wp2
          exact cY
        simp only [apN, apC]
        apply draw_val
        · intro g w hb hdep; replace hL := hL.grow hb; have d8 := yv hdep 8; clear hdep; simp only [fillD, fLa, fLb, sTa, sTb]; simp only [d8]
          refine loc_loadB HR2.out hL rfl rfl ?_
          exact cY
        simp only [apN, apC]
        apply draw_val
        · intro g w hb hdep; replace hL := hL.grow hb; clear hdep; simp only [fillD, fLa, fLb, sTa, sTb]
          go_wp2_with (first | (with_reducible refine lld hL ?_) | (with_reducible refine ldD hL ?_))
          exact cY
        simp only [apN, apC]
        apply draw_val
        · intro g w hb hdep; replace hL := hL.grow hb; clear hdep; simp only [fillD, fLa, fLb, sTa, sTb]
          go_wp2
          exact cY
        simp only [apN, apC]
        apply draw_val
        · intro g w hb hdep; replace hL := hL.grow hb; have d11 := yv hdep 11; clear hdep; simp only [fillD, fLa, fLb, sTa, sTb]; simp only [d11]
          go_wp2_with (first | (with_reducible refine lld hL ?_) | (with_reducible refine ldD hL ?_))
          exact cY
        simp only [apN, apC]
        apply draw_val
        · intro g w hb hdep; replace hL := hL.grow hb; clear hdep; simp only [fillD, fLa, fLb, sTa, sTb]
          go_wp2
          exact cY
        simp only [apN, apC]
        apply draw_val
        · intro g w hb hdep; replace hL := hL.grow hb; have d12 := yv hdep 12; have d13 := yv hdep 13; clear hdep; simp only [fillD, fLa, fLb, sTa, sTb]; simp only [d12, d13]
          go_wp2
          exact cY
        simp only [apN, apC]
        apply draw_val
        · intro g w hb hdep; replace hL := hL.grow hb; have d14 := yv hdep 14; clear hdep; simp only [fillD, fLa, fLb, sTa, sTb]; simp only [d14]
          refine loc_loadB HR2.out hL rfl rfl ?_
          exact cY
        simp only [apN, apC]
        apply draw_val
        · intro g w hb hdep; replace hL := hL.grow hb; have d10 := yv hdep 10; have d15 := yv hdep 15; clear hdep; simp only [fillD, fLa, fLb, sTa, sTb]; simp only [d10, d15]
          go_wp2_with (go_at_call 28; refine (HSK.out _ hL.below).mono ?_; rintro e w3 ⟨rfl, hb3⟩; dsimp only)
          exact ⟨rfl, _, rfl, hb3, rfl⟩
        simp only [apN, apC]
        apply draw_val
        · intro g w hb hdep; replace hL := hL.grow hb; have d4 := yv hdep 4; have d9 := yv hdep 9; have d16 := yv hdep 16; clear hdep; simp only [fillD, fLa, fLb, sTa, sTb]; simp only [d4, d9, d16]
          go_wp2_with (go_at_call 27; refine (HHK.out _ hL.below).mono ?_; rintro e w3 ⟨rfl, hb3⟩; dsimp only)
          exact ⟨rfl, _, rfl, hb3, rfl⟩
        simp only [apN, apC]
        apply draw_val
        · intro g w hb hdep; replace hL := hL.grow hb; have d17 := yv hdep 17; clear hdep; simp only [fillD, fLa, fLb, sTa, sTb]; simp only [d17]
          go_wp2
          exact cY
        simp only [apN, apC]
        refine draw_end hL (by kernel_rfl) (by kernel_rfl) ?_
        intro g w2 hb hR; simp only [List.length_cons, List.length_nil, Nat.reduceAdd] at hR
        have e0 := yv hR 0
        have e1 := yv hR 1
        have e2 := yv hR 2
        have e3 := yv hR 3
        have e4 := yv hR 4
        have e5 := yv hR 5
        have e6 := yv hR 6
        have e7 := yv hR 7
        have e8 := yv hR 8
        have e9 := yv hR 9
        have e10 := yv hR 10
        have e11 := yv hR 11
        have e12 := yv hR 12
        have e13 := yv hR 13
        have e14 := yv hR 14
        have e15 := yv hR 15
        have e16 := yv hR 16
        have e17 := yv hR 17
        have e18 := yv hR 18
        clear hR; simp only [fillD, fLa, fLb, sTa, sTb]
        simp only [e0, e1, e2, e3, e4, e5, e6, e7, e8, e9, e10, e11, e12, e13, e14, e15, e16, e17, e18]
        clear e0 e1 e2 e3 e4 e5 e6 e7 e8 e9 e10 e11 e12 e13 e14 e15 e16 e17 e18
        replace hL := hL.grow hb
        clear hb
        go_wp2_with (first | (with_reducible refine lld hL ?_) | ((with_reducible first | refine lbx hL ?_ | refine lal hL ?_ | refine lbs hL ?_); clear hL; intro bl w1 hL) | ((with_reducible refine lst' hL ?_); clear hL; intro w1 hL))
        go_roundw
        case rel => exact ⟨k + 1, by omega, by go_num, HN2.out, hL⟩
        case measure => simp [intOf]; omega
    · obtain rfl : k = s.vars.length := by omega
      clear hlt
      have HLV := Lib.hid (show lostV d s = false by rw [HQV.out]; exact anyN_no HALL.out)
      clear HALL HVA H1 HPG HPV HQV
      go_wp2_with (first | (with_reducible refine lld hL ?_) | ((with_reducible first | refine lbx hL ?_ | refine lal hL ?_ | refine lbs hL ?_); clear hL; intro bl w1 hL) | ((with_reducible refine lst' hL ?_); clear hL; intro w1 hL))
      go_loopw [6] (fun c wr => ∃ k : Nat, k ≤ s.things.length ∧ c = .int .i64 k ∧ (∀ j, j < k → lostF d s j = false) ∧ Loc w wr [(b3, 33, [.int .i64 ra, .slice vp s.vars.length vc, .slice tp s.things.length tc, .int .i64 rt, .slice lp ln lc, .int .i64 re]), (b2, 28, [.bool false, .slice xp s.vars.length xc, .slice xfp xfn xfc])] []) (fun c _ => s.things.length - (intOf c).toNat)
      case atStart => exact ⟨0, Nat.zero_le _, rfl, fun j hj => absurd hj (Nat.not_lt_zero j), hL⟩
      case round =>
        obtain ⟨k, hk2, rfl, hall, hL⟩ := hrel
        have HALL := Lib.hid hall
        clear hall
        by_cases hlt : k < s.things.length
        · have hr3 := H2.out k hlt
          obtain ⟨j, ej1, ej2, ej3, ej4, hrw, hri, hfl⟩ := H3.out k hlt
          have hl4 := H4.out k hlt
          have hm4 := HM4.out k hlt
          have hpp1 := HPT.out (by omega)
          have hpp2 := HPF.out (by omega)
          subst hpp1 hpp2
          clear HPT HPF
          have hno := fun (h : lostF d s k = true) => show showsD d s = false by rw [HQ.out, HQT.out, anyN_yes hlt h]; simp
          have hnx := fun (h : lostF d s k = false) => show ∀ j, j < k + 1 → lostF d s j = false from fun j hj => by
            rcases Nat.lt_or_ge j k with h2 | h2
            · exact HALL.out j h2
            · obtain rfl : j = k := by omega
              exact h
          have hqf := HQF.out k
          have hfv := HFV.out k hlt
          rw [ej4] at hqf
          obtain ⟨sj, hlj, hij⟩ := hri.ex
          have hrn := hri.n
          have hrm := hri.m
          rw [ej3] at hrn
          rw [hfl] at hl4 hm4
          rw [hrn] at hlj hij
          generalize ths k = th at hr3 ej1 hl4 hm4 hfl
          dsimp only [Pd.field, Pd.row, Rs.field] at hqf hij hlj hl4 hfv
          generalize d.fields.getD j [] = dr at hqf hij hlj
          generalize lostF d s k = lf at hno hnx hqf
          have hn7 := hfl
          generalize (s.thing k).2.length = n7 at hqf hij hlj hl4 hm4 hfv hrn hn7
          generalize hvf : (fun j => (s.things.getD k dT).2.getD j dV) = vf
          have hvf2 : ∀ j, (s.things.getD k dT).2.getD j dV = vf j := fun j => by rw [← hvf]
          simp only [hvf2] at hqf hl4 hfv
          clear hvf hvf2 ej3 ej4 hri hfl
          obtain ⟨site, ⟨fp, fn, fc⟩⟩ := th
          generalize rs j = rw' at hrw hlj hrn hrm
          obtain ⟨wp', wn, wc⟩ := rw'
          dsimp only at ej1 hl4 hm4 hn7 hlj hrn hrm
          subst ej1 hn7 hrn
          dsimp only [Sl.v] at hrw
          obtain ⟨b8, o8, hp8, hc8⟩ := hlj.ex
          obtain ⟨b9, o9, hp9, hc9⟩ := hl4.ex
          have HR3 := Lib.hid hr3
          have HRW := Lib.hid hrw
          have HNO := Lib.hid hno
          have HNX := Lib.hid hnx
          have HQK := Lib.hid hqf
          have HFK := Lib.hid hfv
          have HI8 := Lib.hid hij
          have HP8 := Lib.hid hp8
          have HC8 := Lib.hid hc8
          have HP9 := Lib.hid hp9
          have HC9 := Lib.hid hc9
          clear hr3 hrw hno hnx hqf hfv hij hp8 hc8 hp9 hc9 hlj hl4
          go_wp2_with (first | (with_reducible refine ldB HR3.out hL ?_) | ((with_reducible refine lal hL ?_); clear hL; intro b7 w1 hL) | (with_reducible refine lld hL ?_) | ((with_reducible first | refine lbx hL ?_ | refine lal hL ?_ | refine lbs hL ?_); clear hL; intro bl w1 hL) | ((with_reducible refine lst' hL ?_); clear hL; intro w1 hL))
          go_loopw [8] (fun c wr => ∃ i : Nat, i ≤ wn ∧ c = .int .i64 i ∧ (∀ i', i' < i → (!heldR (dr.getD i' zeroD) (vf i') (siteV s (vf i'))) = false) ∧ Loc w wr [(b7, 58, [.int .i64 j, .slice fp wn fc]), (b3, 33, [.int .i64 ra, .slice vp s.vars.length vc, .slice (some ⟨bt, ot, none⟩) s.things.length tc, .int .i64 rt, .slice lp ln lc, .int .i64 re]), (b2, 28, [.bool false, .slice xp s.vars.length xc, .slice (some ⟨bf, of, none⟩) xfn xfc])] []) (fun c _ => wn - (intOf c).toNat)
          case atStart => exact ⟨0, Nat.zero_le _, rfl, fun j hj => absurd hj (Nat.not_lt_zero j), hL⟩
          case round =>
            obtain ⟨i, hi, rfl, hall2, hL⟩ := hrel
            have HAL2 := Lib.hid hall2
            clear hall2
            by_cases hlt3 : i < wn
            · have hr1 := ReadsAt.agg (P := Tryz.prog) tGuess (HC8.out i hlt3).1 (HC8.out i hlt3).2 rfl
              have hr2 := ReadsAt.agg (P := Tryz.prog) tValue (HC9.out i hlt3).1 (HC9.out i hlt3).2 rfl
              have hi1 := HI8.out i hlt3
              have hsk := HST.out (vf i) (HFK.out i hlt3)
              have hhk := fun w' hb => HHD.out (dr.getD i zeroD) (sj i) (vf i) (HFK.out i hlt3) w' hb hi1
              have hpp1 := HP8.out (by omega)
              have hpp2 := HP9.out (by omega)
              subst hpp1 hpp2
              clear HP8 HP9
              have hno2 := fun (h : heldR (dr.getD i zeroD) (vf i) (siteV s (vf i)) = false) => show showsD d s = false from HNO.out (by rw [HQK.out]; exact anyN_yes hlt3 (show (!heldR (dr.getD i zeroD) (vf i) (siteV s (vf i))) = true by rw [h]; rfl))
              have hnx2 := fun (h : heldR (dr.getD i zeroD) (vf i) (siteV s (vf i)) = true) => show ∀ j, j < i + 1 → (!heldR (dr.getD j zeroD) (vf j) (siteV s (vf j))) = false from fun j hj => by
                rcases Nat.lt_or_ge j i with h2 | h2
                · exact HAL2.out j h2
                · obtain rfl : j = i := by omega
                  rw [h]; rfl
              generalize heldR (dr.getD i zeroD) (vf i) (siteV s (vf i)) = q at hhk hno2 hnx2
              generalize siteV s (vf i) = si at hsk hhk
              generalize vf i = v at hr2 hsk hhk
              generalize dr.getD i zeroD = g at hr1 hhk
              generalize sj i = t at hr1 hhk
              obtain ⟨vk, vn'⟩ := v
              obtain ⟨gn, ⟨gs, glo, ghi⟩, gt, gf, gl⟩ := g
              obtain ⟨t1, t2, t3⟩ := t
              dsimp only [Res.gu] at hr1 hhk
              have HR1 := Lib.hid hr1
              have HR2 := Lib.hid hr2
              have HSK := Lib.hid hsk
              have HHK := Lib.hid hhk
              have HNX2 := Lib.hid hnx2
              have HNO2 := Lib.hid hno2
              clear hr1 hr2 hi1 hsk hhk hnx2 hno2
              cases q with
              | false =>
                have HX := Lib.hid (HNO2.out rfl)
                clear HNX HNO HNX2 HNO2 HQF HQT HQ HFV HST HHD H2 H3 H4 HM4 HALL HQK HFK HI8 HC8 HC9 HAL2 HR3
                obtain ⟨wq, hwq⟩ : ∃ x, x = wr := ⟨_, rfl⟩
                subst hwq
                go_upto_region 15 with (first | (with_reducible refine lld hL ?_) | ((with_reducible first | refine lbx hL ?_ | refine lal hL ?_ | refine lbs hL ?_); clear hL; intro bl w1 hL) | ((with_reducible refine lst' hL ?_); clear hL; intro w1 hL))
                refine draw_begin [56, 57, 58, 59, 60, 61, 62, 63, 64, 65, 66, 67, 68, 69, 70, 71, 72, 73, 74, 75, 76, 77, 78] ?_
                apply draw_val
                · intro g w hb hdep; replace hL := hL.grow hb; clear hdep; simp only [fillD, fLa, fLb, sTa, sTb]
                  go_wp2
                  exact cY
                simp only [apN, apC]
                apply draw_val
                · intro g w hb hdep; replace hL := hL.grow hb; have d0 := yv hdep 0; clear hdep; simp only [fillD, fLa, fLb, sTa, sTb]; simp only [d0]
                  go_wp2_with (first | (with_reducible refine lld hL ?_) | (with_reducible refine ldD hL ?_))
                  exact cY
                simp only [apN, apC]
                apply draw_val
                · intro g w hb hdep; replace hL := hL.grow hb; clear hdep; simp only [fillD, fLa, fLb, sTa, sTb]
                  go_wp2
                  exact cY
                simp only [apN, apC]
                apply draw_val
                · intro g w hb hdep; replace hL := hL.grow hb; have d2 := yv hdep 2; clear hdep; simp only [fillD, fLa, fLb, sTa, sTb]; simp only [d2]
                  go_wp2_with (first | (with_reducible refine lld hL ?_) | (with_reducible refine ldD hL ?_))
                  exact cY
                simp only [apN, apC]
                apply draw_val
                · intro g w hb hdep; replace hL := hL.grow hb; have d1 := yv hdep 1; have d3 := yv hdep 3; clear hdep; simp only [fillD, fLa, fLb, sTa, sTb]; simp only [d1, d3]
                  go_wp2
                  exact cY
                simp only [apN, apC]
                apply draw_val
                · intro g w hb hdep; replace hL := hL.grow hb; have d4 := yv hdep 4; clear hdep; simp only [fillD, fLa, fLb, sTa, sTb]; simp only [d4]
                  refine loc_loadB HRW.out hL rfl rfl ?_
                  exact cY
                simp only [apN, apC]
                apply draw_val
                · intro g w hb hdep; replace hL := hL.grow hb; clear hdep; simp only [fillD, fLa, fLb, sTa, sTb]
                  go_wp2
                  exact cY
                simp only [apN, apC]
                apply draw_val
                · intro g w hb hdep; replace hL := hL.grow hb; have d5 := yv hdep 5; have d6 := yv hdep 6; clear hdep; simp only [fillD, fLa, fLb, sTa, sTb]; simp only [d5, d6]
                  go_wp2
                  exact cY
                simp only [apN, apC]
                apply draw_val
                · intro g w hb hdep; replace hL := hL.grow hb; have d7 := yv hdep 7; clear hdep; simp only [fillD, fLa, fLb, sTa, sTb]; simp only [d7]
                  refine loc_loadB HR1.out hL rfl rfl ?_
                  exact cY
                simp only [apN, apC]
                apply draw_val
                · intro g w hb hdep; replace hL := hL.grow hb; clear hdep; simp only [fillD, fLa, fLb, sTa, sTb]
                  go_wp2
                  exact cY
                simp only [apN, apC]
                apply draw_val
                · intro g w hb hdep; replace hL := hL.grow hb; have d9 := yv hdep 9; clear hdep; simp only [fillD, fLa, fLb, sTa, sTb]; simp only [d9]
                  go_wp2_with (first | (with_reducible refine lld hL ?_) | (with_reducible refine ldD hL ?_))
                  exact cY
                simp only [apN, apC]
                apply draw_val
                · intro g w hb hdep; replace hL := hL.grow hb; clear hdep; simp only [fillD, fLa, fLb, sTa, sTb]
                  go_wp2
                  exact cY
                simp only [apN, apC]
                apply draw_val
                · intro g w hb hdep; replace hL := hL.grow hb; have d10 := yv hdep 10; have d11 := yv hdep 11; clear hdep; simp only [fillD, fLa, fLb, sTa, sTb]; simp only [d10, d11]
                  go_wp2
                  exact cY
                simp only [apN, apC]
                apply draw_val
                · intro g w hb hdep; replace hL := hL.grow hb; have d12 := yv hdep 12; clear hdep; simp only [fillD, fLa, fLb, sTa, sTb]; simp only [d12]
                  refine loc_loadB HR2.out hL rfl rfl ?_
                  exact cY
                simp only [apN, apC]
                apply draw_val
                · intro g w hb hdep; replace hL := hL.grow hb; clear hdep; simp only [fillD, fLa, fLb, sTa, sTb]
                  go_wp2_with (first | (with_reducible refine lld hL ?_) | (with_reducible refine ldD hL ?_))
                  exact cY
                simp only [apN, apC]
                apply draw_val
                · intro g w hb hdep; replace hL := hL.grow hb; clear hdep; simp only [fillD, fLa, fLb, sTa, sTb]
                  go_wp2
                  exact cY
                simp only [apN, apC]
                apply draw_val
                · intro g w hb hdep; replace hL := hL.grow hb; have d15 := yv hdep 15; clear hdep; simp only [fillD, fLa, fLb, sTa, sTb]; simp only [d15]
                  go_wp2_with (first | (with_reducible refine lld hL ?_) | (with_reducible refine ldD hL ?_))
                  exact cY
                simp only [apN, apC]
                apply draw_val
                · intro g w hb hdep; replace hL := hL.grow hb; clear hdep; simp only [fillD, fLa, fLb, sTa, sTb]
                  go_wp2
                  exact cY
                simp only [apN, apC]
                apply draw_val
                · intro g w hb hdep; replace hL := hL.grow hb; have d16 := yv hdep 16; have d17 := yv hdep 17; clear hdep; simp only [fillD, fLa, fLb, sTa, sTb]; simp only [d16, d17]
                  go_wp2
                  exact cY
                simp only [apN, apC]
                apply draw_val
                · intro g w hb hdep; replace hL := hL.grow hb; have d18 := yv hdep 18; clear hdep; simp only [fillD, fLa, fLb, sTa, sTb]; simp only [d18]
                  refine loc_loadB HR2.out hL rfl rfl ?_
                  exact cY
                simp only [apN, apC]
                apply draw_val
                · intro g w hb hdep; replace hL := hL.grow hb; have d14 := yv hdep 14; have d19 := yv hdep 19; clear hdep; simp only [fillD, fLa, fLb, sTa, sTb]; simp only [d14, d19]
                  go_wp2_with (go_at_call 28; refine (HSK.out _ hL.below).mono ?_; rintro e w3 ⟨rfl, hb3⟩; dsimp only)
                  exact ⟨rfl, _, rfl, hb3, rfl⟩
                simp only [apN, apC]
                apply draw_val
                · intro g w hb hdep; replace hL := hL.grow hb; have d8 := yv hdep 8; have d13 := yv hdep 13; have d20 := yv hdep 20; clear hdep; simp only [fillD, fLa, fLb, sTa, sTb]; simp only [d8, d13, d20]
                  go_wp2_with (go_at_call 27; refine (HHK.out _ hL.below).mono ?_; rintro e w3 ⟨rfl, hb3⟩; dsimp only)
                  exact ⟨rfl, _, rfl, hb3, rfl⟩
                simp only [apN, apC]
                apply draw_val
                · intro g w hb hdep; replace hL := hL.grow hb; have d21 := yv hdep 21; clear hdep; simp only [fillD, fLa, fLb, sTa, sTb]; simp only [d21]
                  go_wp2
                  exact cY
                simp only [apN, apC]
                refine draw_end hL (by kernel_rfl) (by kernel_rfl) ?_
                intro g w2 hb hR; simp only [List.length_cons, List.length_nil, Nat.reduceAdd] at hR
                have e0 := yv hR 0
                have e1 := yv hR 1
                have e2 := yv hR 2
                have e3 := yv hR 3
                have e4 := yv hR 4
                have e5 := yv hR 5
                have e6 := yv hR 6
                have e7 := yv hR 7
                have e8 := yv hR 8
                have e9 := yv hR 9
                have e10 := yv hR 10
                have e11 := yv hR 11
                have e12 := yv hR 12
                have e13 := yv hR 13
                have e14 := yv hR 14
                have e15 := yv hR 15
                have e16 := yv hR 16
                have e17 := yv hR 17
                have e18 := yv hR 18
                have e19 := yv hR 19
                have e20 := yv hR 20
                have e21 := yv hR 21
                have e22 := yv hR 22
                clear hR; simp only [fillD, fLa, fLb, sTa, sTb]
                simp only [e0, e1, e2, e3, e4, e5, e6, e7, e8, e9, e10, e11, e12, e13, e14, e15, e16, e17, e18, e19, e20, e21, e22]
                clear e0 e1 e2 e3 e4 e5 e6 e7 e8 e9 e10 e11 e12 e13 e14 e15 e16 e17 e18 e19 e20 e21 e22
                replace hL := hL.grow hb
                clear hb
                go_wp2_with (first | (with_reducible refine lld hL ?_) | ((with_reducible first | refine lbx hL ?_ | refine lal hL ?_ | refine lbs hL ?_); clear hL; intro bl w1 hL) | ((with_reducible refine lst' hL ?_); clear hL; intro w1 hL))
                (try simp only [Exit.inBlock, Exit.then]); refine' ret1 rfl ?_ rfl ?_; (case refine'_2 => exact cRes)
                exact ⟨by rw [HX.out]; rfl, hL.below⟩
              | true =>
                have HN2 := Lib.hid (HNX2.out rfl)
                clear HNX2 HNO2
                obtain ⟨wq, hwq⟩ : ∃ x, x = wr := ⟨_, rfl⟩
                subst hwq
                go_upto_region 15 with (first | (with_reducible refine lld hL ?_) | ((with_reducible first | refine lbx hL ?_ | refine lal hL ?_ | refine lbs hL ?_); clear hL; intro bl w1 hL) | ((with_reducible refine lst' hL ?_); clear hL; intro w1 hL))
                refine draw_begin [56, 57, 58, 59, 60, 61, 62, 63, 64, 65, 66, 67, 68, 69, 70, 71, 72, 73, 74, 75, 76, 77, 78] ?_
                apply draw_val
                · intro g w hb hdep; replace hL := hL.grow hb; clear hdep; simp only [fillD, fLa, fLb, sTa, sTb]
                  go_wp2
                  exact cY
                simp only [apN, apC]
                apply draw_val
                · intro g w hb hdep; replace hL := hL.grow hb; have d0 := yv hdep 0; clear hdep; simp only [fillD, fLa, fLb, sTa, sTb]; simp only [d0]
                  go_wp2_with (first | (with_reducible refine lld hL ?_) | (with_reducible refine ldD hL ?_))
                  exact cY
                simp only [apN, apC]
                apply draw_val
                · intro g w hb hdep; replace hL := hL.grow hb; clear hdep; simp only [fillD, fLa, fLb, sTa, sTb]
                  go_wp2
                  exact cY
                simp only [apN, apC]
                apply draw_val
                · intro g w hb hdep; replace hL := hL.grow hb; have d2 := yv hdep 2; clear hdep; simp only [fillD, fLa, fLb, sTa, sTb]; simp only [d2]
                  go_wp2_with (first | (with_reducible refine lld hL ?_) | (with_reducible refine ldD hL ?_))
                  exact cY
                simp only [apN, apC]
                apply draw_val
                · intro g w hb hdep; replace hL := hL.grow hb; have d1 := yv hdep 1; have d3 := yv hdep 3; clear hdep; simp only [fillD, fLa, fLb, sTa, sTb]; simp only [d1, d3]
                  go_wp2
                  exact cY
                simp only [apN, apC]
                apply draw_val
                · intro g w hb hdep; replace hL := hL.grow hb; have d4 := yv hdep 4; clear hdep; simp only [fillD, fLa, fLb, sTa, sTb]; simp only [d4]
                  refine loc_loadB HRW.out hL rfl rfl ?_
                  exact cY
                simp only [apN, apC]
                apply draw_val
                · intro g w hb hdep; replace hL := hL.grow hb; clear hdep; simp only [fillD, fLa, fLb, sTa, sTb]
                  go_wp2
                  exact cY
                simp only [apN, apC]
                apply draw_val
                · intro g w hb hdep; replace hL := hL.grow hb; have d5 := yv hdep 5; have d6 := yv hdep 6; clear hdep; simp only [fillD, fLa, fLb, sTa, sTb]; simp only [d5, d6]
                  go_wp2
                  exact cY
                simp only [apN, apC]
                apply draw_val
                · intro g w hb hdep; replace hL := hL.grow hb; have d7 := yv hdep 7; clear hdep; simp only [fillD, fLa, fLb, sTa, sTb]; simp only [d7]
                  refine loc_loadB HR1.out hL rfl rfl ?_
                  exact cY
                simp only [apN, apC]
                apply draw_val
                · intro g w hb hdep; replace hL := hL.grow hb; clear hdep; simp only [fillD, fLa, fLb, sTa, sTb]
                  go_wp2
                  exact cY
                simp only [apN, apC]
                apply draw_val
                · intro g w hb hdep; replace hL := hL.grow hb; have d9 := yv hdep 9; clear hdep; simp only [fillD, fLa, fLb, sTa, sTb]; simp only [d9]
                  go_wp2_with (first | (with_reducible refine lld hL ?_) | (with_reducible refine ldD hL ?_))
                  exact cY
                simp only [apN, apC]
                apply draw_val
                · intro g w hb hdep; replace hL := hL.grow hb; clear hdep; simp only [fillD, fLa, fLb, sTa, sTb]
                  go_wp2
                  exact cY
                simp only [apN, apC]
                apply draw_val
                · intro g w hb hdep; replace hL := hL.grow hb; have d10 := yv hdep 10; have d11 := yv hdep 11; clear hdep; simp only [fillD, fLa, fLb, sTa, sTb]; simp only [d10, d11]
                  go_wp2
                  exact cY
                simp only [apN, apC]
                apply draw_val
                · intro g w hb hdep; replace hL := hL.grow hb; have d12 := yv hdep 12; clear hdep; simp only [fillD, fLa, fLb, sTa, sTb]; simp only [d12]
                  refine loc_loadB HR2.out hL rfl rfl ?_
                  exact cY
                simp only [apN, apC]
                apply draw_val
                · intro g w hb hdep; replace hL := hL.grow hb; clear hdep; simp only [fillD, fLa, fLb, sTa, sTb]
                  go_wp2_with (first | (with_reducible refine lld hL ?_) | (with_reducible refine ldD hL ?_))
                  exact cY
                simp only [apN, apC]
                apply draw_val
                · intro g w hb hdep; replace hL := hL.grow hb; clear hdep; simp only [fillD, fLa, fLb, sTa, sTb]
                  go_wp2
                  exact cY
                simp only [apN, apC]
                apply draw_val
                · intro g w hb hdep; replace hL := hL.grow hb; have d15 := yv hdep 15; clear hdep; simp only [fillD, fLa, fLb, sTa, sTb]; simp only [d15]
                  go_wp2_with (first | (with_reducible refine lld hL ?_) | (with_reducible refine ldD hL ?_))
                  exact cY
                simp only [apN, apC]
                apply draw_val
                · intro g w hb hdep; replace hL := hL.grow hb; clear hdep; simp only [fillD, fLa, fLb, sTa, sTb]
                  go_wp2
                  exact cY
                simp only [apN, apC]
                apply draw_val
                · intro g w hb hdep; replace hL := hL.grow hb; have d16 := yv hdep 16; have d17 := yv hdep 17; clear hdep; simp only [fillD, fLa, fLb, sTa, sTb]; simp only [d16, d17]
                  go_wp2
                  exact cY
                simp only [apN, apC]
                apply draw_val
                · intro g w hb hdep; replace hL := hL.grow hb; have d18 := yv hdep 18; clear hdep; simp only [fillD, fLa, fLb, sTa, sTb]; simp only [d18]
                  refine loc_loadB HR2.out hL rfl rfl ?_
                  exact cY
                simp only [apN, apC]
                apply draw_val
                · intro g w hb hdep; replace hL := hL.grow hb; have d14 := yv hdep 14; have d19 := yv hdep 19; clear hdep; simp only [fillD, fLa, fLb, sTa, sTb]; simp only [d14, d19]
                  go_wp2_with (go_at_call 28; refine (HSK.out _ hL.below).mono ?_; rintro e w3 ⟨rfl, hb3⟩; dsimp only)
                  exact ⟨rfl, _, rfl, hb3, rfl⟩
                simp only [apN, apC]
                apply draw_val
                · intro g w hb hdep; replace hL := hL.grow hb; have d8 := yv hdep 8; have d13 := yv hdep 13; have d20 := yv hdep 20; clear hdep; simp only [fillD, fLa, fLb, sTa, sTb]; simp only [d8, d13, d20]
                  go_wp2_with (go_at_call 27; refine (HHK.out _ hL.below).mono ?_; rintro e w3 ⟨rfl, hb3⟩; dsimp only)
                  exact ⟨rfl, _, rfl, hb3, rfl⟩
                simp only [apN, apC]
                apply draw_val
                · intro g w hb hdep; replace hL := hL.grow hb; have d21 := yv hdep 21; clear hdep; simp only [fillD, fLa, fLb, sTa, sTb]; simp only [d21]
                  go_wp2
                  exact cY
                simp only [apN, apC]
                refine draw_end hL (by kernel_rfl) (by kernel_rfl) ?_
                intro g w2 hb hR; simp only [List.length_cons, List.length_nil, Nat.reduceAdd] at hR
                have e0 := yv hR 0
                have e1 := yv hR 1
                have e2 := yv hR 2
                have e3 := yv hR 3
                have e4 := yv hR 4
                have e5 := yv hR 5
                have e6 := yv hR 6
                have e7 := yv hR 7
                have e8 := yv hR 8
                have e9 := yv hR 9
                have e10 := yv hR 10
                have e11 := yv hR 11
                have e12 := yv hR 12
                have e13 := yv hR 13
                have e14 := yv hR 14
                have e15 := yv hR 15
                have e16 := yv hR 16
                have e17 := yv hR 17
                have e18 := yv hR 18
                have e19 := yv hR 19
                have e20 := yv hR 20
                have e21 := yv hR 21
                have e22 := yv hR 22
                clear hR; simp only [fillD, fLa, fLb, sTa, sTb]
                simp only [e0, e1, e2, e3, e4, e5, e6, e7, e8, e9, e10, e11, e12, e13, e14, e15, e16, e17, e18, e19, e20, e21, e22]
                clear e0 e1 e2 e3 e4 e5 e6 e7 e8 e9 e10 e11 e12 e13 e14 e15 e16 e17 e18 e19 e20 e21 e22
                replace hL := hL.grow hb
                clear hb
                go_wp2_with (first | (with_reducible refine lld hL ?_) | ((with_reducible first | refine lbx hL ?_ | refine lal hL ?_ | refine lbs hL ?_); clear hL; intro bl w1 hL) | ((with_reducible refine lst' hL ?_); clear hL; intro w1 hL))
                go_roundw
                case rel => exact ⟨i + 1, by omega, by go_num, HN2.out, hL⟩
                case measure => simp [intOf]; omega
            · obtain rfl : i = wn := by omega
              clear hlt3
              have HN3 := Lib.hid (HNX.out (by rw [HQK.out]; exact anyN_no HAL2.out))
              clear HNX HNO
              go_wp2_with (first | (with_reducible refine lld hL ?_) | ((with_reducible first | refine lbx hL ?_ | refine lal hL ?_ | refine lbs hL ?_); clear hL; intro bl w1 hL) | ((with_reducible refine lst' hL ?_); clear hL; intro w1 hL))
              go_roundw
              case rel => exact ⟨k + 1, by omega, by go_num, HN3.out, hL.drop (List.sublist_cons_self _ _) (fun _ h => h)⟩
              case measure => simp [intOf]; omega
        · obtain rfl : k = s.things.length := by omega
          clear hlt
          have HX := Lib.hid (show showsD d s = true by rw [HQ.out, HLV.out, HQT.out, anyN_no HALL.out]; rfl)
          go_wp2_with (first | (with_reducible refine lld hL ?_) | ((with_reducible first | refine lbx hL ?_ | refine lal hL ?_ | refine lbs hL ?_); clear hL; intro bl w1 hL) | ((with_reducible refine lst' hL ?_); clear hL; intro w1 hL))
          (try simp only [Exit.inBlock, Exit.then]); refine' ret1 rfl ?_ rfl ?_; (case refine'_2 => exact cRes)
          exact ⟨by rw [HX.out]; rfl, hL.below⟩
end Go.Proofs.YtmbiooaeglpaiaaGreat
