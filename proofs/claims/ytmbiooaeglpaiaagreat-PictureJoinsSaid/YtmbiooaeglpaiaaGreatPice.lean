/- What a picture shows, as data; the walks over picture.Shows and its two functions. Conditions: what they read lies in memory that was there; the picture and the run are of one form. | The walks over picture.Shows' second function and picture.Shows. Conditions: what they read lies in memory that was there; the picture and the run are of one form. | A right picture and a right run are of one form; the walks over picture.Holds. Conditions: what they read lies in memory that was there. | Plain: what is joined of right pictures is right, and shows what one of them shows. Conditions: none. -/
import Derived.Test.YtmbiooaeglpaiaaGreatPicb
import Derived.Test.YtmbiooaeglpaiaaGreatDat
import Derived.Test.YtmbiooaeglpaiaaGreatPica
import Derived.Test.YtmbiooaeglpaiaaGreatPicc
import Derived.Test.YtmbiooaeglpaiaaGreatRrn
set_option linter.unusedSimpArgs false
set_option linter.unusedVariables false
namespace Go.Proofs.YtmbiooaeglpaiaaGreat
open Go.RowKit

/-! ### As data -/
def siteV (s : Rs) (v : Vl) : Int := if v.kind = 3 then (s.thing v.n.toNat).1 else -1
def siteF (ths : Nat → Th) (v : Vl) : Int := if v.kind = 3 then (ths v.n.toNat).site else -1
abbrev heldR (d : Res) (v : Vl) (site : Int) : Bool := held (d.gu nilSl) d.l v site
theorem heldR_gu (d : Res) (s : Sl) (v : Vl) (site : Int) : held (d.gu s) d.l v site = heldR d v site := rfl
def lostV (d : Pd) (s : Rs) : Bool := anyN (fun k => !heldR (d.var k) (s.val k) (siteV s (s.val k))) s.vars.length
def lostF (d : Pd) (s : Rs) (k : Nat) : Bool := anyN (fun j => !heldR (d.field (s.thing k).1.toNat j) (s.field k j) (siteV s (s.field k j))) (s.thing k).2.length
def lostT (d : Pd) (s : Rs) : Bool := anyN (lostF d s) s.things.length
def showsD (d : Pd) (s : Rs) : Bool := !d.none && (!lostV d s && !lostT d s)
/-- A picture and a run of one form. -/
structure ShowOk (d : Pd) (s : Rs) : Prop where
  nv : d.vars.length = s.vars.length
  site : ∀ k, k < s.things.length → ∃ j : Nat, (s.thing k).1 = j ∧ j < d.fields.length ∧ (d.row j).length = (s.thing k).2.length
  vals : ∀ k, k < s.vars.length → isValue (s.val k) s.things.length = true
  fvals : ∀ k, k < s.things.length → ∀ j, j < (s.thing k).2.length → isValue (s.field k j) s.things.length = true
theorem isValue_thing {v : Vl} {n : Nat} (h : isValue v n = true) (hk : v.kind = 3) : ∃ m : Nat, v.n = m ∧ m < n := by
  unfold isValue at h
  rw [hk] at h
  simp [betw] at h
  exact ⟨v.n.toNat, by omega, by omega⟩
theorem isValue_kind {v : Vl} {n : Int} (h : isValue v n = true) : betw v.kind 0 3 = true := by
  unfold isValue at h
  split at h
  · rename_i hk; rw [hk]; rfl
  split at h
  · rename_i hk; rw [hk]; rfl
  split at h
  · rename_i hk; rw [hk]; rfl
  split at h
  · rename_i hk; rw [hk]; rfl
  · cases h
theorem siteF_eq {s : Rs} {ths : Nat → Th} (h : ∀ k, k < s.things.length → (ths k).site = (s.thing k).1) {v : Vl} (hv : isValue v s.things.length = true) : siteF ths v = siteV s v := by
  unfold siteF siteV
  split
  · rename_i hk
    obtain ⟨m, hm, hlt⟩ := isValue_thing hv hk
    exact h _ (by omega)
  · rfl

theorem enterV1 : ∀ args w, (callFunc 51 args).run Tryz.prog w = .ok (.enter 51 args) w := fun args w => by kernel_rfl
theorem enterV2 : ∀ args w, (callFunc 54 args).run Tryz.prog w = .ok (.enter 54 args) w := fun args w => by kernel_rfl
theorem tGV : CellT Tryz.prog 84 := ⟨by kernel_rfl, by kernel_rfl⟩
theorem zGV : ZeroT Tryz.prog 84 [.nilFunc] := ⟨by kernel_rfl⟩
theorem iGV : SizeT Tryz.prog 84 1 := ⟨by kernel_rfl⟩

set_option maxRecDepth 100000 in
set_option maxHeartbeats 1600000 in
theorem shows1_any (ts : Sl) (ths : Nat → Th) (g : Gu) (l : List Int) (v : Vl) (b : Nat) (w : World) (hn : ts.n ≤ 9223372036854775807) (hrd : ReadsAt Tryz.prog 30 w b 2 ts.v) (hth : ListC w 2 ts.p ts.n (fun k => [.int .i64 (ths k).site, .slice (ths k).fs.p (ths k).fs.n (ths k).fs.cap]))
    (hok : isValue v ts.n = true) (hl : IntsAt w g.s l) :
    Calls Tryz.prog 51 #[g.v, v.v, .pointer (some ⟨b, 0, none⟩)] w fun e w' => e = .returned (.bool (held g l v (siteF ths v))) ∧ Below w.heap.size w w' := by
  have HG := Lib.hid (fun w' (hb : Below w.heap.size w w') => gheld_any g l v (siteF ths v) w' (hl.grow hb))
  have HRD := Lib.hid hrd
  clear hl hrd
  generalize hh : held g l v (siteF ths v) = hd at HG ⊢
  clear hh
  by_cases hk : v.kind = 3
  · obtain ⟨m, hm, hlt⟩ := isValue_thing hok hk
    obtain ⟨bt, ot, hp, hc⟩ := hth.ex
    have hr := ReadsAt.cell (P := Tryz.prog) tInt (hc m hlt).1 ((hc m hlt).2 0 _ rfl)
    have hs : siteF ths v = (ths m).site := by unfold siteF; rw [if_pos hk, hm]; rfl
    rw [hs] at HG
    clear hs hok hth hc
    generalize (ths m).site = si at hr HG
    have hp2 := hp (by omega)
    clear hp
    obtain ⟨vk, vn⟩ := v
    obtain ⟨tp, tn, tc⟩ := ts
    obtain ⟨gl, ⟨gn, glo, ghi⟩, gt, gf, ⟨gp, gk, gc⟩⟩ := g
    dsimp only at hk hm hlt hn hp2
    subst hk hm hp2
    have HR := Lib.hid hr
    clear hr
    dsimp only [Sl.v] at HRD
    have hL := Loc.start w
    go_enter Tryz.func51, Tryz.ntmps51
    go_wp2_with (first | (with_reducible refine ldB HRD.out hL ?_) | (with_reducible refine ldB HR.out hL ?_) | (with_reducible refine lld hL ?_) | ((with_reducible first | refine lbx hL ?_ | refine lal hL ?_ | refine lbs hL ?_); clear hL; intro bl w1 hL) | ((with_reducible refine lst' hL ?_); clear hL; intro w1 hL) | (go_at_call 52; refine (HG.out _ hL.below).mono ?_; rintro e w1 ⟨rfl, hb⟩; replace hL := hL.grow hb; clear hb; dsimp only))
    (try simp only [Exit.inBlock, Exit.then]); refine' ret1 rfl ?_ rfl ?_; (case refine'_2 => exact cRes)
    exact ⟨rfl, hL.below⟩
  · have hs : siteF ths v = -1 := by unfold siteF; rw [if_neg hk]
    rw [hs] at HG
    obtain ⟨vk, vn⟩ := v
    obtain ⟨gl, ⟨gn, glo, ghi⟩, gt, gf, ⟨gp, gk, gc⟩⟩ := g
    dsimp only at hk
    have k0 : (vk == 3) = false := beq_eq_false_iff_ne.2 hk
    clear hk hs hok hth HRD
    have hL := Loc.start w
    go_enter Tryz.func51, Tryz.ntmps51
    go_wp2_with (first | (with_reducible refine lld hL ?_) | ((with_reducible first | refine lbx hL ?_ | refine lal hL ?_ | refine lbs hL ?_); clear hL; intro bl w1 hL) | ((with_reducible refine lst' hL ?_); clear hL; intro w1 hL) | (go_at_call 52; refine (HG.out _ hL.below).mono ?_; rintro e w1 ⟨rfl, hb⟩; replace hL := hL.grow hb; clear hb; dsimp only))
    (try simp only [Exit.inBlock, Exit.then]); refine' ret1 rfl ?_ rfl ?_; (case refine'_2 => exact cRes)
    exact ⟨rfl, hL.below⟩
end Go.Proofs.YtmbiooaeglpaiaaGreat
set_option linter.unusedSimpArgs false
set_option linter.unusedVariables false
namespace Go.Proofs.YtmbiooaeglpaiaaGreat
open Go.RowKit

theorem equalN_self {a : Nat} (q : Nat → Bool) : equalN a a q = !anyN (fun k => !q k) a := by simp [equalN]
/-- All guesses hold all values: the walk over EqualFunc, with the function that Shows hands it. -/
theorem rowHeld_any (ts : Sl) (ths : Nat → Th) (s : Rs) (hth : ∀ k, k < s.things.length → (ths k).site = (s.thing k).1) (hnt : ts.n = s.things.length) (x y : Sl) (ds : List Res) (vs : Nat → Vl) (b : Nat) (w : World) (hn : ts.n ≤ 9223372036854775807) (hrd : ReadsAt Tryz.prog 30 w b 2 ts.v)
    (hlt : ListC w 2 ts.p ts.n (fun k => [.int .i64 (ths k).site, .slice (ths k).fs.p (ths k).fs.n (ths k).fs.cap])) (hx : RowIs w x ds) (hy : ListC w 2 y.p y.n (fun k => (vs k).cells)) (hyn : y.n = ds.length) (hvs : ∀ k, k < ds.length → isValue (vs k) s.things.length = true) :
    Calls Tryz.prog 53 #[x.v, y.v, .func (.func 51) #[] #[.pointer (some ⟨b, 0, none⟩)]] w fun e w' => e = .returned (.bool (!anyN (fun k => !heldR (ds.getD k zeroD) (vs k) (siteV s (vs k))) ds.length)) ∧ Below w.heap.size w w' := by
  obtain ⟨ss, hl, hi⟩ := hx.ex
  have hm := hx.m
  have hxn := hx.n
  have h := equalGV x y (fun k => (ds.getD k zeroD).gu (ss k)) vs (fun k => heldR (ds.getD k zeroD) (vs k) (siteV s (vs k))) 51 (.pointer (some ⟨b, 0, none⟩)) w hm (by omega) hl hy enterV1 (fun k h1 h2 w' hb => by
    have h3 := hvs k (by omega)
    have h4 := shows1_any ts ths ((ds.getD k zeroD).gu (ss k)) (ds.getD k zeroD).l (vs k) b w' hn (hrd.grow hb) (hlt.grow hb) (by rw [hnt]; exact h3) ((hi k h1).grow hb)
    rw [siteF_eq hth h3, heldR_gu] at h4
    exact h4)
  rw [hxn, hyn, equalN_self] at h
  exact h

set_option maxRecDepth 100000 in
set_option maxHeartbeats 1600000 in
theorem shows2_any (ts : Sl) (ths : Nat → Th) (s : Rs) (hth : ∀ k, k < s.things.length → (ths k).site = (s.thing k).1) (hnt : ts.n = s.things.length) (fs : Sl) (dss : List (List Res)) (t : Th) (vs : Nat → Vl) (b2 b3 b5 : Nat) (w : World) (hn : ts.n ≤ 9223372036854775807)
    (hr2 : ReadsAt Tryz.prog 26 w b2 2 fs.v) (hr3 : ReadsAt Tryz.prog 30 w b3 2 ts.v) (hr5 : ReadsAt Tryz.prog 84 w b5 0 (.func (.func 51) #[] #[.pointer (some ⟨b3, 0, none⟩)]))
    (hlt : ListC w 2 ts.p ts.n (fun k => [.int .i64 (ths k).site, .slice (ths k).fs.p (ths k).fs.n (ths k).fs.cap])) (hx : RowsIs w fs dss) (hy : ListC w 2 t.fs.p t.fs.n (fun k => (vs k).cells)) (j : Nat) (hj : j < dss.length) (htj : t.site = j) (hyn : t.fs.n = (dss.getD j []).length) (hvs : ∀ k, k < t.fs.n → isValue (vs k) s.things.length = true) :
    Calls Tryz.prog 54 #[t.v, .pointer (some ⟨b2, 0, none⟩), .pointer (some ⟨b5, 0, none⟩)] w fun e w' => e = .returned (.bool (anyN (fun k => !heldR ((dss.getD j []).getD k zeroD) (vs k) (siteV s (vs k))) t.fs.n)) ∧ Below w.heap.size w w' := by
  obtain ⟨rs, hl, hi⟩ := hx.ex
  have hxn := hx.n
  have hxm := hx.m
  have he := fun w' (hb : Below w.heap.size w w') => rowHeld_any ts ths s hth hnt (rs j) t.fs (dss.getD j []) vs b3 w' hn (hr3.grow hb) (hlt.grow hb) ((hi j (by omega)).grow hb) (hy.grow hb) hyn (fun k hk => hvs k (by omega))
  rw [← hyn] at he
  generalize anyN (fun k => !heldR ((dss.getD j []).getD k zeroD) (vs k) (siteV s (vs k))) t.fs.n = res at he ⊢
  obtain ⟨bf, of, hpf, hcf⟩ := hl.ex
  have hpp := hpf (by omega)
  have hrw := readRow (hcf j (by omega)).1 (hcf j (by omega)).2
  clear hpf hcf hl hi hx hy hlt hr3 hth hvs hnt hyn
  generalize rs j = row at he hrw
  generalize dss.length = n at hj hxn
  obtain ⟨fp, fn, fc⟩ := fs
  obtain ⟨site, ⟨tp, tn, tc⟩⟩ := t
  obtain ⟨rp, rn, rc⟩ := row
  dsimp only at htj hxn hxm hpp hr2
  subst htj hpp
  have hj' : j < fn := by omega
  clear hj hxn
  dsimp only [Sl.v] at he hrw hr2
  have HE := Lib.hid he
  have HR2 := Lib.hid hr2
  have HR5 := Lib.hid hr5
  have HRW := Lib.hid hrw
  clear he hr2 hr5 hrw
  have hL := Loc.start w
  go_enter Tryz.func54, Tryz.ntmps54
  go_upto_region 1 with (first | (with_reducible refine lld hL ?_) | ((with_reducible first | refine lbx hL ?_ | refine lal hL ?_ | refine lbs hL ?_); clear hL; intro bl w1 hL) | ((with_reducible refine lst' hL ?_); clear hL; intro w1 hL))
  refine draw_begin [5, 6, 7, 8, 9, 10, 11, 12, 13, 14, 15, 4] ?_
  apply draw_val
  · intro g w hb hdep; replace hL := hL.grow hb; clear hdep; simp only [fillD, fLa, fLb, sTa, sTb]
    go_wp2
    exact cY
  simp only [apN, apC]
  apply draw_val
  · intro g w hb hdep; replace hL := hL.grow hb; have d0 := yv hdep 0; clear hdep; simp only [fillD, fLa, fLb, sTa, sTb]; simp only [d0]
    refine loc_loadB HR2.out hL rfl rfl ?_
    exact cY
  simp only [apN, apC]
  apply draw_val
  · intro g w hb hdep; replace hL := hL.grow hb; clear hdep; simp only [fillD, fLa, fLb, sTa, sTb]
    go_wp2
    exact cY
  simp only [apN, apC]
  apply draw_val
  · intro g w hb hdep; replace hL := hL.grow hb; have d2 := yv hdep 2; clear hdep; simp only [fillD, fLa, fLb, sTa, sTb]; simp only [d2]
    go_wp2_with (first | (with_reducible refine lld hL ?_) | (with_reducible refine ldD hL ?_))
    exact cY
  simp only [apN, apC]
  apply draw_val
  · intro g w hb hdep; replace hL := hL.grow hb; have d1 := yv hdep 1; have d3 := yv hdep 3; clear hdep; simp only [fillD, fLa, fLb, sTa, sTb]; simp only [d1, d3]
    go_wp2
    exact cY
  simp only [apN, apC]
  apply draw_val
  · intro g w hb hdep; replace hL := hL.grow hb; have d4 := yv hdep 4; clear hdep; simp only [fillD, fLa, fLb, sTa, sTb]; simp only [d4]
    refine loc_loadB HRW.out hL rfl rfl ?_
    exact cY
  simp only [apN, apC]
  apply draw_val
  · intro g w hb hdep; replace hL := hL.grow hb; clear hdep; simp only [fillD, fLa, fLb, sTa, sTb]
    go_wp2
    exact cY
  simp only [apN, apC]
  apply draw_val
  · intro g w hb hdep; replace hL := hL.grow hb; have d6 := yv hdep 6; clear hdep; simp only [fillD, fLa, fLb, sTa, sTb]; simp only [d6]
    go_wp2_with (first | (with_reducible refine lld hL ?_) | (with_reducible refine ldD hL ?_))
    exact cY
  simp only [apN, apC]
  apply draw_val
  · intro g w hb hdep; replace hL := hL.grow hb; clear hdep; simp only [fillD, fLa, fLb, sTa, sTb]
    refine loc_loadB HR5.out hL rfl rfl ?_
    exact cY
  simp only [apN, apC]
  apply draw_val
  · intro g w hb hdep; replace hL := hL.grow hb; have d5 := yv hdep 5; have d7 := yv hdep 7; have d8 := yv hdep 8; clear hdep; simp only [fillD, fLa, fLb, sTa, sTb]; simp only [d5, d7, d8]
    go_wp2_with ((with_reducible refine (HE.out _ hL.below).mono ?_); rintro e w3 ⟨rfl, hb3⟩; dsimp only)
    exact ⟨rfl, _, rfl, hb3, rfl⟩
  simp only [apN, apC]
  apply draw_val
  · intro g w hb hdep; replace hL := hL.grow hb; have d9 := yv hdep 9; clear hdep; simp only [fillD, fLa, fLb, sTa, sTb]; simp only [d9]
    go_wp2
    exact cY
  simp only [apN, apC]
  apply draw_val
  · intro g w hb hdep; replace hL := hL.grow hb; have d10 := yv hdep 10; clear hdep; simp only [fillD, fLa, fLb, sTa, sTb]; simp only [d10]
    go_wp2
    exact cY
  simp only [apN, apC]
  refine draw_end hL (by kernel_rfl) (by kernel_rfl) ?_
  intro g w2 hb hR; simp only [List.length_cons, List.length_nil, Nat.reduceAdd] at hR
  have e0 := yv hR 0
  have e1 := yv hR 1
  have e2 := yv hR 2
  have e3 := yv hR 3
  have e4 := yv hR 4
  have e5 := yv hR 5
  have e6 := yv hR 6
  have e7 := yv hR 7
  have e8 := yv hR 8
  have e9 := yv hR 9
  have e10 := yv hR 10
  have e11 := yv hR 11
  clear hR; simp only [fillD, fLa, fLb, sTa, sTb]
  simp only [e0, e1, e2, e3, e4, e5, e6, e7, e8, e9, e10, e11]
  clear e0 e1 e2 e3 e4 e5 e6 e7 e8 e9 e10 e11
  replace hL := hL.grow hb
  clear hb
  go_wp2_with (first | (with_reducible refine lld hL ?_) | ((with_reducible first | refine lbx hL ?_ | refine lal hL ?_ | refine lbs hL ?_); clear hL; intro bl w1 hL) | ((with_reducible refine lst' hL ?_); clear hL; intro w1 hL))
  (try simp only [Exit.inBlock, Exit.then]); refine' ret1 rfl ?_ rfl ?_; (case refine'_2 => exact cRes)
  exact ⟨by simp, hL.below⟩

set_option maxRecDepth 100000 in
set_option maxHeartbeats 1600000 in
theorem shows_any (x : Pv) (d : Pd) (r : Rn) (s : Rs) (w : World) (hx : PicIs w x d) (hr : RunIs w r s) (ok : d.none = false → ShowOk d s) :
    Calls Tryz.prog 22 #[x.v, r.v] w fun e w' => e = .returned (.bool (showsD d s)) ∧ Below w.heap.size w w' := by
  have hxe := hx.e
  cases hdn : d.none with
  | true =>
    have hq : showsD d s = false := by simp [showsD, hdn]
    rw [hq]
    rw [hdn] at hxe
    clear hx hr ok hq hdn
    obtain ⟨xn, ⟨xp, xvn, xc⟩, ⟨xfp, xfn, xfc⟩⟩ := x
    obtain ⟨ra, ⟨vp, vn, vc⟩, ⟨tp, tn, tc⟩, rt, ⟨lp, ln, lc⟩, re⟩ := r
    dsimp only at hxe
    subst hxe
    have hL := Loc.start w
    go_enter Tryz.func22, Tryz.ntmps22
    go_wp2_with (first | (with_reducible refine lld hL ?_) | ((with_reducible first | refine lbx hL ?_ | refine lal hL ?_ | refine lbs hL ?_); clear hL; intro bl w1 hL) | ((with_reducible refine lst' hL ?_); clear hL; intro w1 hL))
    (try simp only [Exit.inBlock, Exit.then]); refine' ret1 rfl ?_ rfl ?_; (case refine'_2 => exact cRes)
    exact ⟨rfl, hL.below⟩
  | false =>
    have ok := ok hdn
    rw [hdn] at hxe
    have hq : showsD d s = (!lostV d s && !lostT d s) := by simp [showsD, hdn]
    rw [hq]
    obtain ⟨ths, hra, hth⟩ := hr.ex
    have hnv := hr.nv
    have hnt := hr.nt
    have hts := fun k hk => (hth k hk).1
    have hev := fun (b : Nat) w' (hb : Below w.heap.size w w') (hrd : ReadsAt Tryz.prog 30 w' b 2 r.things.v) => rowHeld_any r.things ths s hts hnt x.vars r.vars d.vars s.val b w' hra.n2 hrd (hra.things.grow hb) (hx.vars.grow hb) (hra.vars.grow hb) (by rw [hnv]; exact ok.nv.symm) (fun k hk => ok.vals k (by rw [← ok.nv]; exact hk))
    have hlv : (anyN (fun k => !heldR (d.vars.getD k zeroD) (s.val k) (siteV s (s.val k))) d.vars.length) = lostV d s := by rw [ok.nv]; rfl
    rw [hlv] at hev
    have hct := fun (b2 b3 b5 : Nat) w' (hb : Below w.heap.size w w') (hr2 : ReadsAt Tryz.prog 26 w' b2 2 x.fields.v) (hr3 : ReadsAt Tryz.prog 30 w' b3 2 r.things.v) (hr5 : ReadsAt Tryz.prog 84 w' b5 0 (.func (.func 51) #[] #[.pointer (some ⟨b3, 0, none⟩)])) =>
      containsThings2 r.things.p r.things.n r.things.cap (fun k => (ths k).v) (lostF d s) 54 (.pointer (some ⟨b2, 0, none⟩)) (.pointer (some ⟨b5, 0, none⟩)) w' hra.n2 ((hra.l.grow hb).things) ⟨enterV2, fun k hk w2 hb2 => by
        have hk' : k < s.things.length := by rw [← hnt]; exact hk
        obtain ⟨j, e1, e2, e3⟩ := ok.site k hk'
        have hb3 := hb.trans (hb2.mono hb.size)
        have h := shows2_any r.things ths s hts hnt x.fields d.fields (ths k) (s.field k) b2 b3 b5 w2 hra.n2 (hr2.grow hb2) (hr3.grow hb2) (hr5.grow hb2) (hra.things.grow hb3) (hx.fields.grow hb3) ((hra.fields k hk).2.grow hb3) j e2 (by rw [(hth k hk').1, e1]) (by rw [(hth k hk').2]; exact e3.symm) (fun i hi => ok.fvals k hk' i (by rw [← (hth k hk').2]; exact hi))
        have e4 : (anyN (fun i => !heldR ((d.fields.getD j []).getD i zeroD) (s.field k i) (siteV s (s.field k i))) (ths k).fs.n) = lostF d s k := by
          unfold lostF
          rw [(hth k hk').2, e1]; rfl
        rw [e4] at h
        exact h⟩
    have hlt : anyN (lostF d s) r.things.n = lostT d s := by rw [hnt]; rfl
    rw [hlt] at hct
    clear hra hth hts hnv hnt hx hr ok hlv hlt hq
    generalize lostV d s = qv at hev ⊢
    generalize lostT d s = qt at hct ⊢
    obtain ⟨xn, ⟨xp, xvn, xc⟩, ⟨xfp, xfn, xfc⟩⟩ := x
    obtain ⟨ra, ⟨vp, vn, vc⟩, ⟨tp, tn, tc⟩, rt, ⟨lp, ln, lc⟩, re⟩ := r
    dsimp only at hxe
    subst hxe
    dsimp only [Sl.v] at hev hct
    have HEV := Lib.hid hev
    have HCT := Lib.hid hct
    clear hev hct
    cases qv with
    | true =>
      have hL := Loc.start w
      go_enter Tryz.func22, Tryz.ntmps22
      go_step
      go_step
      go_step
      ((with_reducible refine lbx hL ?_); clear hL; intro b2 w1 hL)
      ((with_reducible refine lbx hL ?_); clear hL; intro b3 w1 hL)
      go_wp2_with (first | (with_reducible refine lld hL ?_) | ((with_reducible first | refine lbx hL ?_ | refine lal hL ?_ | refine lbs hL ?_); clear hL; intro bl w1 hL) | ((with_reducible refine lst' hL ?_); clear hL; intro w1 hL) | (refine loc_alloc hL rfl zGV ?_; clear hL; intro b5 w1 hL) | (refine loc_store hL rfl rfl InL.head rfl iGV rfl (Nat.le_refl _) rfl ?_; clear hL; intro w1 hL) | (refine ldO (Reads.cell tGV rfl) hL ?_) | (go_at_call 53; refine (HEV.out b3 _ hL.below (hL.readsG (b := b3) (Tv := 30) (off := 2) (v := .slice tp tn tc) (by repeat (first | exact InL.head | apply InL.tail)) (Reads.cell tThings rfl))).mono ?_; rintro e w1 ⟨rfl, hb⟩; replace hL := hL.grow hb; clear hb; dsimp only))
      (try simp only [Exit.inBlock, Exit.then]); refine' ret1 rfl ?_ rfl ?_; (case refine'_2 => exact cRes)
      exact ⟨rfl, hL.below⟩
    | false =>
      have hL := Loc.start w
      go_enter Tryz.func22, Tryz.ntmps22
      go_step
      go_step
      go_step
      ((with_reducible refine lbx hL ?_); clear hL; intro b2 w1 hL)
      ((with_reducible refine lbx hL ?_); clear hL; intro b3 w1 hL)
      go_wp2_with (first | (with_reducible refine lld hL ?_) | ((with_reducible first | refine lbx hL ?_ | refine lal hL ?_ | refine lbs hL ?_); clear hL; intro bl w1 hL) | ((with_reducible refine lst' hL ?_); clear hL; intro w1 hL) | (refine loc_alloc hL rfl zGV ?_; clear hL; intro b5 w1 hL) | (refine loc_store hL rfl rfl InL.head rfl iGV rfl (Nat.le_refl _) rfl ?_; clear hL; intro w1 hL) | (refine ldO (Reads.cell tGV rfl) hL ?_) | (go_at_call 53; refine (HEV.out b3 _ hL.below (hL.readsG (b := b3) (Tv := 30) (off := 2) (v := .slice tp tn tc) (by repeat (first | exact InL.head | apply InL.tail)) (Reads.cell tThings rfl))).mono ?_; rintro e w1 ⟨rfl, hb⟩; replace hL := hL.grow hb; clear hb; dsimp only) | (go_at_call 43; refine (HCT.out b2 b3 b5 _ hL.below (hL.readsG (b := b2) (Tv := 26) (off := 2) (v := .slice xfp xfn xfc) (by repeat (first | exact InL.head | apply InL.tail)) (Reads.cell tRows rfl)) (hL.readsG (b := b3) (Tv := 30) (off := 2) (v := .slice tp tn tc) (by repeat (first | exact InL.head | apply InL.tail)) (Reads.cell tThings rfl)) (hL.readsG (b := b5) (Tv := 84) (off := 0) (v := .func (.func 51) #[] #[.pointer (some ⟨b3, 0, none⟩)]) (by repeat (first | exact InL.head | apply InL.tail)) (Reads.cell tGV rfl))).mono ?_; rintro e w1 ⟨rfl, hb⟩; replace hL := hL.grow hb; clear hb; dsimp only))
      (try simp only [Exit.inBlock, Exit.then]); refine' ret1 rfl ?_ rfl ?_; (case refine'_2 => exact cRes)
      exact ⟨by simp, hL.below⟩
end Go.Proofs.YtmbiooaeglpaiaaGreat
set_option linter.unusedSimpArgs false
set_option linter.unusedVariables false
namespace Go.Proofs.YtmbiooaeglpaiaaGreat
open Go.RowKit

theorem anyN_none {q : Nat → Bool} {n : Nat} (h : ¬ anyN q n = true) (k : Nat) (hk : k < n) : q k = false := by
  cases hq : q k with
  | false => rfl
  | true => exact (h (anyN_yes hk hq)).elim
theorem show_ok {p : Pg} {is : Nat → Ins} {r : Rn} {s : Rs} {ths : Nat → Th} {d : Pd} (hp : RightPd p d) (h : rightRun p is r s.val ths s.field = 0) (hv : r.vars.n = s.vars.length) (hn : r.things.n = s.things.length)
    (hth : ∀ k, k < s.things.length → (ths k).site = (s.thing k).1 ∧ (ths k).fs.n = (s.thing k).2.length) : ShowOk d s := by
  unfold rightRun at h
  split at h
  · cases h
  split at h
  · cases h
  rename_i h2
  split at h
  · cases h
  split at h
  · cases h
  rename_i h4
  split at h
  · cases h
  rename_i h5
  split at h
  · cases h
  rename_i h6
  split at h
  · cases h
  rename_i h7
  have h2' : (r.vars.n : Int) = p.vars := by simpa using h2
  have hpv := hp.vars
  refine ⟨by omega, fun k hk' => ?_, fun k hk' => ?_, fun k hk' j hj => ?_⟩
  · have h8 := anyN_none h4 k (by omega)
    have h9 := anyN_none h5 k (by omega)
    obtain ⟨e1, e2⟩ := hth k hk'
    rw [e1] at h8
    have e3 : ((ths k).fs.n : Int) = p.fields := by simpa using h9
    have h10 : isSite p is (s.thing k).1 = true := by simpa using h8
    simp only [isSite, Bool.and_eq_true, decide_eq_true_eq] at h10
    have hf := hp.fields
    have hr := hp.rows (s.thing k).1.toNat (by omega)
    exact ⟨(s.thing k).1.toNat, by omega, by omega, by omega⟩
  · have := anyN_none h6 k (by omega)
    rw [hn] at this
    simpa using this
  · have h8 := anyN_none h7 k (by omega)
    have h9 : ¬ anyN (fun j => !isValue (s.field k j) r.things.n) (ths k).fs.n = true := by rw [h8]; decide
    have := anyN_none h9 j (by rw [(hth k hk').2]; exact hj)
    rw [hn] at this
    simpa using this

set_option maxRecDepth 100000 in
set_option maxHeartbeats 1600000 in
theorem pHolds_err (p : Pg) (is : Nat → Ins) (x : Pv) (d : Pd) (r : Rn) (w : World) (hn : p.n ≤ 9223372036854775807) (hc : CodeAt w p is) (hx : PicIs w x d) (h0 : cp1 p is d ≠ 0) :
    Calls Tryz.prog 5 #[p.v, x.v, r.v] w fun q w' => q = .returned (.tuple #[.bool false, .int .i64 (cp1 p is d)]) ∧ Below w.heap.size w w' := by
  have HR := Lib.hid (fun (b : Nat) (w' : World) (hb : Below w.heap.size w w') (hh : w'.heap[b]? = some (.cells x.cells.toArray 28 (0, 0))) => (show Calls Tryz.prog 20 #[p.v, .slice (some ⟨b, 0, none⟩) 1 1] w' fun q w2 => q = .returned (.int .i64 (cp1 p is d)) ∧ Below w'.heap.size w' w2 from pready_any p is (some ⟨b, 0, none⟩) 1 1 (fun _ => x) (fun _ => d) w' hn (hc.grow hb) (pics1 hh (hx.grow hb))))
  generalize cp1 p is d = c at HR h0 ⊢
  have k0 : (c != 0) = true := by simpa using h0
  have k1 : (c == 0) = false := beq_eq_false_iff_ne.2 h0
  clear h0 hc hx
  obtain ⟨ra, ⟨vp, vn, vc⟩, ⟨tp, tn, tc⟩, rt, ⟨lp, ln, lc⟩, re⟩ := r
  have hL := Loc.start w
  go_enter Tryz.func5, Tryz.ntmps5
  go_wp2_with (first | (with_reducible refine lld hL ?_) | ((with_reducible first | refine lbx hL ?_ | refine lal hL ?_ | refine lbs hL ?_); clear hL; intro bl w1 hL) | ((with_reducible refine lst' hL ?_); clear hL; intro w1 hL) | (go_at_call 20; refine (HR.out bl _ hL.below (hL.heap (by repeat (first | exact InL.head | apply InL.tail)))).mono ?_; rintro e w1 ⟨rfl, hb⟩; replace hL := hL.grow hb; clear hb; dsimp only))
  (try simp only [Exit.inBlock, Exit.then]); refine' ret2 rfl ?_ ?_ rfl ?_; (case refine'_3 => exact cRes); (case refine'_4 => exact cRes)
  exact ⟨rfl, hL.below⟩
set_option maxRecDepth 100000 in
set_option maxHeartbeats 1600000 in
theorem pHolds_run (p : Pg) (is : Nat → Ins) (x : Pv) (d : Pd) (r : Rn) (vs : Nat → Vl) (ths : Nat → Th) (fv : Nat → Nat → Vl) (w : World) (hn : p.n ≤ 9223372036854775807) (hc : CodeAt w p is) (hx : PicIs w x d) (hr : RunL w r vs ths fv) (h0 : cp1 p is d = 0) (h1 : rightRun p is r vs ths fv ≠ 0) :
    Calls Tryz.prog 5 #[p.v, x.v, r.v] w fun q w' => q = .returned (.tuple #[.bool false, .int .i64 (rightRun p is r vs ths fv)]) ∧ Below w.heap.size w w' := by
  have HR := Lib.hid (fun (b : Nat) (w' : World) (hb : Below w.heap.size w w') (hh : w'.heap[b]? = some (.cells x.cells.toArray 28 (0, 0))) => (show Calls Tryz.prog 20 #[p.v, .slice (some ⟨b, 0, none⟩) 1 1] w' fun q w2 => q = .returned (.int .i64 (cp1 p is d)) ∧ Below w'.heap.size w' w2 from pready_any p is (some ⟨b, 0, none⟩) 1 1 (fun _ => x) (fun _ => d) w' hn (hc.grow hb) (pics1 hh (hx.grow hb))))
  rw [h0] at HR
  have HG := Lib.hid (fun w' (hb : Below w.heap.size w w') => right_any p is r vs ths fv w' hn (hc.grow hb) (hr.grow hb))
  generalize rightRun p is r vs ths fv = c at HG h1 ⊢
  have k0 : (c != 0) = true := by simpa using h1
  clear h0 h1 hc hx hr
  obtain ⟨ra, ⟨vp, vn, vc⟩, ⟨tp, tn, tc⟩, rt, ⟨lp, ln, lc⟩, re⟩ := r
  have hL := Loc.start w
  go_enter Tryz.func5, Tryz.ntmps5
  go_wp2_with (first | (with_reducible refine lld hL ?_) | ((with_reducible first | refine lbx hL ?_ | refine lal hL ?_ | refine lbs hL ?_); clear hL; intro bl w1 hL) | ((with_reducible refine lst' hL ?_); clear hL; intro w1 hL) | (go_at_call 20; refine (HR.out bl _ hL.below (hL.heap (by repeat (first | exact InL.head | apply InL.tail)))).mono ?_; rintro e w1 ⟨rfl, hb⟩; replace hL := hL.grow hb; clear hb; dsimp only) | (go_at_call 21; refine (HG.out _ hL.below).mono ?_; rintro e w1 ⟨rfl, hb⟩; replace hL := hL.grow hb; clear hb; dsimp only))
  (try simp only [Exit.inBlock, Exit.then]); refine' ret2 rfl ?_ ?_ rfl ?_; (case refine'_3 => exact cRes); (case refine'_4 => exact cRes)
  exact ⟨rfl, hL.below⟩
set_option maxRecDepth 100000 in
set_option maxHeartbeats 1600000 in
theorem pHolds_ok (p : Pg) (is : Nat → Ins) (x : Pv) (d : Pd) (r : Rn) (s : Rs) (ths : Nat → Th) (w : World) (hn : p.n ≤ 9223372036854775807) (hc : CodeAt w p is) (hx : PicIs w x d) (hl : RunL w r s.val ths s.field) (hr : RunIs w r s) (h0 : cp1 p is d = 0) (h1 : rightRun p is r s.val ths s.field = 0) (ok : d.none = false → ShowOk d s) :
    Calls Tryz.prog 5 #[p.v, x.v, r.v] w fun q w' => q = .returned (.tuple #[.bool (showsD d s), .int .i64 0]) ∧ Below w.heap.size w w' := by
  have HR := Lib.hid (fun (b : Nat) (w' : World) (hb : Below w.heap.size w w') (hh : w'.heap[b]? = some (.cells x.cells.toArray 28 (0, 0))) => (show Calls Tryz.prog 20 #[p.v, .slice (some ⟨b, 0, none⟩) 1 1] w' fun q w2 => q = .returned (.int .i64 (cp1 p is d)) ∧ Below w'.heap.size w' w2 from pready_any p is (some ⟨b, 0, none⟩) 1 1 (fun _ => x) (fun _ => d) w' hn (hc.grow hb) (pics1 hh (hx.grow hb))))
  rw [h0] at HR
  have hg := fun w' (hb : Below w.heap.size w w') => right_any p is r s.val ths s.field w' hn (hc.grow hb) (hl.grow hb)
  rw [h1] at hg
  have HG := Lib.hid hg
  have HS := Lib.hid (fun w' (hb : Below w.heap.size w w') => shows_any x d r s w' (hx.grow hb) (hr.grow hb) ok)
  generalize showsD d s = q at HS ⊢
  clear h0 h1 hc hx hr hg hl ok
  obtain ⟨ra, ⟨vp, vn, vc⟩, ⟨tp, tn, tc⟩, rt, ⟨lp, ln, lc⟩, re⟩ := r
  obtain ⟨xn, ⟨xp, xvn, xc⟩, ⟨xfp, xfn, xfc⟩⟩ := x
  have hL := Loc.start w
  go_enter Tryz.func5, Tryz.ntmps5
  go_wp2_with (first | (with_reducible refine lld hL ?_) | ((with_reducible first | refine lbx hL ?_ | refine lal hL ?_ | refine lbs hL ?_); clear hL; intro bl w1 hL) | ((with_reducible refine lst' hL ?_); clear hL; intro w1 hL) | (go_at_call 20; refine (HR.out bl _ hL.below (hL.heap (by repeat (first | exact InL.head | apply InL.tail)))).mono ?_; rintro e w1 ⟨rfl, hb⟩; replace hL := hL.grow hb; clear hb; dsimp only) | (go_at_call 21; refine (HG.out _ hL.below).mono ?_; rintro e w1 ⟨rfl, hb⟩; replace hL := hL.grow hb; clear hb; dsimp only) | (go_at_call 22; refine (HS.out _ hL.below).mono ?_; rintro e w1 ⟨rfl, hb⟩; replace hL := hL.grow hb; clear hb; dsimp only))
  (try simp only [Exit.inBlock, Exit.then]); refine' ret2 rfl ?_ ?_ rfl ?_; (case refine'_3 => exact cRes); (case refine'_4 => exact cRes)
  exact ⟨rfl, hL.below⟩
end Go.Proofs.YtmbiooaeglpaiaaGreat
set_option linter.unusedSimpArgs false
set_option linter.unusedVariables false
namespace Go.Proofs.YtmbiooaeglpaiaaGreat
open Go.RowKit

/-- A way to put spans together: right ones come of right ones, and hold what one of them holds. -/
structure Puts (f : Span → Span → Span) : Prop where
  ok : ∀ s t, checkSpan s = 0 → checkSpan t = 0 → checkSpan (f s t) = 0
  no : f noSpan noSpan = noSpan
  inl : ∀ s t a, checkSpan s = 0 → checkSpan t = 0 → inSpan s a = true → inSpan (f s t) a = true
  inr : ∀ s t a, checkSpan s = 0 → checkSpan t = 0 → inSpan t a = true → inSpan (f s t) a = true
theorem inSpan_iff (s : Span) (a : Int) : inSpan s a = true ↔ s.none = false ∧ s.lo ≤ a ∧ a ≤ s.hi := by
  simp [inSpan, Bool.and_eq_true]
theorem puts_both : Puts both := by
  refine ⟨fun s t hs ht => both_ok hs ht, rfl, fun s t a _ _ h => ?_, fun s t a _ _ h => ?_⟩
  · obtain ⟨h1, h2, h3⟩ := (inSpan_iff s a).1 h
    unfold both
    rw [if_neg (by simp [h1])]
    split
    · exact h
    · rw [inSpan_iff]; exact ⟨rfl, Int.le_trans (Int.min_le_left _ _) h2, Int.le_trans h3 (Int.le_max_left _ _)⟩
  · obtain ⟨h1, h2, h3⟩ := (inSpan_iff t a).1 h
    unfold both
    split
    · exact h
    · rw [if_neg (by simp [h1]), inSpan_iff]; exact ⟨rfl, Int.le_trans (Int.min_le_right _ _) h2, Int.le_trans h3 (Int.le_max_right _ _)⟩
theorem puts_wider : Puts wider := by
  refine ⟨fun s t hs ht => (wider_ok hs ht).1, rfl, fun s t a hs ht h => ?_, fun s t a hs ht h => ?_⟩
  · unfold wider
    split
    · exact puts_both.inl s t a hs ht h
    · obtain ⟨h1, h2, h3⟩ := (inSpan_iff s a).1 h
      have e := (checkSpan_zero hs).1
      obtain ⟨e1, e2, e3, e4⟩ := e
      rw [inSpan_iff]
      refine ⟨rfl, ?_, ?_⟩
      · show (if t.lo < s.lo then (-2147483648 : Int) else min s.lo t.lo) ≤ a
        split
        · omega
        · omega
      · show a ≤ (if s.hi < t.hi then (2147483647 : Int) else max s.hi t.hi)
        split
        · omega
        · omega
  · unfold wider
    split
    · exact puts_both.inr s t a hs ht h
    · obtain ⟨h1, h2, h3⟩ := (inSpan_iff t a).1 h
      have e := (checkSpan_zero ht).1
      obtain ⟨e1, e2, e3, e4⟩ := e
      rw [inSpan_iff]
      refine ⟨rfl, ?_, ?_⟩
      · show (if t.lo < s.lo then (-2147483648 : Int) else min s.lo t.lo) ≤ a
        split
        · omega
        · omega
      · show a ≤ (if s.hi < t.hi then (2147483647 : Int) else max s.hi t.hi)
        split
        · omega
        · omega

theorem siteBadG_false {p : Pg} {is : Nat → Ins} {l : List Int} : siteBadG p is l = false ↔ ∀ x ∈ l, isSite p is x = true := by
  unfold siteBadG
  constructor
  · intro h x hx
    obtain ⟨k, hk, rfl⟩ := List.mem_iff_getElem.1 hx
    have := anyN_none (q := fun k => !isSite p is (l.getD k 0)) (by rw [h]; decide) k hk
    simpa [List.getD_eq_getElem?_getD, List.getElem?_eq_getElem hk] using this
  · intro h
    refine anyN_no fun k hk => ?_
    rw [h _ (getD_mem hk)]
    rfl
theorem dropI_of_asc {l : List Int} (h : ascS l) : dropI l = false := by
  unfold dropI
  refine anyN_no fun k hk => ?_
  have h1 : k < l.length := by omega
  have h2 : k + 1 < l.length := by omega
  have h3 := List.pairwise_iff_getElem.1 h k (k + 1) h1 h2 (by omega)
  simp only [List.getD_eq_getElem?_getD, List.getElem?_eq_getElem h1, List.getElem?_eq_getElem h2, Option.getD_some, decide_eq_false_iff_not]
  omega
theorem rightD_parts {p : Pg} {is : Nat → Ins} {d : Res} (h : rightD p is d = 0) : checkSpan d.span = 0 ∧ siteBadG p is d.l = false ∧ dropI d.l = false := by
  unfold rightD rightG at h
  dsimp only [Res.gu] at h
  split at h
  · rename_i h1; exact absurd h h1
  rename_i h1
  split at h
  · cases h
  rename_i h2
  split at h
  · cases h
  rename_i h3
  exact ⟨by omega, by simpa using h2, by simpa using h3⟩
theorem rightD_of {p : Pg} {is : Nat → Ins} {d : Res} (h1 : checkSpan d.span = 0) (h2 : siteBadG p is d.l = false) (h3 : dropI d.l = false) : rightD p is d = 0 := by
  unfold rightD rightG
  dsimp only [Res.gu]
  rw [if_neg (by omega), if_neg (by rw [h2]; decide), if_neg (by rw [h3]; decide)]
theorem rightD_both {p : Pg} {is : Nat → Ins} {f : Span → Span → Span} (hf : Puts f) {d e : Res} (hd : rightD p is d = 0) (he : rightD p is e = 0) : rightD p is (bothD f d e) = 0 := by
  obtain ⟨a1, a2, _⟩ := rightD_parts hd
  obtain ⟨b1, b2, _⟩ := rightD_parts he
  refine rightD_of (hf.ok _ _ a1 b1) ?_ (dropI_of_asc (mix_asc _ _).1)
  rw [siteBadG_false] at *
  intro x hx
  rcases ((mix_asc d.l e.l).2 x).1 hx with h | h
  · exact a2 x h
  · exact b2 x h
theorem held_both {p : Pg} {is : Nat → Ins} {f : Span → Span → Span} (hf : Puts f) {d e : Res} (hd : rightD p is d = 0) (he : rightD p is e = 0) (v : Vl) (site : Int) (h : heldR d v site = true ∨ heldR e v site = true) : heldR (bothD f d e) v site = true := by
  obtain ⟨a1, _, _⟩ := rightD_parts hd
  obtain ⟨b1, _, _⟩ := rightD_parts he
  unfold heldR held at *
  dsimp only [Res.gu] at *
  split
  · rename_i hk
    simp only [hk, if_true] at h
    rcases h with h | h
    · exact hf.inl _ _ _ a1 b1 h
    · exact hf.inr _ _ _ a1 b1 h
  · rename_i hk
    simp only [hk, if_false] at h
    split
    · rename_i hk2
      simp only [hk2, if_true] at h
      revert h
      cases d.tr <;> cases e.tr <;> cases d.fa <;> cases e.fa <;> cases (v.n == 1) <;> cases (v.n == 0) <;> simp
    · rename_i hk2
      simp only [hk2, if_false] at h
      split
      · rename_i hk3
        simp only [hk3, if_true] at h
        rw [hasI_iff] at *
        rw [(mix_asc d.l e.l).2]
        rcases h with h | h
        · exact .inl h
        · exact .inr (hasI_iff.1 h)
      · rename_i hk3
        simp only [hk3, if_false] at h
        rcases h with h | h
        · simp [h]
        · simp [h]

/-! ### Pictures -/
/-- What a right picture of runs is, all of it. -/
structure Rp (p : Pg) (is : Nat → Ins) (d : Pd) : Prop where
  vars : (d.vars.length : Int) = p.vars
  fields : d.fields.length = p.n
  rows : ∀ k, k < d.fields.length → ((d.row k).length : Int) = p.fields
  vg : ∀ k, k < d.vars.length → rightD p is (d.var k) = 0
  fg : ∀ k j, k < d.fields.length → j < (d.row k).length → rightD p is (d.field k j) = 0
  stray : ∀ k j, k < d.fields.length → isSite p is k = false → j < (d.row k).length → emptyD (d.field k j) = true
theorem firstE_zero {α : Type} {f : α → Int} {l : List α} (h : ∀ x ∈ l, f x = 0) : firstE (l.map f) = 0 := by
  induction l with
  | nil => rfl
  | cons a l ih =>
    have h1 := h a List.mem_cons_self
    simp only [List.map_cons, firstE, h1, if_true]
    exact ih fun x hx => h x (List.mem_cons_of_mem _ hx)
theorem Rp.of {p : Pg} {is : Nat → Ins} {d : Pd} (h : rightP p is d = 0) (hn : d.none = false) : Rp p is d := by
  obtain ⟨dn, vs, fs⟩ := d
  dsimp only at hn
  subst hn
  rw [some_right] at h
  split at h
  · cases h
  rename_i h1
  split at h
  · rename_i h2; exact absurd h h2
  rename_i h2
  split at h
  · cases h
  rename_i hst
  have h3 : rowsE p is (vs :: fs) = 0 := by omega
  rw [rowsE_flat] at h3
  have h4 := firstE_all h3
  have h5 : lensD p ⟨false, vs, fs⟩ = false := by simpa using h1
  unfold lensD at h5
  simp only [Bool.or_eq_false_iff, bne_eq_false_iff_eq] at h5
  obtain ⟨⟨h6, h7⟩, h8⟩ := h5
  have h9 : ∀ k, k < fs.length → ((fs.getD k []).length : Int) = p.fields := fun k hk => by
    have := anyN_none (q := fun i => ((Pd.row ⟨false, vs, fs⟩ i).length : Int) != p.fields) (by rw [h8]; decide) k hk
    simpa using this
  refine ⟨h6, by dsimp only; omega, h9, fun k hk => h4 _ ?_, fun k j hk hj => h4 _ ?_, fun k j hk hs hj => ?_⟩
  · exact List.mem_flatten.2 ⟨vs, List.mem_cons_self, getD_mem hk⟩
  · exact List.mem_flatten.2 ⟨fs.getD k [], List.mem_cons_of_mem _ (getD_mem hk), getD_mem hj⟩
  · unfold strayD at hst
    have h10 := anyN_none hst k hk
    rw [hs] at h10
    have h11 : fullD (fs.getD k []) = false := by simpa using h10
    unfold fullD at h11
    have h12 := anyN_none (q := fun k' => !emptyD ((fs.getD k []).getD k' zeroD)) (by rw [h11]; decide) j hj
    simpa using h12
theorem Rp.right {p : Pg} {is : Nat → Ins} {d : Pd} (h : Rp p is d) (hn : d.none = false) : rightP p is d = 0 := by
  obtain ⟨dn, vs, fs⟩ := d
  dsimp only at hn
  subst hn
  rw [some_right]
  have h5 : lensD p ⟨false, vs, fs⟩ = false := by
    unfold lensD
    simp only [Bool.or_eq_false_iff, bne_eq_false_iff_eq]
    refine ⟨⟨h.vars, by have h7 : fs.length = p.n := h.fields; show (fs.length : Int) = p.n; omega⟩, anyN_no fun k hk => ?_⟩
    have := h.rows k hk
    simpa using this
  have h3 : rowsE p is (vs :: fs) = 0 := by
    rw [rowsE_flat]
    refine firstE_zero fun x hx => ?_
    obtain ⟨l, hl, hxl⟩ := List.mem_flatten.1 hx
    obtain ⟨j, hj, rfl⟩ := List.mem_iff_getElem.1 hxl
    rcases List.mem_cons.1 hl with rfl | hl
    · have := h.vg j hj
      simpa [List.getD_eq_getElem?_getD, List.getElem?_eq_getElem hj] using this
    · obtain ⟨k, hk, rfl⟩ := List.mem_iff_getElem.1 hl
      have e : fs.getD k [] = fs[k] := by simp [List.getD_eq_getElem?_getD, List.getElem?_eq_getElem hk]
      have h2 : rightD p is ((fs.getD k []).getD j zeroD) = 0 := h.fg k j hk (show j < (fs.getD k []).length by rw [e]; exact hj)
      rw [e] at h2
      simpa [List.getD_eq_getElem?_getD, List.getElem?_eq_getElem hj] using h2
  have h6 : strayD p is fs = false := by
    unfold strayD
    refine anyN_no fun k hk => ?_
    cases hs : isSite p is k with
    | true => rfl
    | false =>
      have : fullD (fs.getD k []) = false := by
        unfold fullD
        refine anyN_no fun j hj => ?_
        rw [h.stray k j hk hs hj]
        rfl
      rw [this]; rfl
  rw [if_neg (by rw [h5]; decide), if_neg (by omega), if_neg (by rw [h6]; decide)]
theorem Rp.pd {p : Pg} {is : Nat → Ins} {d : Pd} (h : Rp p is d) (hn : d.none = false) (hp : checkProg p is = 0) : RightPd p d := RightPd.of (h.right hn) hp hn
theorem bothTo_at (f : Span → Span → Span) (ds es : List Res) (k n : Nat) (hk : k < n) : (bothTo f ds es n).getD k zeroD = bothD f (ds.getD k zeroD) (es.getD k zeroD) := getD_map_range _ _ _ _ hk
theorem bothRows_at (f : Span → Span → Span) (d e : Pd) (k n : Nat) (hk : k < n) : (bothRows f d e n).getD k [] = bothRow f (d.row k) (e.row k) := getD_map_range _ _ _ _ hk
theorem emptyD_both {f : Span → Span → Span} (hf : Puts f) {p : Pg} {is : Nat → Ins} {d e : Res} (hd : rightD p is d = 0) (he : rightD p is e = 0) (h1 : emptyD d = true) (h2 : emptyD e = true) : emptyD (bothD f d e) = true := by
  obtain ⟨dn, ⟨dsn, dlo, dhi⟩, dt, df, dl⟩ := d
  obtain ⟨en, ⟨esn, elo, ehi⟩, et, ef, el⟩ := e
  have a := (checkSpan_zero (rightD_parts hd).1).2.2
  have b := (checkSpan_zero (rightD_parts he).1).2.2
  simp only [emptyD, Bool.and_eq_true, Bool.not_eq_true', beq_iff_eq] at h1 h2
  obtain ⟨⟨⟨⟨h1a, h1b⟩, h1c⟩, h1d⟩, h1e⟩ := h1
  obtain ⟨⟨⟨⟨h2a, h2b⟩, h2c⟩, h2d⟩, h2e⟩ := h2
  obtain rfl : dl = [] := List.eq_nil_of_length_eq_zero (by omega)
  obtain rfl : el = [] := List.eq_nil_of_length_eq_zero (by omega)
  obtain ⟨rfl, rfl⟩ := a h1b
  obtain ⟨rfl, rfl⟩ := b h2b
  subst h1a h1b h1c h1d h2a h2b h2c h2d
  have e0 : mixS ([] : List Int) [] = [] := mix_self List.Pairwise.nil
  have e1 := hf.no
  simp only [emptyD, bothD, e0]
  rw [show (⟨true, 0, 0⟩ : Span) = noSpan from rfl, e1]
  rfl
theorem Rp.both {p : Pg} {is : Nat → Ins} {f : Span → Span → Span} (hf : Puts f) {d e : Pd} (hd : Rp p is d) (he : Rp p is e) : Rp p is (bothRaw f d e) := by
  have hff : d.fields.length = e.fields.length := by rw [hd.fields, he.fields]
  have hrl : ∀ k, k < d.fields.length → (d.row k).length = (e.row k).length := fun k hk => by
    have h1 := hd.rows k hk
    have h2 := he.rows k (by rw [← hff]; exact hk)
    omega
  have hvl : d.vars.length = e.vars.length := by have := hd.vars; have := he.vars; omega
  have hfl : (bothRaw f d e).fields.length = d.fields.length := by simp [bothRaw, bothRows]
  have hv' : (bothRaw f d e).vars.length = d.vars.length := bothTo_len _ _ _ _
  have hrow : ∀ k, k < d.fields.length → (bothRaw f d e).row k = bothRow f (d.row k) (e.row k) := fun k hk => bothRows_at f d e k _ hk
  have hfld : ∀ k j, k < d.fields.length → j < (d.row k).length → (bothRaw f d e).field k j = bothD f (d.field k j) (e.field k j) := fun k j hk hj => by
    show ((bothRaw f d e).row k).getD j zeroD = _
    rw [hrow k hk, bothTo_at f _ _ j _ hj]
  have hlen : ∀ k, k < d.fields.length → ((bothRaw f d e).row k).length = (d.row k).length := fun k hk => by rw [hrow k hk, bothTo_len]
  refine ⟨by rw [hv']; exact hd.vars, by rw [hfl]; exact hd.fields, fun k hk => ?_, fun k hk => ?_, fun k j hk hj => ?_, fun k j hk hs hj => ?_⟩
  · rw [hfl] at hk
    rw [hlen k hk]; exact hd.rows k hk
  · rw [hv'] at hk
    have e1 : (bothRaw f d e).var k = bothD f (d.var k) (e.var k) := bothTo_at f _ _ k _ hk
    rw [e1]
    exact rightD_both hf (hd.vg k hk) (he.vg k (by rw [← hvl]; exact hk))
  · rw [hfl] at hk
    rw [hlen k hk] at hj
    rw [hfld k j hk hj]
    exact rightD_both hf (hd.fg k j hk hj) (he.fg k j (by rw [← hff]; exact hk) (by rw [← hrl k hk]; exact hj))
  · rw [hfl] at hk
    rw [hlen k hk] at hj
    rw [hfld k j hk hj]
    have hj' : j < (e.row k).length := by rw [← hrl k hk]; exact hj
    have hk' : k < e.fields.length := by rw [← hff]; exact hk
    exact emptyD_both hf (hd.fg k j hk hj) (he.fg k j hk' hj') (hd.stray k j hk hs hj) (he.stray k j hk' hs hj')
/-- What is joined of right pictures is right. -/
theorem right_both {p : Pg} {is : Nat → Ins} {f : Span → Span → Span} (hf : Puts f) {d e : Pd} (hp : checkProg p is = 0) (hd : rightP p is d = 0) (he : rightP p is e = 0) : rightP p is (bothP f d e) = 0 := by
  unfold bothP
  cases hdn : d.none with
  | true =>
    rw [if_pos rfl]
    cases hen : e.none with
    | true => rfl
    | false =>
      rw [if_neg (by decide), bothRaw_self (RightPd.of he hp hen) hen]
      exact he
  | false =>
    rw [if_neg (by decide)]
    cases hen : e.none with
    | true =>
      rw [if_pos rfl, bothRaw_self (RightPd.of hd hp hdn) hdn]
      exact hd
    | false =>
      rw [if_neg (by decide)]
      exact ((Rp.of hd hdn).both hf (Rp.of he hen)).right rfl
theorem cp1_of {p : Pg} {is : Nat → Ins} {d : Pd} (h0 : checkProg p is = 0) (h1 : rightP p is d = 0) : cp1 p is d = 0 := (errs_next (f := fun _ => rightP p is d) (k := 0) h0).trans h1
/-- What one of both shows, both together show. -/
theorem shows_raw {p : Pg} {is : Nat → Ins} {f : Span → Span → Span} (hf : Puts f) {d e : Pd} {s : Rs} (hd : Rp p is d) (he : Rp p is e) (ok : ShowOk d s) (h : showsD d s = true ∨ showsD e s = true) : showsD (bothRaw f d e) s = true := by
  have hff : d.fields.length = e.fields.length := by rw [hd.fields, he.fields]
  have hrl : ∀ k, k < d.fields.length → (d.row k).length = (e.row k).length := fun k hk => by
    have h1 := hd.rows k hk
    have h2 := he.rows k (by rw [← hff]; exact hk)
    omega
  have hvl : d.vars.length = e.vars.length := by have := hd.vars; have := he.vars; omega
  have hrow : ∀ k, k < d.fields.length → (bothRaw f d e).row k = bothRow f (d.row k) (e.row k) := fun k hk => bothRows_at f d e k _ hk
  have hfld : ∀ k j, k < d.fields.length → j < (d.row k).length → (bothRaw f d e).field k j = bothD f (d.field k j) (e.field k j) := fun k j hk hj => by
    show ((bothRaw f d e).row k).getD j zeroD = _
    rw [hrow k hk, bothTo_at f _ _ j _ hj]
  have hV : ∀ k, k < s.vars.length → heldR (d.var k) (s.val k) (siteV s (s.val k)) = true ∨ heldR (e.var k) (s.val k) (siteV s (s.val k)) = true := fun k hk => by
    rcases h with h | h
    · left
      simp only [showsD, Bool.and_eq_true, Bool.not_eq_true'] at h
      have := anyN_none (by rw [show anyN _ _ = lostV d s from rfl, h.2.1]; decide) k hk
      simpa using this
    · right
      simp only [showsD, Bool.and_eq_true, Bool.not_eq_true'] at h
      have := anyN_none (by rw [show anyN _ _ = lostV e s from rfl, h.2.1]; decide) k hk
      simpa using this
  have hF : ∀ k j, k < s.things.length → j < (s.thing k).2.length → heldR (d.field (s.thing k).1.toNat j) (s.field k j) (siteV s (s.field k j)) = true ∨ heldR (e.field (s.thing k).1.toNat j) (s.field k j) (siteV s (s.field k j)) = true := fun k j hk hj => by
    rcases h with h | h
    · left
      simp only [showsD, Bool.and_eq_true, Bool.not_eq_true'] at h
      have h2 := anyN_none (by rw [show anyN _ _ = lostT d s from rfl, h.2.2]; decide) k hk
      have h3 := anyN_none (by rw [show anyN _ _ = lostF d s k from rfl, h2]; decide) j hj
      simpa using h3
    · right
      simp only [showsD, Bool.and_eq_true, Bool.not_eq_true'] at h
      have h2 := anyN_none (by rw [show anyN _ _ = lostT e s from rfl, h.2.2]; decide) k hk
      have h3 := anyN_none (by rw [show anyN _ _ = lostF e s k from rfl, h2]; decide) j hj
      simpa using h3
  have q1 : lostV (bothRaw f d e) s = false := by
    unfold lostV
    refine anyN_no fun k hk => ?_
    have hk' : k < d.vars.length := by rw [ok.nv]; exact hk
    have e1 : (bothRaw f d e).var k = bothD f (d.var k) (e.var k) := bothTo_at f _ _ k _ hk'
    rw [e1, held_both hf (hd.vg k hk') (he.vg k (by rw [← hvl]; exact hk')) _ _ (hV k hk)]
    rfl
  have q2 : lostT (bothRaw f d e) s = false := by
    unfold lostT
    refine anyN_no fun k hk => ?_
    unfold lostF
    refine anyN_no fun j hj => ?_
    obtain ⟨i, e1, e2, e3⟩ := ok.site k hk
    have e4 : (s.thing k).1.toNat = i := by omega
    have h5 := hF k j hk hj
    rw [e4] at h5 ⊢
    have hj' : j < (d.row i).length := by rw [e3]; exact hj
    rw [hfld i j e2 hj', held_both hf (hd.fg i j e2 hj') (he.fg i j (by rw [← hff]; exact e2) (by rw [← hrl i e2]; exact hj')) _ _ h5]
    rfl
  unfold showsD
  rw [q1, q2]
  rfl
theorem shows_both {p : Pg} {is : Nat → Ins} {f : Span → Span → Span} (hf : Puts f) {d e : Pd} {s : Rs} (hp : checkProg p is = 0) (hd : rightP p is d = 0) (he : rightP p is e = 0) (ok : ShowOk d s) (h : showsD d s = true) : showsD (bothP f d e) s = true := by
  have hdn : d.none = false := by
    cases hq : d.none with
    | false => rfl
    | true => simp [showsD, hq] at h
  unfold bothP
  rw [hdn, if_neg (by decide)]
  cases hen : e.none with
  | true =>
    rw [if_pos rfl, bothRaw_self (RightPd.of hd hp hdn) hdn]
    exact h
  | false =>
    rw [if_neg (by decide)]
    exact shows_raw hf (Rp.of hd hdn) (Rp.of he hen) ok (.inl h)
theorem shows_both' {p : Pg} {is : Nat → Ins} {f : Span → Span → Span} (hf : Puts f) {d e : Pd} {s : Rs} (hp : checkProg p is = 0) (hd : rightP p is d = 0) (he : rightP p is e = 0) (ok : e.none = false → ShowOk e s) (h : showsD d s = true) (okd : ShowOk d s) : showsD (bothP f e d) s = true := by
  have hdn : d.none = false := by
    cases hq : d.none with
    | false => rfl
    | true => simp [showsD, hq] at h
  unfold bothP
  cases hen : e.none with
  | true =>
    rw [if_pos rfl, hdn, if_neg (by decide), bothRaw_self (RightPd.of hd hp hdn) hdn]
    exact h
  | false =>
    rw [if_neg (by decide), hdn, if_neg (by decide)]
    exact shows_raw hf (Rp.of he hen) (Rp.of hd hdn) (ok hen) (.inr h)
end Go.Proofs.YtmbiooaeglpaiaaGreat
