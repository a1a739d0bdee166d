/- The walks over the copies of runs: the reference's CopyRun, the program's own. Conditions: what is copied lies in memory that was there; the bounds on lengths that the model asks. -/
import Derived.Test.YtkdbehgekeidoaaDoorDat
set_option linter.unusedSimpArgs false
set_option linter.unusedVariables false
namespace Go.Proofs.YtkdbehgekeidoaaDoor
open Go.RowKit

structure Fits (s : Rs) : Prop where
  v : s.vars.length ≤ 8
  t : s.things.length ≤ 100
  f : ∀ k, (s.thing k).2.length ≤ 3
  l : s.lines.length * 16 ≤ 140737488351232

theorem oneV {l : List Vl} : ∀ u ∈ flatV l, u.oneCell' = true := by
  intro u hu
  obtain ⟨x, _, hx⟩ := List.mem_flatMap.1 hu
  simp only [Vl.cells, List.mem_cons, List.not_mem_nil, or_false] at hx
  rcases hx with rfl | rfl <;> rfl
theorem oneL {l : List ByteArray} : ∀ u ∈ flatL l, u.oneCell' = true := by
  intro u hu
  obtain ⟨x, _, hx⟩ := List.mem_flatMap.1 hu
  simp only [lineCells, List.mem_cons, List.not_mem_nil, or_false] at hx
  subst hx; rfl

def FieldR (B m : Nat) (l : List Vl) : Value → World → Prop := fun v w => ∃ p cap R, v = .slice p m cap ∧ RowS 56 2 p m cap (flatV l) R ∧ Own B w R
theorem FieldR.stable {B m : Nat} {l : List Vl} : Stable (FieldR B m l) := by
  rintro v w w' hb ⟨p, cap, R, h1, h2, h3⟩; exact ⟨p, cap, R, h1, h2, h3.grow hb⟩
def ThingR (B m : Nat) (site : Int) (l : List Vl) : Value → World → Prop := fun v w => ∃ p cap R, v = .agg #[.int .i64 site, .slice p m cap] ∧ RowS 56 2 p m cap (flatV l) R ∧ Own B w R
theorem ThingR.stable {B m : Nat} {site : Int} {l : List Vl} : Stable (ThingR B m site l) := by
  rintro v w w' hb ⟨p, cap, R, h1, h2, h3⟩; exact ⟨p, cap, R, h1, h2, h3.grow hb⟩
def RowTR (B m : Nat) (site : Int) (l : List Vl) : Value → World → Prop := fun v w => ∃ p cap R b, v = .slice (some ⟨b, 0, none⟩) 1 1 ∧ RowS 56 2 p m cap (flatV l) R ∧ Own B w R ∧ w.heap[b]? = some (.cells #[.int .i64 site, .slice p m cap] 62 (0, 0))
theorem RowTR.stable {B m : Nat} {site : Int} {l : List Vl} : Stable (RowTR B m site l) := by
  rintro v w w' hb ⟨p, cap, R, b, h1, h2, h3, h4⟩; exact ⟨p, cap, R, b, h1, h2, h3.grow hb, (hb.block _ (heap_lt h4)).trans h4⟩

set_option maxRecDepth 100000 in
set_option maxHeartbeats 8000000 in
theorem copyRun_any (r : Rn) (s : Rs) (w : World) (hr : RunIs w r s) (hf : Fits s) :
    Calls Tryd.prog 23 #[r.v] w fun e w' => Gives w s e w' := by
  obtain ⟨⟨ths, hr, hth⟩, ha, ht, he, hv, hn, hl⟩ := hr
  obtain ⟨ba, oa, hpa, hca⟩ := hr.things.ex
  have HV := Lib.hid (fun w' (hw : Below w.heap.size w w') => (hr.vars.grow hw).news (f := Vl.cells) lenV hv)
  have HL := Lib.hid (fun w' (hw : Below w.heap.size w w') => (hr.lines.grow hw).news (f := lineCells) lenL hl)
  have HF := Lib.hid (fun k (hk : k < r.things.n) w' (hw : Below w.heap.size w w') => ((hr.fields k hk).2.grow hw).news (f := Vl.cells) (l := (s.thing k).2) lenV (hth k (by omega)).2)
  have HLV := Lib.hid (show (flatV s.vars).length = r.vars.n * 2 by rw [flat_len lenV, hv])
  have HLL := Lib.hid (show (flatL s.lines).length = r.lines.n * 1 by rw [flat_len lenL, hl])
  have HT := Lib.hid hth
  have HP := Lib.hid hpa
  have HC := Lib.hid hca
  have HB := Lib.hid (And.intro hf (And.intro ha (And.intro ht (And.intro he (And.intro hv (And.intro hn hl))))))
  have hmx : maxLen = 9223372036854775807 := rfl
  have HM := Lib.hid hmx
  have hn2 := hr.n2
  clear hr hth ha ht he hv hn hl hf hpa hca hmx
  have hL := Loc.start w
  go_enter Tryd.func23, Tryd.ntmps23
  go_step
  go_step
  go_step
  ((with_reducible refine lbx hL ?_); clear hL; intro b1 w1 hL)
  go_upto_region 1 with (first | (with_reducible refine lld hL ?_) | ((with_reducible first | refine lbx hL ?_ | refine lal hL ?_ | refine lbs hL ?_); clear hL; intro bl w1 hL) | ((with_reducible refine lst' hL ?_); clear hL; intro w1 hL))
  obtain ⟨b2, hb2⟩ : ∃ x, x = bl := ⟨_, rfl⟩
  subst hb2
  go_upto_region 2 with (first | (with_reducible refine lld hL ?_) | ((with_reducible first | refine lbx hL ?_ | refine lal hL ?_ | refine lbs hL ?_); clear hL; intro bl w1 hL) | ((with_reducible refine lst' hL ?_); clear hL; intro w1 hL) | (refine loc_build0 hL rfl sValues ?_; clear hL; intro p0 w1 hL) | (refine wp_append_new (p := p0) rfl rfl sValues bValue (by decide) rfl (HV.out _ hL.below) HLV.out oneV (by have := HB.out.1.v; have := HB.out.2.2.2.2.1; have := HM.out; omega) (by have := HB.out.1.v; have := HB.out.2.2.2.2.1; omega) ?_; intro pv cv Rv w2 hSv ho hb; replace hL := hL.gainTail hb ho; simp only [List.cons_append, List.nil_append] at hL; clear ho hb))
  go_upto_region 3 with (first | (with_reducible refine lld hL ?_) | ((with_reducible first | refine lbx hL ?_ | refine lal hL ?_ | refine lbs hL ?_); clear hL; intro bl w1 hL) | ((with_reducible refine lst' hL ?_); clear hL; intro w1 hL) | (refine loc_build0 hL rfl sStrs ?_; clear hL; intro p1 w1 hL) | (refine wp_append_new (p := p1) rfl rfl sStrs bStr (by decide) rfl (HL.out _ hL.below) HLL.out oneL (by have := HB.out.1.l; have := HB.out.2.2.2.2.2.2; have := HM.out; omega) (by have := HB.out.1.l; have := HB.out.2.2.2.2.2.2; omega) ?_; intro pl cl Rl w2 hSl ho hb; replace hL := hL.gainTail hb ho; simp only [List.cons_append, List.nil_append] at hL; clear ho hb))
  replace hSv : RowS 56 2 pv r.vars.n cv (flatV s.vars) Rv := hSv
  replace hSl : RowS 9 1 pl r.lines.n cl (flatL s.lines) Rl := hSl
  have HS := Lib.hid (And.intro hSv hSl)
  clear hSv hSl
  go_wp2
  go_loopw [3, 4] (fun c3 c4 wr => ∃ (k : Nat) (p3 : Option Addr) (cap3 : Nat) (ts : List Th) (Rt Rf : List LBlk), k ≤ r.things.n ∧ c3 = .slice p3 k cap3 ∧ c4 = .int .i64 k ∧ RowS 62 2 p3 k cap3 (flatT ts) Rt ∧ FRows ts (s.things.take k) Rf ∧ Loc w wr ((b2, 29, [.int .i64 0, .slice none 0 0, .slice none 0 0, .int .i64 0, .slice none 0 0, .int .i64 0]) :: (b1, 29, [.int .i64 r.at', .slice pv r.vars.n cv, .slice r.things.p r.things.n r.things.cap, .int .i64 r.taken, .slice pl r.lines.n cl, .int .i64 r.ending]) :: (Rv ++ (Rl ++ (Rf ++ Rt)))) []) (fun _ c _ => r.things.n - (intOf c).toNat)
  case atStart => exact ⟨0, none, 0, [], [], [], Nat.zero_le _, rfl, rfl, RowS.nil, .nil, by simpa using hL⟩
  case round =>
    obtain ⟨k, p3, cap3, ts, Rt, Rf, hk, rfl, rfl, hSt, hFr, hL⟩ := hrel
    have HX := Lib.hid (And.intro hSt hFr)
    clear hSt hFr
    by_cases hlt : k < r.things.n
    · have HP2 := Lib.hid (HP.out (by omega))
      have HR1 := Lib.hid (ReadsAt.cell (P := Tryd.prog) tInt (HC.out k hlt).1 ((HC.out k hlt).2 0 _ rfl))
      have HR2 := Lib.hid (ReadsAt.cell (P := Tryd.prog) tValues (HC.out k hlt).1 ((HC.out k hlt).2 1 _ rfl))
      have HFk := Lib.hid (HF.out k hlt)
      have hth := HT.out k (by have := HB.out.2.2.2.2.2.1; omega)
      have HTk := Lib.hid hth
      have HFb := Lib.hid (show (ths k).fs.n ≤ 3 by have := HB.out.1.f k; have := hth.2; omega)
      clear hth
      go_upto_region 7 with (first | (with_reducible refine lld hL ?_) | ((with_reducible first | refine lbx hL ?_ | refine lal hL ?_ | refine lbs hL ?_); clear hL; intro bl w1 hL) | ((with_reducible refine lst' hL ?_); clear hL; intro w1 hL))
      refine draw_begin [22, 23, 24, 25, 26, 27, 28, 29, 30, 31, 32, 33, 34, 35, 36, 37, 38] ?_
      apply draw_val
      · intro g w hb hdep; replace hL := hL.grow hb; clear hdep; simp only [fillD, fLa, fLb, sTa, sTb]
        go_wp2
        exact cY
      simp only [apN, apC]
      apply draw_val
      · intro g w hb hdep; replace hL := hL.grow hb; clear hdep; simp only [fillD, fLa, fLb, sTa, sTb]
        go_wp2
        exact cY
      simp only [apN, apC]
      apply draw_val
      · intro g w hb hdep; replace hL := hL.grow hb; have d1 := yv hdep 1; clear hdep; simp only [fillD, fLa, fLb, sTa, sTb]; simp only [d1]
        go_wp2_with (first | (with_reducible refine lld hL ?_) | (with_reducible refine ldD hL ?_))
        exact cY
      simp only [apN, apC]
      apply draw_val
      · intro g w hb hdep; replace hL := hL.grow hb; clear hdep; simp only [fillD, fLa, fLb, sTa, sTb]
        go_wp2
        exact cY
      simp only [apN, apC]
      apply draw_val
      · intro g w hb hdep; replace hL := hL.grow hb; have d2 := yv hdep 2; have d3 := yv hdep 3; clear hdep; simp only [fillD, fLa, fLb, sTa, sTb]; simp only [d2, d3]
        (simp only [HP2.out]; go_wp2)
        exact cY
      simp only [apN, apC]
      apply draw_val
      · intro g w hb hdep; replace hL := hL.grow hb; have d4 := yv hdep 4; clear hdep; simp only [fillD, fLa, fLb, sTa, sTb]; simp only [d4]
        go_wp2
        exact cY
      simp only [apN, apC]
      apply draw_val
      · intro g w hb hdep; replace hL := hL.grow hb; have d5 := yv hdep 5; clear hdep; simp only [fillD, fLa, fLb, sTa, sTb]; simp only [d5]
        refine loc_loadB HR1.out hL rfl rfl ?_
        exact cY
      simp only [apN, apC]
      refine draw_next EmptyR EmptyR.stable ?_ ?_
      · intro g w hb hdep; replace hL := hL.grow hb; clear hdep; simp only [fillD, fLa, fLb, sTa, sTb]
        go_wp2
        exact ⟨rfl, _, rfl, (Below.refl _ _).alloc (Nat.le_refl _) _, _, rfl⟩
      simp only [apN, apC]
      apply draw_val
      · intro g w hb hdep; replace hL := hL.grow hb; clear hdep; simp only [fillD, fLa, fLb, sTa, sTb]
        go_wp2
        exact cY
      simp only [apN, apC]
      apply draw_val
      · intro g w hb hdep; replace hL := hL.grow hb; have d8 := yv hdep 8; clear hdep; simp only [fillD, fLa, fLb, sTa, sTb]; simp only [d8]
        go_wp2_with (first | (with_reducible refine lld hL ?_) | (with_reducible refine ldD hL ?_))
        exact cY
      simp only [apN, apC]
      apply draw_val
      · intro g w hb hdep; replace hL := hL.grow hb; clear hdep; simp only [fillD, fLa, fLb, sTa, sTb]
        go_wp2
        exact cY
      simp only [apN, apC]
      apply draw_val
      · intro g w hb hdep; replace hL := hL.grow hb; have d9 := yv hdep 9; have d10 := yv hdep 10; clear hdep; simp only [fillD, fLa, fLb, sTa, sTb]; simp only [d9, d10]
        (simp only [HP2.out]; go_wp2)
        exact cY
      simp only [apN, apC]
      apply draw_val
      · intro g w hb hdep; replace hL := hL.grow hb; have d11 := yv hdep 11; clear hdep; simp only [fillD, fLa, fLb, sTa, sTb]; simp only [d11]
        go_wp2
        exact cY
      simp only [apN, apC]
      apply draw_val
      · intro g w hb hdep; replace hL := hL.grow hb; have d12 := yv hdep 12; clear hdep; simp only [fillD, fLa, fLb, sTa, sTb]; simp only [d12]
        refine loc_loadB HR2.out hL rfl rfl ?_
        exact cY
      simp only [apN, apC]
      refine draw_next (FieldR wr.heap.size (ths k).fs.n (s.thing k).2) FieldR.stable ?_ ?_
      · intro g w hb hdep; replace hL := hL.grow hb; have d7 : (EmptyR) (g 29) w := yr hdep 7; obtain ⟨q7, d7⟩ := d7; have d13 := yv hdep 13; clear hdep; simp only [fillD, fLa, fLb, sTa, sTb]; simp only [d7, d13]
        go_wp2_with (refine wp_append_new rfl rfl sValues bValue (by decide) rfl (HFk.out _ hL.below) (by rw [flat_len lenV, HTk.out.2]; rfl) oneV (by have := HFb.out; have := HM.out; omega) (by have := HFb.out; omega) ?_; intro p' cap' R' w' hS' hO' hB')
        exact ⟨rfl, _, rfl, hB', _, _, _, rfl, hS', hO'.mono hb.size⟩
      simp only [apN, apC]
      refine draw_next (ThingR wr.heap.size (ths k).fs.n (ths k).site (s.thing k).2) ThingR.stable ?_ ?_
      · intro g w hb hdep; replace hL := hL.grow hb; have d6 := yv hdep 6; have d14 : (FieldR wr.heap.size (ths k).fs.n (s.thing k).2) (g 36) w := yr hdep 14; obtain ⟨q14, c14, R14, d14, hS14, hO14⟩ := d14; clear hdep; simp only [fillD, fLa, fLb, sTa, sTb]; simp only [d6, d14]
        go_wp2_with (fail)
        exact ⟨rfl, _, rfl, Below.refl _ _, _, _, _, rfl, hS14, hO14⟩
      simp only [apN, apC]
      refine draw_next (RowTR wr.heap.size (ths k).fs.n (ths k).site (s.thing k).2) RowTR.stable ?_ ?_
      · intro g w hb hdep; replace hL := hL.grow hb; have d15 : (ThingR wr.heap.size (ths k).fs.n (ths k).site (s.thing k).2) (g 37) w := yr hdep 15; obtain ⟨q15, c15, R15, d15, hS15, hO15⟩ := d15; clear hdep; simp only [fillD, fLa, fLb, sTa, sTb]; simp only [d15]
        go_wp2_with (fail)
        exact ⟨rfl, _, rfl, (Below.refl _ _).alloc (Nat.le_refl _) _, _, _, _, _, rfl, hS15, hO15.grow ((Below.refl _ _).alloc (Nat.le_refl _) _), heap_new _ _⟩
      simp only [apN, apC]
      refine draw_end hL (by kernel_rfl) (by kernel_rfl) ?_
      intro g w2 hb hR; simp only [List.length_cons, List.length_nil, Nat.reduceAdd] at hR
      have e0 := yv hR 0
      have e1 := yv hR 1
      have e2 := yv hR 2
      have e3 := yv hR 3
      have e4 := yv hR 4
      have e5 := yv hR 5
      have e6 := yv hR 6
      have e7 : (EmptyR) (g 29) w2 := yr hR 7
      obtain ⟨q7, e7⟩ := e7
      have e8 := yv hR 8
      have e9 := yv hR 9
      have e10 := yv hR 10
      have e11 := yv hR 11
      have e12 := yv hR 12
      have e13 := yv hR 13
      have e14 : (FieldR wr.heap.size (ths k).fs.n (s.thing k).2) (g 36) w2 := yr hR 14
      obtain ⟨q14, c14, R14, e14, -, -⟩ := e14
      have e15 : (ThingR wr.heap.size (ths k).fs.n (ths k).site (s.thing k).2) (g 37) w2 := yr hR 15
      obtain ⟨q15, c15, R15, e15, -, -⟩ := e15
      have e16 : (RowTR wr.heap.size (ths k).fs.n (ths k).site (s.thing k).2) (g 38) w2 := yr hR 16
      obtain ⟨qf, cf, Rn, bf, e16, hSf, hOf, hHf⟩ := e16; have hL2 := hL.gainMid (K := (b2, 29, [.int .i64 0, .slice none 0 0, .slice none 0 0, .int .i64 0, .slice none 0 0, .int .i64 0]) :: (b1, 29, [.int .i64 r.at', .slice pv r.vars.n cv, .slice r.things.p r.things.n r.things.cap, .int .i64 r.taken, .slice pl r.lines.n cl, .int .i64 r.ending]) :: (Rv ++ (Rl ++ Rf))) (R := Rt) (by simp only [List.cons_append, List.append_assoc]) hb hOf; clear hOf
      clear hR; simp only [fillD, fLa, fLb, sTa, sTb]
      simp only [e0, e1, e2, e3, e4, e5, e6, e7, e8, e9, e10, e11, e12, e13, e14, e15, e16]
      clear e0 e1 e2 e3 e4 e5 e6 e7 e8 e9 e10 e11 e12 e13 e14 e15 e16
      replace hL := hL.grow hb
      clear hb
      replace hL := hL2
      clear hL2
      go_wp2_with (first | (with_reducible refine lld hL ?_) | ((with_reducible first | refine lbx hL ?_ | refine lal hL ?_ | refine lbs hL ?_); clear hL; intro bl w1 hL) | ((with_reducible refine lst' hL ?_); clear hL; intro w1 hL) | (refine loc_appendS (K := (b2, 29, [.int .i64 0, .slice none 0 0, .slice none 0 0, .int .i64 0, .slice none 0 0, .int .i64 0]) :: (b1, 29, [.int .i64 r.at', .slice pv r.vars.n cv, .slice r.things.p r.things.n r.things.cap, .int .i64 r.taken, .slice pl r.lines.n cl, .int .i64 r.ending]) :: (Rv ++ (Rl ++ (Rf ++ Rn)))) (R := Rt) (news := [.int .i64 (ths k).site, .slice qf (ths k).fs.n cf]) HX.out.1 hL (by simp only [List.cons_append, List.append_assoc]) rfl rfl sThings bThing (by decide) rfl (fun _ => ⟨⟨bf, 0, none⟩, rfl, fun j u hj => by rw [add_addr, Nat.zero_add]; exact heap_cell hHf j hj⟩) rfl (by simp [Value.oneCell']) (by have := HB.out.1.t; have := HB.out.2.2.2.2.2.1; have := HM.out; omega) (by have := HB.out.1.t; have := HB.out.2.2.2.2.2.1; omega) ?_; clear hL; intro p4 cap4 Rt4 w4 hS4 hL; simp only [List.cons_append, List.append_assoc] at hL))
      go_roundw
      case rel =>
        refine ⟨k + 1, p4, cap4, ts ++ [⟨(ths k).site, ⟨qf, (ths k).fs.n, cf⟩⟩], Rt4, Rf ++ Rn, by omega, rfl, by go_num, by simpa [flatT] using hS4, ?_, by simpa only [List.append_assoc] using hL⟩
        have h1 := FRows.snoc (t := ⟨(ths k).site, ⟨qf, (ths k).fs.n, cf⟩⟩) HX.out.2 hSf
        have h2 : s.things.take (k + 1) = s.things.take k ++ [((ths k).site, (s.thing k).2)] := by
          have hk' : k < s.things.length := by have := HB.out.2.2.2.2.2.1; omega
          have h3 : s.things[k]? = some (s.thing k) := by simp [Rs.thing, List.getD_eq_getElem?_getD, hk']
          rw [List.take_add_one, HTk.out.1, h3]; rfl
        rw [h2]; exact h1
      case measure => simp [intOf]; omega
    · obtain rfl : k = r.things.n := by omega
      go_wp2_with (first | (with_reducible refine lld hL ?_) | ((with_reducible first | refine lbx hL ?_ | refine lal hL ?_ | refine lbs hL ?_); clear hL; intro bl w1 hL) | ((with_reducible refine lst' hL ?_); clear hL; intro w1 hL))
      (try simp only [Exit.inBlock, Exit.then]); refine' ret1 rfl ?_ rfl ?_; (case refine'_2 => exact cRes)
      obtain ⟨hSt, hFr⟩ := HX.out
      obtain ⟨hSv, hSl⟩ := HS.out
      obtain ⟨_, ha, ht, he, hv, hn, hl⟩ := HB.out
      rw [List.take_of_length_le (by omega)] at hFr
      refine ⟨⟨r.at', ⟨pv, r.vars.n, cv⟩, ⟨p3, r.things.n, cap3⟩, r.taken, ⟨pl, r.lines.n, cl⟩, r.ending⟩, ts, Rv, Rt, Rl, Rf, rfl, ⟨hSv, hSt, hSl, hFr, ha, ht, he⟩, ?_, hL.below⟩
      refine (hL.ownOf ((List.sublist_cons_self _ _).trans (List.sublist_cons_self _ _))).perm (List.Perm.append_left Rv ?_)
      rw [← List.append_assoc Rl Rf Rt]
      exact List.perm_append_comm

theorem RowS.types {E size : Nat} {p : Option Addr} {n cap : Nat} {xs : List Value} {R : List LBlk} (h : RowS E size p n cap xs R) : ∀ e ∈ R, e.2.1 = E := by
  intro e he
  rcases h.2 with ⟨_, _, hR⟩ | ⟨g, cs, _, hR, _⟩
  · subst hR; cases he
  · subst hR; rw [List.mem_singleton.1 he]
theorem Own.apart {B : Nat} {w : World} {R R' : List LBlk} (h : Own B w R) (h' : Own B w R') {E E' : TypeId} (hE : ∀ e ∈ R, e.2.1 = E) (hE' : ∀ e ∈ R', e.2.1 = E') (hne : E ≠ E') : Own B w (R ++ R') := by
  refine ⟨?_, fun e he => ?_⟩
  · rw [List.map_append, List.nodup_append]
    refine ⟨h.nodup, h'.nodup, fun a ha b hb hab => ?_⟩
    subst hab
    obtain ⟨e, he, hee⟩ := List.mem_map.1 ha
    obtain ⟨e', he', hee'⟩ := List.mem_map.1 hb
    have h1 := (h.at' e he).2
    have h2 := (h'.at' e' he').2
    rw [hee] at h1
    rw [hee', h1] at h2
    simp only [Option.some.injEq, Obj.cells.injEq] at h2
    exact hne ((hE e he).symm.trans (h2.2.1.trans (hE' e' he')))
  · rcases List.mem_append.1 he with he | he
    · exact h.at' e he
    · exact h'.at' e he
def LinesR (B m : Nat) (l : List ByteArray) : Value → World → Prop := fun v w => ∃ p cap R, v = .slice p m cap ∧ RowS 9 1 p m cap (flatL l) R ∧ Own B w R
theorem LinesR.stable {B m : Nat} {l : List ByteArray} : Stable (LinesR B m l) := by
  rintro v w w' hb ⟨p, cap, R, h1, h2, h3⟩; exact ⟨p, cap, R, h1, h2, h3.grow hb⟩

set_option maxRecDepth 100000 in
set_option maxHeartbeats 8000000 in
theorem own_any (r : Rn) (s : Rs) (w : World) (hr : RunIs w r s) (hf : Fits s) :
    Calls Tryd.prog 18 #[r.v] w fun e w' => Gives w s e w' := by
  obtain ⟨⟨ths, hr, hth⟩, ha, ht, he, hv, hn, hl⟩ := hr
  obtain ⟨ba, oa, hpa, hca⟩ := hr.things.ex
  have HV := Lib.hid (fun w' (hw : Below w.heap.size w w') => cloneValues r.vars.p r.vars.n r.vars.cap s.vars w' (hr.vars.grow hw) hv (by have := hf.v; omega))
  have HL := Lib.hid (fun w' (hw : Below w.heap.size w w') => cloneLines r.lines.p r.lines.n r.lines.cap s.lines w' (hr.lines.grow hw) hl (by have := hf.l; omega))
  have HF := Lib.hid (fun k (hk : k < r.things.n) w' (hw : Below w.heap.size w w') => cloneValues (ths k).fs.p (ths k).fs.n (ths k).fs.cap (s.thing k).2 w' ((hr.fields k hk).2.grow hw) (hth k (by omega)).2 (by have := hf.f k; have := (hth k (by omega)).2; omega))
  have HT := Lib.hid hth
  have HP := Lib.hid hpa
  have HC := Lib.hid hca
  have HB := Lib.hid (And.intro hf (And.intro ha (And.intro ht (And.intro he (And.intro hv (And.intro hn hl))))))
  have hmx : maxLen = 9223372036854775807 := rfl
  have HM := Lib.hid hmx
  have hn2 := hr.n2
  clear hr hth ha ht he hv hn hl hf hpa hca hmx
  have hL := Loc.start w
  go_enter Tryd.func18, Tryd.ntmps18
  go_step
  go_step
  go_step
  ((with_reducible refine lbx hL ?_); clear hL; intro b1 w1 hL)
  go_upto_region 1 with (first | (with_reducible refine lld hL ?_) | ((with_reducible first | refine lbx hL ?_ | refine lal hL ?_ | refine lbs hL ?_); clear hL; intro bl w1 hL) | ((with_reducible refine lst' hL ?_); clear hL; intro w1 hL))
  obtain ⟨b2, hb2⟩ : ∃ x, x = bl := ⟨_, rfl⟩
  subst hb2
  obtain ⟨wq, hwq⟩ : ∃ x, x = w1 := ⟨_, rfl⟩
  subst hwq
  refine draw_begin [6, 7, 8, 9, 10, 11, 12] ?_
  apply draw_val
  · intro g w hb hdep; replace hL := hL.grow hb; clear hdep; simp only [fillD, fLa, fLb, sTa, sTb]
    go_wp2
    exact cY
  simp only [apN, apC]
  apply draw_val
  · intro g w hb hdep; replace hL := hL.grow hb; have d0 := yv hdep 0; clear hdep; simp only [fillD, fLa, fLb, sTa, sTb]; simp only [d0]
    go_wp2_with (first | (with_reducible refine lld hL ?_) | (with_reducible refine ldD hL ?_))
    exact cY
  simp only [apN, apC]
  refine draw_next (FieldR wq.heap.size r.vars.n s.vars) FieldR.stable ?_ ?_
  · intro g w hb hdep; replace hL := hL.grow hb; have d1 := yv hdep 1; clear hdep; simp only [fillD, fLa, fLb, sTa, sTb]; simp only [d1]
    go_wp2_with (go_at_call 37; refine (HV.out _ hL.below).mono ?_; rintro e w3 ⟨p3, c3, R3, rfl, hS3, hO3, hb3⟩; dsimp only)
    exact ⟨rfl, _, rfl, hb3, _, _, _, rfl, hS3, hO3.mono hb.size⟩
  simp only [apN, apC]
  apply draw_val
  · intro g w hb hdep; replace hL := hL.grow hb; clear hdep; simp only [fillD, fLa, fLb, sTa, sTb]
    go_wp2
    exact cY
  simp only [apN, apC]
  apply draw_val
  · intro g w hb hdep; replace hL := hL.grow hb; have d3 := yv hdep 3; clear hdep; simp only [fillD, fLa, fLb, sTa, sTb]; simp only [d3]
    go_wp2_with (first | (with_reducible refine lld hL ?_) | (with_reducible refine ldD hL ?_))
    exact cY
  simp only [apN, apC]
  refine draw_next (LinesR wq.heap.size r.lines.n s.lines) LinesR.stable ?_ ?_
  · intro g w hb hdep; replace hL := hL.grow hb; have d4 := yv hdep 4; clear hdep; simp only [fillD, fLa, fLb, sTa, sTb]; simp only [d4]
    go_wp2_with (go_at_call 38; refine (HL.out _ hL.below).mono ?_; rintro e w3 ⟨p3, c3, R3, rfl, hS3, hO3, hb3⟩; dsimp only)
    exact ⟨rfl, _, rfl, hb3, _, _, _, rfl, hS3, hO3.mono hb.size⟩
  simp only [apN, apC]
  apply draw_val
  · intro g w hb hdep; replace hL := hL.grow hb; clear hdep; simp only [fillD, fLa, fLb, sTa, sTb]
    go_wp2
    exact cY
  simp only [apN, apC]
  refine draw_end hL (by kernel_rfl) (by kernel_rfl) ?_
  intro g w2 hb hR; simp only [List.length_cons, List.length_nil, Nat.reduceAdd] at hR
  have e0 := yv hR 0
  have e1 := yv hR 1
  have e2 : (FieldR wq.heap.size r.vars.n s.vars) (g 8) w2 := yr hR 2
  obtain ⟨pv, cv, Rv, e2, hSv, hOv⟩ := e2
  have e3 := yv hR 3
  have e4 := yv hR 4
  have e5 : (LinesR wq.heap.size r.lines.n s.lines) (g 11) w2 := yr hR 5
  obtain ⟨pl, cl, Rl, e5, hSl, hOl⟩ := e5; have hL2 := hL.gainTail hb (hOv.apart hOl hSv.types hSl.types (by decide)); clear hOv hOl
  have e6 := yv hR 6
  clear hR; simp only [fillD, fLa, fLb, sTa, sTb]
  simp only [e0, e1, e2, e3, e4, e5, e6]
  clear e0 e1 e2 e3 e4 e5 e6
  replace hL := hL.grow hb
  clear hb
  replace hL := hL2
  clear hL2
  simp only [List.cons_append, List.nil_append] at hL
  have HS := Lib.hid (And.intro hSv hSl)
  clear hSv hSl
  go_wp2_with (first | (with_reducible refine lld hL ?_) | ((with_reducible first | refine lbx hL ?_ | refine lal hL ?_ | refine lbs hL ?_); clear hL; intro bl w1 hL) | ((with_reducible refine lst' hL ?_); clear hL; intro w1 hL))
  go_loopw [3, 17] (fun c3 c4 wr => ∃ (k : Nat) (p3 : Option Addr) (cap3 : Nat) (ts : List Th) (Rt Rf : List LBlk), k ≤ r.things.n ∧ c3 = .slice p3 k cap3 ∧ c4 = .int .i64 k ∧ RowS 62 2 p3 k cap3 (flatT ts) Rt ∧ FRows ts (s.things.take k) Rf ∧ Loc w wr ((b2, 29, [.int .i64 0, .slice none 0 0, .slice none 0 0, .int .i64 0, .slice none 0 0, .int .i64 0]) :: (b1, 29, [.int .i64 r.at', .slice pv r.vars.n cv, .slice r.things.p r.things.n r.things.cap, .int .i64 r.taken, .slice pl r.lines.n cl, .int .i64 r.ending]) :: (Rv ++ (Rl ++ (Rf ++ Rt)))) []) (fun _ c _ => r.things.n - (intOf c).toNat)
  case atStart => exact ⟨0, none, 0, [], [], [], Nat.zero_le _, rfl, rfl, RowS.nil, .nil, by simpa using hL⟩
  case round =>
    obtain ⟨k, p3, cap3, ts, Rt, Rf, hk, rfl, rfl, hSt, hFr, hL⟩ := hrel
    have HX := Lib.hid (And.intro hSt hFr)
    clear hSt hFr
    by_cases hlt : k < r.things.n
    · have HP2 := Lib.hid (HP.out (by omega))
      have HR := Lib.hid (show ReadsAt Tryd.prog 62 w ba (oa + k * 2) (.agg #[.int .i64 (ths k).site, .slice (ths k).fs.p (ths k).fs.n (ths k).fs.cap]) from ReadsAt.agg tThing (HC.out k hlt).1 (HC.out k hlt).2 rfl)
      have HFk := Lib.hid (HF.out k hlt)
      have hth := HT.out k (by have := HB.out.2.2.2.2.2.1; omega)
      have HTk := Lib.hid hth
      clear hth
      go_upto_region 5 with (first | (with_reducible refine lld hL ?_) | ((with_reducible first | refine lbx hL ?_ | refine lal hL ?_ | refine lbs hL ?_); clear hL; intro bl w1 hL) | ((with_reducible refine lst' hL ?_); clear hL; intro w1 hL))
      go_step
      simp only [HP2.out]
      go_upto_region 6 with (first | (with_reducible refine lld hL ?_) | ((with_reducible first | refine lbx hL ?_ | refine lal hL ?_ | refine lbs hL ?_); clear hL; intro bl w1 hL) | ((with_reducible refine lst' hL ?_); clear hL; intro w1 hL) | refine loc_loadB HR.out hL rfl rfl ?_)
      obtain ⟨b5, hb5⟩ : ∃ x, x = bl := ⟨_, rfl⟩
      subst hb5
      obtain ⟨wq, hwq⟩ : ∃ x, x = w1 := ⟨_, rfl⟩
      subst hwq
      refine draw_begin [21, 22, 23, 24, 25, 26, 27, 28] ?_
      apply draw_val
      · intro g w hb hdep; replace hL := hL.grow hb; clear hdep; simp only [fillD, fLa, fLb, sTa, sTb]
        go_wp2
        exact cY
      simp only [apN, apC]
      apply draw_val
      · intro g w hb hdep; replace hL := hL.grow hb; clear hdep; simp only [fillD, fLa, fLb, sTa, sTb]
        go_wp2
        exact cY
      simp only [apN, apC]
      apply draw_val
      · intro g w hb hdep; replace hL := hL.grow hb; have d1 := yv hdep 1; clear hdep; simp only [fillD, fLa, fLb, sTa, sTb]; simp only [d1]
        go_wp2_with (first | (with_reducible refine lld hL ?_) | (with_reducible refine ldD hL ?_))
        exact cY
      simp only [apN, apC]
      apply draw_val
      · intro g w hb hdep; replace hL := hL.grow hb; clear hdep; simp only [fillD, fLa, fLb, sTa, sTb]
        go_wp2
        exact cY
      simp only [apN, apC]
      apply draw_val
      · intro g w hb hdep; replace hL := hL.grow hb; have d3 := yv hdep 3; clear hdep; simp only [fillD, fLa, fLb, sTa, sTb]; simp only [d3]
        go_wp2_with (first | (with_reducible refine lld hL ?_) | (with_reducible refine ldD hL ?_))
        exact cY
      simp only [apN, apC]
      refine draw_next (FieldR wq.heap.size (ths k).fs.n (s.thing k).2) FieldR.stable ?_ ?_
      · intro g w hb hdep; replace hL := hL.grow hb; have d4 := yv hdep 4; clear hdep; simp only [fillD, fLa, fLb, sTa, sTb]; simp only [d4]
        go_wp2_with (go_at_call 37; refine (HFk.out _ hL.below).mono ?_; rintro e w3 ⟨p3, c3, R3, rfl, hS3, hO3, hb3⟩; dsimp only)
        exact ⟨rfl, _, rfl, hb3, _, _, _, rfl, hS3, hO3.mono hb.size⟩
      simp only [apN, apC]
      refine draw_next (ThingR wq.heap.size (ths k).fs.n (ths k).site (s.thing k).2) ThingR.stable ?_ ?_
      · intro g w hb hdep; replace hL := hL.grow hb; have d2 := yv hdep 2; have d5 : (FieldR wq.heap.size (ths k).fs.n (s.thing k).2) (g 26) w := yr hdep 5; obtain ⟨q5, c5, R5, d5, hS5, hO5⟩ := d5; clear hdep; simp only [fillD, fLa, fLb, sTa, sTb]; simp only [d2, d5]
        go_wp2_with (fail)
        exact ⟨rfl, _, rfl, Below.refl _ _, _, _, _, rfl, hS5, hO5⟩
      simp only [apN, apC]
      refine draw_next (RowTR wq.heap.size (ths k).fs.n (ths k).site (s.thing k).2) RowTR.stable ?_ ?_
      · intro g w hb hdep; replace hL := hL.grow hb; have d6 : (ThingR wq.heap.size (ths k).fs.n (ths k).site (s.thing k).2) (g 27) w := yr hdep 6; obtain ⟨q6, c6, R6, d6, hS6, hO6⟩ := d6; clear hdep; simp only [fillD, fLa, fLb, sTa, sTb]; simp only [d6]
        go_wp2_with (fail)
        exact ⟨rfl, _, rfl, (Below.refl _ _).alloc (Nat.le_refl _) _, _, _, _, _, rfl, hS6, hO6.grow ((Below.refl _ _).alloc (Nat.le_refl _) _), heap_new _ _⟩
      simp only [apN, apC]
      refine draw_end hL (by kernel_rfl) (by kernel_rfl) ?_
      intro g w2 hb hR; simp only [List.length_cons, List.length_nil, Nat.reduceAdd] at hR
      have e0 := yv hR 0
      have e1 := yv hR 1
      have e2 := yv hR 2
      have e3 := yv hR 3
      have e4 := yv hR 4
      have e5 : (FieldR wq.heap.size (ths k).fs.n (s.thing k).2) (g 26) w2 := yr hR 5
      obtain ⟨q5, c5, R5, e5, -, -⟩ := e5
      have e6 : (ThingR wq.heap.size (ths k).fs.n (ths k).site (s.thing k).2) (g 27) w2 := yr hR 6
      obtain ⟨q6, c6, R6, e6, -, -⟩ := e6
      have e7 : (RowTR wq.heap.size (ths k).fs.n (ths k).site (s.thing k).2) (g 28) w2 := yr hR 7
      obtain ⟨qf, cf, Rn, bf, e7, hSf, hOf, hHf⟩ := e7; have hL2 := hL.gainMid (K := (b5, 62, [.int .i64 (ths k).site, .slice (ths k).fs.p (ths k).fs.n (ths k).fs.cap]) :: (b2, 29, [.int .i64 0, .slice none 0 0, .slice none 0 0, .int .i64 0, .slice none 0 0, .int .i64 0]) :: (b1, 29, [.int .i64 r.at', .slice pv r.vars.n cv, .slice r.things.p r.things.n r.things.cap, .int .i64 r.taken, .slice pl r.lines.n cl, .int .i64 r.ending]) :: (Rv ++ (Rl ++ Rf))) (R := Rt) (by simp only [List.cons_append, List.append_assoc]) hb hOf; clear hOf
      clear hR; simp only [fillD, fLa, fLb, sTa, sTb]
      simp only [e0, e1, e2, e3, e4, e5, e6, e7]
      clear e0 e1 e2 e3 e4 e5 e6 e7
      replace hL := hL.grow hb
      clear hb
      replace hL := hL2
      clear hL2
      go_wp2_with (first | (with_reducible refine lld hL ?_) | ((with_reducible first | refine lbx hL ?_ | refine lal hL ?_ | refine lbs hL ?_); clear hL; intro bl w1 hL) | ((with_reducible refine lst' hL ?_); clear hL; intro w1 hL) | (refine loc_appendS (K := (b5, 62, [.int .i64 (ths k).site, .slice (ths k).fs.p (ths k).fs.n (ths k).fs.cap]) :: (b2, 29, [.int .i64 0, .slice none 0 0, .slice none 0 0, .int .i64 0, .slice none 0 0, .int .i64 0]) :: (b1, 29, [.int .i64 r.at', .slice pv r.vars.n cv, .slice r.things.p r.things.n r.things.cap, .int .i64 r.taken, .slice pl r.lines.n cl, .int .i64 r.ending]) :: (Rv ++ (Rl ++ (Rf ++ Rn)))) (R := Rt) (news := [.int .i64 (ths k).site, .slice qf (ths k).fs.n cf]) HX.out.1 hL (by simp only [List.cons_append, List.append_assoc]) rfl rfl sThings bThing (by decide) rfl (fun _ => ⟨⟨bf, 0, none⟩, rfl, fun j u hj => by rw [add_addr, Nat.zero_add]; exact heap_cell hHf j hj⟩) rfl (by simp [Value.oneCell']) (by have := HB.out.1.t; have := HB.out.2.2.2.2.2.1; have := HM.out; omega) (by have := HB.out.1.t; have := HB.out.2.2.2.2.2.1; omega) ?_; clear hL; intro p4 cap4 Rt4 w4 hS4 hL; simp only [List.cons_append, List.append_assoc] at hL))
      simp only [← HP2.out]
      go_roundw
      case rel =>
        refine ⟨k + 1, p4, cap4, ts ++ [⟨(ths k).site, ⟨qf, (ths k).fs.n, cf⟩⟩], Rt4, Rf ++ Rn, by omega, rfl, by go_num, by simpa [flatT] using hS4, ?_, ?_⟩
        · have h1 := FRows.snoc (t := ⟨(ths k).site, ⟨qf, (ths k).fs.n, cf⟩⟩) HX.out.2 hSf
          have h2 : s.things.take (k + 1) = s.things.take k ++ [((ths k).site, (s.thing k).2)] := by
            have hk' : k < s.things.length := by have := HB.out.2.2.2.2.2.1; omega
            have h3 : s.things[k]? = some (s.thing k) := by simp [Rs.thing, List.getD_eq_getElem?_getD, hk']
            rw [List.take_add_one, HTk.out.1, h3]; rfl
          rw [h2]; exact h1
        · have := hL.drop (List.sublist_cons_self _ _) (fun _ h => h)
          simpa only [List.append_assoc] using this
      case measure => simp [intOf]; omega
    · obtain rfl : k = r.things.n := by omega
      go_wp2_with (first | (with_reducible refine lld hL ?_) | ((with_reducible first | refine lbx hL ?_ | refine lal hL ?_ | refine lbs hL ?_); clear hL; intro bl w1 hL) | ((with_reducible refine lst' hL ?_); clear hL; intro w1 hL))
      (try simp only [Exit.inBlock, Exit.then]); refine' ret1 rfl ?_ rfl ?_; (case refine'_2 => exact cRes)
      obtain ⟨hSt, hFr⟩ := HX.out
      obtain ⟨hSv, hSl⟩ := HS.out
      obtain ⟨_, ha, ht, he, hv, hn, hl⟩ := HB.out
      rw [List.take_of_length_le (by omega)] at hFr
      refine ⟨⟨r.at', ⟨pv, r.vars.n, cv⟩, ⟨p3, r.things.n, cap3⟩, r.taken, ⟨pl, r.lines.n, cl⟩, r.ending⟩, ts, Rv, Rt, Rl, Rf, rfl, ⟨hSv, hSt, hSl, hFr, ha, ht, he⟩, ?_, hL.below⟩
      refine (hL.ownOf ((List.sublist_cons_self _ _).trans (List.sublist_cons_self _ _))).perm (List.Perm.append_left Rv ?_)
      rw [← List.append_assoc Rl Rf Rt]
      exact List.perm_append_comm
end Go.Proofs.YtkdbehgekeidoaaDoor
