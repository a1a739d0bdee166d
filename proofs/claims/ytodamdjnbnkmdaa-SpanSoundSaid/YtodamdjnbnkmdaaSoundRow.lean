/- The law SpanSound: whatever it is handed it returns true, and its arguments read as they did. Conditions: none. -/
import Derived.Test.YtodamdjnbnkmdaaFrame
import Derived.Test.YtodamdjnbnkmdaaSoundAll
set_option linter.unusedSimpArgs false
set_option linter.unusedVariables false
namespace Go.Proofs.Ytodamdjnbnkmdaa.spanSound
open Go.ChangeShapes Go.WideShapes Go.ChangeAt Go.RowKit Go.Deep Go.Joins

theorem own : ownKnob Try.prog.godebug = none := by kernel_rfl
theorem laid : laidOutB Try.prog = true := by kernel_rfl

set_option maxRecDepth 100000 in
set_option maxHeartbeats 1600000 in
theorem lifted (os : Os) (started : os.Started) (H : Type) (enc : TypeId × Value → H) :
    ReturnsInHanded {} Try.checked os 3 .any (Rows.spanSoundSpec.pre6 enc Try.prog Try.f3 Rows.spanSoundRow.domain false) (Rows.spanSoundSpec.post enc Try.prog Try.f3 false true false false) := by
  refine returnsInHanded_of_change (C := Try.checked) own started (by kernel_rfl) Try.func3
    (ChangeSpec.witness6 (enc := enc) (C := Try.checked) false ⟨#[], #[.int .i64 0, .agg #[.bool false, .int .i64 0, .int .i64 0], .agg #[.bool false, .int .i64 0, .int .i64 0], .int .i64 0, .int .i64 0, .slice none 0 0], []⟩ 8 (by kernel_rfl) (by kernel_rfl) (by kernel_rfl) (by kernel_rfl)) ?_
  intro W base args ds gs before hval0 hW hcnd _
  have hval : ∀ (j : Nat) t v, Try.f3.params[j]? = some t → args[j]? = some v → Value.okWide Try.prog W .any base t v := hval0
  have hW' := hW
  have hlt : ∀ p ∈ before, p.block < W.heap.size := fun p hp => hW.lt p hp
  obtain ⟨p, q, hA0, hV, rfl, hfz, hnd⟩ := hW
  have hA : DataW.TrodAll enc Try.prog W 0 (fun _ => true) true Try.f3.params.toList args.toList ds p := hA0
  have hAll := hA
  rw [Try.params3] at hA hval
  obtain ⟨v0, vs0, d0, ds0, p0, q0, hargs, rfl, hp0, h0, r0⟩ := trodAll_cons hA
  obtain ⟨v1, vs1, d1, ds1, p1, q1, rfl, rfl, hp1, h1, r1⟩ := trodAll_cons r0
  obtain ⟨v2, vs2, d2, ds2, p2, q2, rfl, rfl, hp2, h2, r2⟩ := trodAll_cons r1
  obtain ⟨v3, vs3, d3, ds3, p3, q3, rfl, rfl, hp3, h3, r3⟩ := trodAll_cons r2
  obtain ⟨v4, vs4, d4, ds4, p4, q4, rfl, rfl, hp4, h4, r4⟩ := trodAll_cons r3
  obtain ⟨v5, vs5, d5, ds5, p5, q5, rfl, rfl, hp5, h5, r5⟩ := trodAll_cons r4
  obtain ⟨rfl, rfl, hpn⟩ := trodAll_nil r5
  obtain rfl : args = #[v0, v1, v2, v3, v4, v5] := by cases args; simp_all
  obtain ⟨rfl, rfl⟩ := trodVars_none hV
  have key : Calls Try.prog 3 #[v0, v1, v2, v3, v4, v5] W fun e w' => e = .returned (.bool true) ∧ Below W.heap.size W w' := by
    obtain ⟨a0, rfl, -, -, w0⟩ := open_int Try.underlying3 (hval 0 3 v0 rfl rfl) h0
    obtain ⟨x1, y1, z1, s0, s1, s2, m1, rfl, -, -, b0, b1, b2⟩ := open_agg3 Try.underlying23 (by kernel_rfl) (by kernel_rfl) (hval 1 23 v1 rfl rfl) h1
    obtain ⟨n1, e0, -⟩ := DataW.trod_bool Try.underlying4 b0
    obtain ⟨l1, e1, -, -⟩ := DataW.trod_int Try.underlying3 b1
    obtain ⟨g1, e2, -, -⟩ := DataW.trod_int Try.underlying3 b2
    obtain rfl : x1 = .bool n1 := by simpa using e0
    obtain rfl : y1 = .int .i64 l1 := by simpa using e1
    obtain rfl : z1 = .int .i64 g1 := by simpa using e2
    obtain ⟨x2, y2, z2, s0, s1, s2, m2, rfl, -, -, b0, b1, b2⟩ := open_agg3 Try.underlying23 (by kernel_rfl) (by kernel_rfl) (hval 2 23 v2 rfl rfl) h2
    obtain ⟨n2, e0, -⟩ := DataW.trod_bool Try.underlying4 b0
    obtain ⟨l2, e1, -, -⟩ := DataW.trod_int Try.underlying3 b1
    obtain ⟨g2, e2, -, -⟩ := DataW.trod_int Try.underlying3 b2
    obtain rfl : x2 = .bool n2 := by simpa using e0
    obtain rfl : y2 = .int .i64 l2 := by simpa using e1
    obtain rfl : z2 = .int .i64 g2 := by simpa using e2
    obtain ⟨a3, rfl, -, -, w3⟩ := open_int Try.underlying3 (hval 3 3 v3 rfl rfl) h3
    obtain ⟨a4, rfl, -, -, w4⟩ := open_int Try.underlying3 (hval 4 3 v4 rfl rfl) h4
    obtain ⟨fu, hfu⟩ := h5
    have hsl := open_slice_fields Try.underlying24 Try.underlying23 (by kernel_rfl) (by kernel_rfl) hfu
    rcases hsl with ⟨hcs, -⟩ | ⟨ad, ln, cp, m, D, Pl, hcs, -, hlc, hcm, hm, hx, hf⟩
    · have hv : v5 = Value.slice none 0 0 := by
        obtain ⟨pp, len, cap, rfl⟩ := okWide_slice Try.underlying24 (hval 5 24 v5 rfl rfl)
        simpa [Value.cells] using hcs
      subst hv
      exact sound_any a0 ⟨n1, l1, g1⟩ ⟨n2, l2, g2⟩ a3 a4 none 0 0 0 0 (fun _ => noSpan) (fits_of w0) (fits_of w3) (fits_of w4) (by omega) W (fun h => absurd h (by omega)) (fun k h => absurd h (by omega))
    · have hv : v5 = Value.slice (some ad) ln cp := by
        obtain ⟨pp, len, cap, rfl⟩ := okWide_slice Try.underlying24 (hval 5 24 v5 rfl rfl)
        simpa [Value.cells] using hcs
      subst hv
      simp only [if_true] at hm
      obtain ⟨B, O, S⟩ := ad
      have hS : 0 < ln → S = none := fun h0 => by
        obtain ⟨ys, nn, -, -, -, hj⟩ := hf 0 (by omega)
        obtain ⟨v0, y0, c0, -, t0⟩ := hj 0 _ rfl
        rw [show (⟨B, O, S⟩ : Addr).add (0 * _ + 0) = ⟨B, O, S⟩ from by simp [Addr.add]] at c0
        exact spot_none c0
      have hat : ∀ i, i < ln → ∃ (x : Bool) (l g : Int), W.cell? ⟨B, O + i * 3, none⟩ = some (.bool x) ∧ W.cell? ⟨B, O + i * 3 + 1, none⟩ = some (.int .i64 l) ∧ W.cell? ⟨B, O + i * 3 + 2, none⟩ = some (.int .i64 g) := fun i hi => by
        obtain ⟨ys, nn, -, -, -, hj⟩ := hf i (by omega)
        obtain ⟨v0, y0, c0, -, t0⟩ := hj 0 _ rfl
        obtain ⟨v1, y1, c1, -, t1⟩ := hj 1 _ rfl
        obtain ⟨v2, y2, c2, -, t2⟩ := hj 2 _ rfl
        obtain ⟨x, e0, -⟩ := DataW.trod_bool Try.underlying4 t0
        obtain ⟨l, e1, -, -⟩ := DataW.trod_int Try.underlying3 t1
        obtain ⟨g, e2, -, -⟩ := DataW.trod_int Try.underlying3 t2
        obtain rfl : v0 = .bool x := by simpa using e0
        obtain rfl : v1 = .int .i64 l := by simpa using e1
        obtain rfl : v2 = .int .i64 g := by simpa using e2
        rw [hS (by omega), add_addr] at c0 c1 c2
        exact ⟨x, l, g, c0, c1, c2⟩
      obtain ⟨sp, hsp⟩ := spans_at hat
      exact sound_any a0 ⟨n1, l1, g1⟩ ⟨n2, l2, g2⟩ a3 a4 (some ⟨B, O, S⟩) B O ln cp sp (fits_of w0) (fits_of w3) (fits_of w4) (by unfold maxLen at hcm; omega) W (fun h => ⟨cell_lt (hsp 0 h).1, by rw [hS h]⟩) hsp
  refine key.mono fun e W' ⟨he, hb⟩ => ?_
  subst he
  have hargs : ∀ sp : Nat → Bool, (∀ x ∈ p, sp x.block = true) → DataW.TrodAll enc Try.prog W' 0 sp true Try.f3.params.toList [v0, v1, v2, v3, v4, v5] [d0, d1, d2, d3, d4, d5] p := fun sp hsp =>
    trodAll_stays laid _ _ _ _ (by kernel_rfl) hAll (fun x hx => hb.same (hlt x (List.mem_append_left _ hx))) hsp
  exact ⟨_, rfl, post_of_below (pa := p) (pv := []) hW' (fun _ _ _ => (trodAll_cons_mk (shut_bool Try.underlying4 _) trodAll_mk0)) (fun sp hsp => hargs sp (fun x hx => hsp x (List.mem_append_left _ hx))) (fun _ _ => rfl) rfl hb
    (ok_one (by kernel_rfl) rfl (okWide_bool_mk Try.underlying4 _))⟩

theorem over : Rows.spanSoundRow.holds Try.pinned (OpenSpec.ofChange Rows.spanSoundSpec) :=
  OpenClaim.holds_of_wide 3 Try.f3 rfl rfl rfl rfl rfl rfl rfl ⟨rfl, rfl, rfl, rfl, rfl⟩ rfl rfl rfl rfl rfl (by kernel_rfl) Try.func3 (by kernel_rfl)
    (of_decide_eq_true (by kernel_rfl)) (by unfold Func.isWrapper; first | (rw [if_pos (by decide +kernel)]; kernel_rfl) | (rw [if_neg (by decide +kernel)]; exact ⟨rfl, rfl⟩))
    (fun os started H enc _ => lifted os started H enc)

theorem proved : Rows.SpanSoundSaid := over
end Go.Proofs.Ytodamdjnbnkmdaa.spanSound
