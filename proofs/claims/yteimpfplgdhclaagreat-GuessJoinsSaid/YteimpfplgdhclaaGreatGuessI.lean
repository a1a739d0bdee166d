/- The walk over guess.Both: two guesses together, their spans by a function that is handed in. Conditions: the sites lie in memory that was there. -/
import Derived.Test.YteimpfplgdhclaaGreatSeqW
import Derived.Test.YteimpfplgdhclaaGreatOwnI
import Derived.Test.YteimpfplgdhclaaGreatGuessC
set_option linter.unusedSimpArgs false
set_option linter.unusedVariables false
namespace Go.Proofs.YteimpfplgdhclaaGreat
open Go.RowKit

def SlR (B : Nat) (l : List Int) : Value → World → Prop := fun v w => ∃ (r : Sl) (R : List LBlk), v = r.v ∧ RowS 3 1 r.p r.n r.cap (l.map (Value.int .i64)) R ∧ Own B w R
theorem SlR.stable {B : Nat} {l : List Int} : ∀ v w w', Below w.heap.size w w' → SlR B l v w → SlR B l v w' := fun _ _ _ hb ⟨r, R, h1, h2, h3⟩ => ⟨r, R, h1, h2, h3.grow hb⟩
def GuR (B : Nat) (a : Bool) (s : Span) (b c : Bool) (l : List Int) : Value → World → Prop := fun v w => ∃ (r : Sl) (R : List LBlk), v = Gu.v ⟨a, s, b, c, r⟩ ∧ RowS 3 1 r.p r.n r.cap (l.map (Value.int .i64)) R ∧ Own B w R
theorem GuR.stable {B : Nat} {a : Bool} {s : Span} {b c : Bool} {l : List Int} : ∀ v w w', Below w.heap.size w w' → GuR B a s b c l v w → GuR B a s b c l v w' := fun _ _ _ hb ⟨r, R, h1, h2, h3⟩ => ⟨r, R, h1, h2, h3.grow hb⟩

set_option maxRecDepth 100000 in
set_option maxHeartbeats 4000000 in
theorem gboth_any (K : FuncId) (f : Span → Span → Span) (he : ∀ args w, (callFunc K args).run Tryz.prog w = .ok (.enter K args) w)
    (hf : ∀ (s t : Span) (w : World), Calls Tryz.prog K #[s.v, t.v] w fun e w' => e = .returned (f s t).v ∧ Below w.heap.size w w')
    (g h : Gu) (l m : List Int) (w : World) (hl : IntsAt w g.s l) (hm : IntsAt w h.s m) (hlen : (l.length + m.length) * 8 ≤ 140737488351232) :
    Calls Tryz.prog 34 #[g.v, h.v, .func (.func K) #[] #[]] w fun e w' => ∃ r : Sl, e = .returned (Gu.v ⟨g.null || h.null, f g.span h.span, g.tr || h.tr, g.fa || h.fa, r⟩) ∧ OwnI w.heap.size w' r (mixS l m) ∧ Below w.heap.size w w' := by
  have HS := Lib.hid (fun w' (hb : Below w.heap.size w w') => gsites_any g.s h.s l m w' (hl.grow hb) (hm.grow hb) hlen)
  have HK := Lib.hid (fun w' => hf g.span h.span w')
  clear hl hm hlen hf
  obtain ⟨gl, ⟨gn, glo, ghi⟩, gt, gf, ⟨gp, gk, gc⟩⟩ := g
  obtain ⟨hl', ⟨hn, hlo, hhi⟩, ht, hf, ⟨hp, hk, hc⟩⟩ := h
  dsimp only at HS HK
  generalize hfs : f ⟨gn, glo, ghi⟩ ⟨hn, hlo, hhi⟩ = fs at HK ⊢
  obtain ⟨fn, flo, fhi⟩ := fs
  clear hfs
  generalize mixS l m = ml at HS ⊢
  have hL := Loc.start w
  go_enter Tryz.func34, Tryz.ntmps34
  go_step
  go_step
  go_step
  ((with_reducible refine lbx hL ?_); clear hL; intro b3 w1 hL)
  ((with_reducible refine lbx hL ?_); clear hL; intro b4 w1 hL)
  ((with_reducible refine lal hL ?_); clear hL; intro b6 w1 hL)
  go_upto_region 1 with (first | (with_reducible refine lld hL ?_) | ((with_reducible first | refine lbx hL ?_ | refine lal hL ?_ | refine lbs hL ?_); clear hL; intro bl w1 hL) | ((with_reducible refine lst' hL ?_); clear hL; intro w1 hL))
  simp only [Act.put, List.setIfInBounds_toArray, List.set_cons_zero, List.set_cons_succ]
  refine draw_begin [7, 8, 9, 10, 11, 12, 13, 14, 15, 16, 17, 18, 19, 20, 21, 22, 23, 24, 25, 26, 27, 28, 29, 30, 31, 32, 33, 34, 35, 36] ?_
  apply draw_val
  · intro g w hb hdep; replace hL := hL.grow hb; clear hdep; simp only [fillD, fLa, fLb, sTa, sTb]
    go_wp2
    exact cY
  simp only [apN, apC]
  apply draw_val
  · intro g w hb hdep; replace hL := hL.grow hb; have d0 := yv hdep 0; clear hdep; simp only [fillD, fLa, fLb, sTa, sTb]; simp only [d0]
    go_wp2_with (first | (with_reducible refine lld hL ?_) | (with_reducible refine ldD hL ?_))
    exact cY
  simp only [apN, apC]
  apply draw_val
  · intro g w hb hdep; replace hL := hL.grow hb; have d1 := yv hdep 1; clear hdep; simp only [fillD, fLa, fLb, sTa, sTb]; simp only [d1]
    go_wp2
    exact cY
  simp only [apN, apC]
  refine' draw_guard (j := 2) rfl rfl rfl (by decide) (by simp) ?_ ?_; rotate_left
  · intro hcs; simp only [Bool.and_eq_true, beqT, beqF] at hcs; intro g w hb hdep; replace hL := hL.grow hb; clear hdep; simp only [fillD, fLa, fLb, sTa, sTb]
    go_wp2
    exact cY
  simp only [apN, apC]
  refine' draw_guard (j := 2) rfl rfl rfl (by decide) (by simp) ?_ ?_; rotate_left
  · intro hcs; simp only [Bool.and_eq_true, beqT, beqF] at hcs; intro g w hb hdep; replace hL := hL.grow hb; have d3 := yv hdep 3; simp only [hcs, beq_self_eq_true, Bool.and_self, Bool.true_and, Bool.and_true, cnd_true] at d3; clear hdep; simp only [fillD, fLa, fLb, sTa, sTb]; simp only [d3]
    go_wp2_with (first | (with_reducible refine lld hL ?_) | (with_reducible refine ldD hL ?_))
    exact cY
  simp only [apN, apC]
  apply draw_val
  · intro g w hb hdep; replace hL := hL.grow hb; have d2 := yv hdep 2; have d4 := yv hdep 4; clear hdep; simp only [fillD, fLa, fLb, sTa, sTb]; simp only [d2, d4]
    first | refine wp_pick_or rfl rfl ?_ | go_wp2
    exact cY
  simp only [apN, apC]
  apply draw_val
  · intro g w hb hdep; replace hL := hL.grow hb; clear hdep; simp only [fillD, fLa, fLb, sTa, sTb]
    go_wp2
    exact cY
  simp only [apN, apC]
  apply draw_val
  · intro g w hb hdep; replace hL := hL.grow hb; clear hdep; simp only [fillD, fLa, fLb, sTa, sTb]
    go_wp2
    exact cY
  simp only [apN, apC]
  apply draw_val
  · intro g w hb hdep; replace hL := hL.grow hb; have d7 := yv hdep 7; clear hdep; simp only [fillD, fLa, fLb, sTa, sTb]; simp only [d7]
    go_wp2_with (first | (with_reducible refine lld hL ?_) | (with_reducible refine ldD hL ?_))
    exact cY
  simp only [apN, apC]
  apply draw_val
  · intro g w hb hdep; replace hL := hL.grow hb; clear hdep; simp only [fillD, fLa, fLb, sTa, sTb]
    go_wp2
    exact cY
  simp only [apN, apC]
  apply draw_val
  · intro g w hb hdep; replace hL := hL.grow hb; have d9 := yv hdep 9; clear hdep; simp only [fillD, fLa, fLb, sTa, sTb]; simp only [d9]
    go_wp2_with (first | (with_reducible refine lld hL ?_) | (with_reducible refine ldD hL ?_))
    exact cY
  simp only [apN, apC]
  apply draw_val
  · intro g w hb hdep; replace hL := hL.grow hb; have d6 := yv hdep 6; have d8 := yv hdep 8; have d10 := yv hdep 10; clear hdep; simp only [fillD, fLa, fLb, sTa, sTb]; simp only [d6, d8, d10]
    go_wp2_with ((with_reducible refine (HK.out _).mono ?_); rintro e w3 ⟨rfl, hb3⟩; dsimp only)
    exact ⟨rfl, _, rfl, hb3, rfl⟩
  simp only [apN, apC]
  apply draw_val
  · intro g w hb hdep; replace hL := hL.grow hb; clear hdep; simp only [fillD, fLa, fLb, sTa, sTb]
    go_wp2
    exact cY
  simp only [apN, apC]
  apply draw_val
  · intro g w hb hdep; replace hL := hL.grow hb; have d12 := yv hdep 12; clear hdep; simp only [fillD, fLa, fLb, sTa, sTb]; simp only [d12]
    go_wp2_with (first | (with_reducible refine lld hL ?_) | (with_reducible refine ldD hL ?_))
    exact cY
  simp only [apN, apC]
  apply draw_val
  · intro g w hb hdep; replace hL := hL.grow hb; have d13 := yv hdep 13; clear hdep; simp only [fillD, fLa, fLb, sTa, sTb]; simp only [d13]
    go_wp2
    exact cY
  simp only [apN, apC]
  refine' draw_guard (j := 14) rfl rfl rfl (by decide) (by simp) ?_ ?_; rotate_left
  · intro hcs; simp only [Bool.and_eq_true, beqT, beqF] at hcs; intro g w hb hdep; replace hL := hL.grow hb; clear hdep; simp only [fillD, fLa, fLb, sTa, sTb]
    go_wp2
    exact cY
  simp only [apN, apC]
  refine' draw_guard (j := 14) rfl rfl rfl (by decide) (by simp) ?_ ?_; rotate_left
  · intro hcs; simp only [Bool.and_eq_true, beqT, beqF] at hcs; intro g w hb hdep; replace hL := hL.grow hb; have d15 := yv hdep 15; simp only [hcs, beq_self_eq_true, Bool.and_self, Bool.true_and, Bool.and_true, cnd_true] at d15; clear hdep; simp only [fillD, fLa, fLb, sTa, sTb]; simp only [d15]
    go_wp2_with (first | (with_reducible refine lld hL ?_) | (with_reducible refine ldD hL ?_))
    exact cY
  simp only [apN, apC]
  apply draw_val
  · intro g w hb hdep; replace hL := hL.grow hb; have d14 := yv hdep 14; have d16 := yv hdep 16; clear hdep; simp only [fillD, fLa, fLb, sTa, sTb]; simp only [d14, d16]
    first | refine wp_pick_or rfl rfl ?_ | go_wp2
    exact cY
  simp only [apN, apC]
  apply draw_val
  · intro g w hb hdep; replace hL := hL.grow hb; clear hdep; simp only [fillD, fLa, fLb, sTa, sTb]
    go_wp2
    exact cY
  simp only [apN, apC]
  apply draw_val
  · intro g w hb hdep; replace hL := hL.grow hb; have d18 := yv hdep 18; clear hdep; simp only [fillD, fLa, fLb, sTa, sTb]; simp only [d18]
    go_wp2_with (first | (with_reducible refine lld hL ?_) | (with_reducible refine ldD hL ?_))
    exact cY
  simp only [apN, apC]
  apply draw_val
  · intro g w hb hdep; replace hL := hL.grow hb; have d19 := yv hdep 19; clear hdep; simp only [fillD, fLa, fLb, sTa, sTb]; simp only [d19]
    go_wp2
    exact cY
  simp only [apN, apC]
  refine' draw_guard (j := 20) rfl rfl rfl (by decide) (by simp) ?_ ?_; rotate_left
  · intro hcs; simp only [Bool.and_eq_true, beqT, beqF] at hcs; intro g w hb hdep; replace hL := hL.grow hb; clear hdep; simp only [fillD, fLa, fLb, sTa, sTb]
    go_wp2
    exact cY
  simp only [apN, apC]
  refine' draw_guard (j := 20) rfl rfl rfl (by decide) (by simp) ?_ ?_; rotate_left
  · intro hcs; simp only [Bool.and_eq_true, beqT, beqF] at hcs; intro g w hb hdep; replace hL := hL.grow hb; have d21 := yv hdep 21; simp only [hcs, beq_self_eq_true, Bool.and_self, Bool.true_and, Bool.and_true, cnd_true] at d21; clear hdep; simp only [fillD, fLa, fLb, sTa, sTb]; simp only [d21]
    go_wp2_with (first | (with_reducible refine lld hL ?_) | (with_reducible refine ldD hL ?_))
    exact cY
  simp only [apN, apC]
  apply draw_val
  · intro g w hb hdep; replace hL := hL.grow hb; have d20 := yv hdep 20; have d22 := yv hdep 22; clear hdep; simp only [fillD, fLa, fLb, sTa, sTb]; simp only [d20, d22]
    first | refine wp_pick_or rfl rfl ?_ | go_wp2
    exact cY
  simp only [apN, apC]
  apply draw_val
  · intro g w hb hdep; replace hL := hL.grow hb; clear hdep; simp only [fillD, fLa, fLb, sTa, sTb]
    go_wp2
    exact cY
  simp only [apN, apC]
  apply draw_val
  · intro g w hb hdep; replace hL := hL.grow hb; have d24 := yv hdep 24; clear hdep; simp only [fillD, fLa, fLb, sTa, sTb]; simp only [d24]
    go_wp2_with (first | (with_reducible refine lld hL ?_) | (with_reducible refine ldD hL ?_))
    exact cY
  simp only [apN, apC]
  apply draw_val
  · intro g w hb hdep; replace hL := hL.grow hb; clear hdep; simp only [fillD, fLa, fLb, sTa, sTb]
    go_wp2
    exact cY
  simp only [apN, apC]
  apply draw_val
  · intro g w hb hdep; replace hL := hL.grow hb; have d26 := yv hdep 26; clear hdep; simp only [fillD, fLa, fLb, sTa, sTb]; simp only [d26]
    go_wp2_with (first | (with_reducible refine lld hL ?_) | (with_reducible refine ldD hL ?_))
    exact cY
  simp only [apN, apC]
  refine draw_next (SlR w1.heap.size ml) SlR.stable ?_ ?_
  · intro g w hb hdep; replace hL := hL.grow hb; have d25 := yv hdep 25; have d27 := yv hdep 27; clear hdep; simp only [fillD, fLa, fLb, sTa, sTb]; simp only [d25, d27]
    go_wp2_with (go_at_call 58; (with_reducible refine (HS.out _ hL.below).mono ?_); rintro e w3 ⟨r, R, rfl, hr, ho, hb3⟩; dsimp only)
    exact ⟨rfl, _, rfl, hb3, r, R, rfl, hr, ho.mono hb.size⟩
  simp only [apN, apC]
  refine draw_next (GuR w1.heap.size (or gl hl') ⟨fn, flo, fhi⟩ (or gt ht) (or gf hf) ml) GuR.stable ?_ ?_
  · intro g w hb hdep; replace hL := hL.grow hb; have d5 := yv hdep 5; have d11 := yv hdep 11; have d17 := yv hdep 17; have d23 := yv hdep 23; have d28 : (SlR w1.heap.size ml) (g 35) w := yr hdep 28; obtain ⟨⟨x28, y28, z28⟩, R28, d28, i28, o28⟩ := d28; clear hdep; simp only [fillD, fLa, fLb, sTa, sTb]; simp only [d5, d11, d17, d23, d28]
    go_wp2_with (fail)
    exact ⟨rfl, _, rfl, Below.refl _ _, ⟨x28, y28, z28⟩, R28, rfl, i28, o28⟩
  simp only [apN, apC]
  refine draw_end hL (by kernel_rfl) (by kernel_rfl) ?_
  intro g w2 hb hR; simp only [List.length_cons, List.length_nil, Nat.reduceAdd] at hR
  have e0 := yv hR 0
  have e1 := yv hR 1
  have e2 := yv hR 2
  have e3 := yv hR 3
  have e4 := yv hR 4
  have e5 := yv hR 5
  have e6 := yv hR 6
  have e7 := yv hR 7
  have e8 := yv hR 8
  have e9 := yv hR 9
  have e10 := yv hR 10
  have e11 := yv hR 11
  have e12 := yv hR 12
  have e13 := yv hR 13
  have e14 := yv hR 14
  have e15 := yv hR 15
  have e16 := yv hR 16
  have e17 := yv hR 17
  have e18 := yv hR 18
  have e19 := yv hR 19
  have e20 := yv hR 20
  have e21 := yv hR 21
  have e22 := yv hR 22
  have e23 := yv hR 23
  have e24 := yv hR 24
  have e25 := yv hR 25
  have e26 := yv hR 26
  have e27 := yv hR 27
  have e28 : (SlR w1.heap.size ml) (g 35) w2 := yr hR 28
  obtain ⟨⟨x28, y28, z28⟩, R28, e28, i28, o28⟩ := e28
  have e29 : (GuR w1.heap.size (or gl hl') ⟨fn, flo, fhi⟩ (or gt ht) (or gf hf) ml) (g 36) w2 := yr hR 29
  obtain ⟨⟨x29, y29, z29⟩, R29, e29, i29, o29⟩ := e29
  clear hR; simp only [fillD, fLa, fLb, sTa, sTb]
  simp only [e0, e1, e2, e3, e4, e5, e6, e7, e8, e9, e10, e11, e12, e13, e14, e15, e16, e17, e18, e19, e20, e21, e22, e23, e24, e25, e26, e27, e28, e29]
  clear e0 e1 e2 e3 e4 e5 e6 e7 e8 e9 e10 e11 e12 e13 e14 e15 e16 e17 e18 e19 e20 e21 e22 e23 e24 e25 e26 e27 e28 e29
  replace hL := hL.gainTail hb o29
  simp only [List.cons_append, List.nil_append] at hL
  clear hb
  clear i28 o28 o29
  go_wp2_with (first | (with_reducible refine lld hL ?_) | ((with_reducible first | refine lbx hL ?_ | refine lal hL ?_ | refine lbs hL ?_); clear hL; intro bl w1 hL) | ((with_reducible refine lst' hL ?_); clear hL; intro w1 hL))
  (try simp only [Exit.inBlock, Exit.then]); refine' ret1 rfl ?_ rfl ?_; (case refine'_2 => exact cRes)
  exact ⟨⟨x29, y29, z29⟩, rfl, ⟨R29, i29, hL.ownOf (List.sublist_append_right [_, _, _] _)⟩, hL.below⟩
end Go.Proofs.YteimpfplgdhclaaGreat
