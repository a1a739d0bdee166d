/- The walk over the reference's SameRun. Conditions: what it reads lies in memory that was there. -/
import Derived.Test.YtkdbehgekeidoaaDoorRefRun
set_option linter.unusedSimpArgs false
set_option linter.unusedVariables false
namespace Go.Proofs.YtkdbehgekeidoaaDoor
open Go.RowKit

theorem ListC.cell {P : Program} {T : TypeId} {w : World} {es : Nat} {p : Option Addr} {n : Nat} {cells : Nat → List Value} (hT : CellT P T) (h : ListC w es p n cells) :
    ∃ b o : Nat, (0 < n → p = some ⟨b, o, none⟩) ∧ ∀ k, k < n → ∀ j v, (cells k)[j]? = some v → ReadsAt P T w b (o + k * es + j) v := by
  obtain ⟨b, o, h1, h2⟩ := h.ex
  exact ⟨b, o, h1, fun k hk j v hj => ReadsAt.cell hT (h2 k hk).1 ((h2 k hk).2 j v hj)⟩
/-- What a run's slices hold. -/
structure RunAt (w : World) (r : Rn) (vs : Nat → Vl) (ths : Nat → Th) (fv : Nat → Nat → Vl) (ls : Nat → ByteArray) : Prop where
  vars : ListC w 2 r.vars.p r.vars.n (fun k => (vs k).cells)
  things : ListC w 2 r.things.p r.things.n (fun k => [.int .i64 (ths k).site, .slice (ths k).fs.p (ths k).fs.n (ths k).fs.cap])
  fields : ∀ k, k < r.things.n → (ths k).fs.n ≤ 9223372036854775807 ∧ ListC w 2 (ths k).fs.p (ths k).fs.n (fun j => (fv k j).cells)
  lines : ListC w 1 r.lines.p r.lines.n (fun k => [.string (ls k)])
  n1 : r.vars.n ≤ 9223372036854775807
  n2 : r.things.n ≤ 9223372036854775807
  n3 : r.lines.n ≤ 9223372036854775807
theorem RunAt.grow {w w' : World} {r : Rn} {vs : Nat → Vl} {ths : Nat → Th} {fv : Nat → Nat → Vl} {ls : Nat → ByteArray} (h : RunAt w r vs ths fv ls) (hb : Below w.heap.size w w') : RunAt w' r vs ths fv ls :=
  ⟨h.vars.grow hb, h.things.grow hb, fun k hk => ⟨(h.fields k hk).1, (h.fields k hk).2.grow hb⟩, h.lines.grow hb, h.n1, h.n2, h.n3⟩
theorem RunAt.l {w : World} {r : Rn} {vs : Nat → Vl} {ths : Nat → Th} {fv : Nat → Nat → Vl} {ls : Nat → ByteArray} (h : RunAt w r vs ths fv ls) : RunL w r vs ths fv :=
  ⟨h.vars.agg tValue (fun _ => rfl), h.things.agg tThing (fun _ => rfl), fun k hk => ⟨(h.fields k hk).1, (h.fields k hk).2.agg tValue (fun _ => rfl)⟩, h.n1, h.n2⟩

def headDiff (a b : Rn) (va vb : Nat → Vl) : Bool := a.at' != b.at' || a.taken != b.taken || a.ending != b.ending || !sameVals a.vars.n b.vars.n va vb || (a.things.n : Int) != (b.things.n : Int) || (a.lines.n : Int) != (b.lines.n : Int)
def thingDiff (ta tb : Nat → Th) (fa fb : Nat → Nat → Vl) (k : Nat) : Bool := (ta k).site != (tb k).site || !sameVals (ta k).fs.n (tb k).fs.n (fa k) (fb k)
def lineDiff (la lb : Nat → ByteArray) (k : Nat) : Bool := !((la k).toList == (lb k).toList)
def sameRun (a b : Rn) (va vb : Nat → Vl) (ta tb : Nat → Th) (fa fb : Nat → Nat → Vl) (la lb : Nat → ByteArray) : Bool :=
  if headDiff a b va vb then false else if anyN (thingDiff ta tb fa fb) a.things.n then false else !anyN (lineDiff la lb) a.lines.n

set_option maxRecDepth 100000 in
set_option maxHeartbeats 8000000 in
theorem sameRun_any (a b : Rn) (va vb : Nat → Vl) (ta tb : Nat → Th) (fa fb : Nat → Nat → Vl) (la lb : Nat → ByteArray) (w : World) (ha : RunAt w a va ta fa la) (hb : RunAt w b vb tb fb lb) :
    Calls Tryd.prog 33 #[a.v, b.v] w fun e w' => e = .returned (.bool (sameRun a b va vb ta tb fa fb la lb)) ∧ Below w.heap.size w w' := by
  have n1 := ha.n1
  have n2 := ha.n2
  have n3 := ha.n3
  have HA := Lib.hid ha
  have HB := Lib.hid hb
  have HV := Lib.hid (fun w' (hw : Below w.heap.size w w') => sameValues_any a.vars.p b.vars.p a.vars.n b.vars.n a.vars.cap b.vars.cap va vb w' ha.n1 hb.n1 (ha.l.vars.grow hw) (hb.l.vars.grow hw))
  have HS := Lib.hid (show sameRun a b va vb ta tb fa fb la lb = if headDiff a b va vb then false else if anyN (thingDiff ta tb fa fb) a.things.n then false else !anyN (lineDiff la lb) a.lines.n from rfl)
  obtain ⟨ba, oa, hpa, hca⟩ := ha.things.ex
  obtain ⟨bb, ob, hpb, hcb⟩ := hb.things.ex
  obtain ⟨bc, oc, hpc, hcc⟩ := ha.lines.ex
  obtain ⟨bd, od, hpd, hcd⟩ := hb.lines.ex
  have HPA := Lib.hid hpa
  have HPB := Lib.hid hpb
  have HPC := Lib.hid hpc
  have HPD := Lib.hid hpd
  have HCA := Lib.hid hca
  have HCB := Lib.hid hcb
  have HCC := Lib.hid hcc
  have HCD := Lib.hid hcd
  clear hpa hpb hpc hpd hca hcb hcc hcd
  clear ha hb
  have hL := Loc.start w
  go_enter Tryd.func33, Tryd.ntmps33
  go_step
  go_step
  go_step
  ((with_reducible refine lbx hL ?_); clear hL; intro b2 w1 hL)
  ((with_reducible refine lbx hL ?_); clear hL; intro b3 w1 hL)
  go_upto_region 1 with (first | (with_reducible refine lld hL ?_) | ((with_reducible first | refine lbx hL ?_ | refine lal hL ?_ | refine lbs hL ?_); clear hL; intro bl w1 hL) | ((with_reducible refine lst' hL ?_); clear hL; intro w1 hL))
  refine seq_begin [7, 8, 9, 10, 11, 12, 13, 14, 15, 16, 17, 18, 19, 20, 21, 22, 23, 24, 25, 26, 27, 28, 29, 30, 31, 32, 33, 34, 35, 36, 37, 38, 39, 40, 41, 42, 43, 44, 45, 46, 47, 48, 49, 50, 51] ?_
  apply draw_val
  · intro g w hb hdep; replace hL := hL.grow hb; clear hdep; simp only [fillD, fLa, fLb, sTa, sTb]
    go_wp2
    exact cY
  simp only [apN, apC]
  apply draw_val
  · intro g w hb hdep; replace hL := hL.grow hb; have d0 := yv hdep 0; clear hdep; simp only [fillD, fLa, fLb, sTa, sTb]; simp only [d0]
    go_wp2_with (first | (with_reducible refine lld hL ?_) | (with_reducible refine ldD hL ?_))
    exact cY
  simp only [apN, apC]
  apply draw_val
  · intro g w hb hdep; replace hL := hL.grow hb; clear hdep; simp only [fillD, fLa, fLb, sTa, sTb]
    go_wp2
    exact cY
  simp only [apN, apC]
  apply draw_val
  · intro g w hb hdep; replace hL := hL.grow hb; have d2 := yv hdep 2; clear hdep; simp only [fillD, fLa, fLb, sTa, sTb]; simp only [d2]
    go_wp2_with (first | (with_reducible refine lld hL ?_) | (with_reducible refine ldD hL ?_))
    exact cY
  simp only [apN, apC]
  apply draw_val
  · intro g w hb hdep; replace hL := hL.grow hb; have d1 := yv hdep 1; have d3 := yv hdep 3; clear hdep; simp only [fillD, fLa, fLb, sTa, sTb]; simp only [d1, d3]
    go_wp2
    exact cY
  simp only [apN, apC]
  apply draw_val
  · intro g w hb hdep; replace hL := hL.grow hb; have d4 := yv hdep 4; clear hdep; simp only [fillD, fLa, fLb, sTa, sTb]; simp only [d4]
    go_wp2
    exact cY
  simp only [apN, apC]
  refine' draw_guard (j := 5) rfl rfl rfl (by decide) (by simp) ?_ ?_; rotate_left
  · intro hcs; simp only [Bool.and_eq_true, beqT, beqF] at hcs; intro g w hb hdep; replace hL := hL.grow hb; clear hdep; simp only [fillD, fLa, fLb, sTa, sTb]
    go_wp2
    exact cY
  simp only [apN, apC]
  refine' draw_guard (j := 5) rfl rfl rfl (by decide) (by simp) ?_ ?_; rotate_left
  · intro hcs; simp only [Bool.and_eq_true, beqT, beqF] at hcs; intro g w hb hdep; replace hL := hL.grow hb; have d6 := yv hdep 6; simp only [hcs, beq_self_eq_true, Bool.and_self, Bool.true_and, Bool.and_true, cnd_true] at d6; clear hdep; simp only [fillD, fLa, fLb, sTa, sTb]; simp only [d6]
    go_wp2_with (first | (with_reducible refine lld hL ?_) | (with_reducible refine ldD hL ?_))
    exact cY
  simp only [apN, apC]
  refine' draw_guard (j := 5) rfl rfl rfl (by decide) (by simp) ?_ ?_; rotate_left
  · intro hcs; simp only [Bool.and_eq_true, beqT, beqF] at hcs; intro g w hb hdep; replace hL := hL.grow hb; clear hdep; simp only [fillD, fLa, fLb, sTa, sTb]
    go_wp2
    exact cY
  simp only [apN, apC]
  refine' draw_guard (j := 5) rfl rfl rfl (by decide) (by simp) ?_ ?_; rotate_left
  · intro hcs; simp only [Bool.and_eq_true, beqT, beqF] at hcs; intro g w hb hdep; replace hL := hL.grow hb; have d8 := yv hdep 8; simp only [hcs, beq_self_eq_true, Bool.and_self, Bool.true_and, Bool.and_true, cnd_true] at d8; clear hdep; simp only [fillD, fLa, fLb, sTa, sTb]; simp only [d8]
    go_wp2_with (first | (with_reducible refine lld hL ?_) | (with_reducible refine ldD hL ?_))
    exact cY
  simp only [apN, apC]
  refine' draw_guard (j := 5) rfl rfl rfl (by decide) (by simp) ?_ ?_; rotate_left
  · intro hcs; simp only [Bool.and_eq_true, beqT, beqF] at hcs; intro g w hb hdep; replace hL := hL.grow hb; have d7 := yv hdep 7; simp only [hcs, beq_self_eq_true, Bool.and_self, Bool.true_and, Bool.and_true, cnd_true] at d7; have d9 := yv hdep 9; simp only [hcs, beq_self_eq_true, Bool.and_self, Bool.true_and, Bool.and_true, cnd_true] at d9; clear hdep; simp only [fillD, fLa, fLb, sTa, sTb]; simp only [d7, d9]
    go_wp2
    exact cY
  simp only [apN, apC]
  apply draw_val
  · intro g w hb hdep; replace hL := hL.grow hb; have d5 := yv hdep 5; have d10 := yv hdep 10; clear hdep; simp only [fillD, fLa, fLb, sTa, sTb]; simp only [d5, d10]
    first | refine wp_pick_or rfl rfl ?_ | go_wp2
    exact cY
  simp only [apN, apC]
  apply draw_val
  · intro g w hb hdep; replace hL := hL.grow hb; have d11 := yv hdep 11; clear hdep; simp only [fillD, fLa, fLb, sTa, sTb]; simp only [d11]
    go_wp2
    exact cY
  simp only [apN, apC]
  refine' draw_guard (j := 12) rfl rfl rfl (by decide) (by simp) ?_ ?_; rotate_left
  · intro hcs; simp only [Bool.and_eq_true, beqT, beqF] at hcs; intro g w hb hdep; replace hL := hL.grow hb; clear hdep; simp only [fillD, fLa, fLb, sTa, sTb]
    go_wp2
    exact cY
  simp only [apN, apC]
  refine' draw_guard (j := 12) rfl rfl rfl (by decide) (by simp) ?_ ?_; rotate_left
  · intro hcs; simp only [Bool.and_eq_true, beqT, beqF] at hcs; intro g w hb hdep; replace hL := hL.grow hb; have d13 := yv hdep 13; simp only [hcs, beq_self_eq_true, Bool.and_self, Bool.true_and, Bool.and_true, cnd_true] at d13; clear hdep; simp only [fillD, fLa, fLb, sTa, sTb]; simp only [d13]
    go_wp2_with (first | (with_reducible refine lld hL ?_) | (with_reducible refine ldD hL ?_))
    exact cY
  simp only [apN, apC]
  refine' draw_guard (j := 12) rfl rfl rfl (by decide) (by simp) ?_ ?_; rotate_left
  · intro hcs; simp only [Bool.and_eq_true, beqT, beqF] at hcs; intro g w hb hdep; replace hL := hL.grow hb; clear hdep; simp only [fillD, fLa, fLb, sTa, sTb]
    go_wp2
    exact cY
  simp only [apN, apC]
  refine' draw_guard (j := 12) rfl rfl rfl (by decide) (by simp) ?_ ?_; rotate_left
  · intro hcs; simp only [Bool.and_eq_true, beqT, beqF] at hcs; intro g w hb hdep; replace hL := hL.grow hb; have d15 := yv hdep 15; simp only [hcs, beq_self_eq_true, Bool.and_self, Bool.true_and, Bool.and_true, cnd_true] at d15; clear hdep; simp only [fillD, fLa, fLb, sTa, sTb]; simp only [d15]
    go_wp2_with (first | (with_reducible refine lld hL ?_) | (with_reducible refine ldD hL ?_))
    exact cY
  simp only [apN, apC]
  refine' draw_guard (j := 12) rfl rfl rfl (by decide) (by simp) ?_ ?_; rotate_left
  · intro hcs; simp only [Bool.and_eq_true, beqT, beqF] at hcs; intro g w hb hdep; replace hL := hL.grow hb; have d14 := yv hdep 14; simp only [hcs, beq_self_eq_true, Bool.and_self, Bool.true_and, Bool.and_true, cnd_true] at d14; have d16 := yv hdep 16; simp only [hcs, beq_self_eq_true, Bool.and_self, Bool.true_and, Bool.and_true, cnd_true] at d16; clear hdep; simp only [fillD, fLa, fLb, sTa, sTb]; simp only [d14, d16]
    go_wp2
    exact cY
  simp only [apN, apC]
  apply draw_val
  · intro g w hb hdep; replace hL := hL.grow hb; have d12 := yv hdep 12; have d17 := yv hdep 17; clear hdep; simp only [fillD, fLa, fLb, sTa, sTb]; simp only [d12, d17]
    first | refine wp_pick_or rfl rfl ?_ | go_wp2
    exact cY
  simp only [apN, apC]
  apply draw_val
  · intro g w hb hdep; replace hL := hL.grow hb; have d18 := yv hdep 18; clear hdep; simp only [fillD, fLa, fLb, sTa, sTb]; simp only [d18]
    go_wp2
    exact cY
  simp only [apN, apC]
  refine' draw_guard (j := 19) rfl rfl rfl (by decide) (by simp) ?_ ?_; rotate_left
  · intro hcs; simp only [Bool.and_eq_true, beqT, beqF] at hcs; intro g w hb hdep; replace hL := hL.grow hb; clear hdep; simp only [fillD, fLa, fLb, sTa, sTb]
    go_wp2
    exact cY
  simp only [apN, apC]
  refine' draw_guard (j := 19) rfl rfl rfl (by decide) (by simp) ?_ ?_; rotate_left
  · intro hcs; simp only [Bool.and_eq_true, beqT, beqF] at hcs; intro g w hb hdep; replace hL := hL.grow hb; have d20 := yv hdep 20; simp only [hcs, beq_self_eq_true, Bool.and_self, Bool.true_and, Bool.and_true, cnd_true] at d20; clear hdep; simp only [fillD, fLa, fLb, sTa, sTb]; simp only [d20]
    go_wp2_with (first | (with_reducible refine lld hL ?_) | (with_reducible refine ldD hL ?_))
    exact cY
  simp only [apN, apC]
  refine' draw_guard (j := 19) rfl rfl rfl (by decide) (by simp) ?_ ?_; rotate_left
  · intro hcs; simp only [Bool.and_eq_true, beqT, beqF] at hcs; intro g w hb hdep; replace hL := hL.grow hb; clear hdep; simp only [fillD, fLa, fLb, sTa, sTb]
    go_wp2
    exact cY
  simp only [apN, apC]
  refine' draw_guard (j := 19) rfl rfl rfl (by decide) (by simp) ?_ ?_; rotate_left
  · intro hcs; simp only [Bool.and_eq_true, beqT, beqF] at hcs; intro g w hb hdep; replace hL := hL.grow hb; have d22 := yv hdep 22; simp only [hcs, beq_self_eq_true, Bool.and_self, Bool.true_and, Bool.and_true, cnd_true] at d22; clear hdep; simp only [fillD, fLa, fLb, sTa, sTb]; simp only [d22]
    go_wp2_with (first | (with_reducible refine lld hL ?_) | (with_reducible refine ldD hL ?_))
    exact cY
  simp only [apN, apC]
  refine' draw_guard (j := 19) rfl rfl rfl (by decide) (by simp) ?_ ?_; rotate_left
  · intro hcs; simp only [Bool.and_eq_true, beqT, beqF] at hcs; intro g w hb hdep; replace hL := hL.grow hb; have d21 := yv hdep 21; simp only [hcs, beq_self_eq_true, Bool.and_self, Bool.true_and, Bool.and_true, cnd_true] at d21; have d23 := yv hdep 23; simp only [hcs, beq_self_eq_true, Bool.and_self, Bool.true_and, Bool.and_true, cnd_true] at d23; clear hdep; simp only [fillD, fLa, fLb, sTa, sTb]; simp only [d21, d23]
    go_wp2_with (go_at_call 61; refine (HV.out _ hL.below).mono ?_; rintro e w3 ⟨rfl, hb3⟩; dsimp only)
    exact ⟨rfl, _, rfl, hb3, rfl⟩
  simp only [apN, apC]
  refine' draw_guard (j := 19) rfl rfl rfl (by decide) (by simp) ?_ ?_; rotate_left
  · intro hcs; simp only [Bool.and_eq_true, beqT, beqF] at hcs; intro g w hb hdep; replace hL := hL.grow hb; have d24 := yv hdep 24; simp only [hcs, beq_self_eq_true, Bool.and_self, Bool.true_and, Bool.and_true, cnd_true] at d24; clear hdep; simp only [fillD, fLa, fLb, sTa, sTb]; simp only [d24]
    go_wp2
    exact cY
  simp only [apN, apC]
  apply draw_val
  · intro g w hb hdep; replace hL := hL.grow hb; have d19 := yv hdep 19; have d25 := yv hdep 25; clear hdep; simp only [fillD, fLa, fLb, sTa, sTb]; simp only [d19, d25]
    first | refine wp_pick_or rfl rfl ?_ | go_wp2
    exact cY
  simp only [apN, apC]
  apply draw_val
  · intro g w hb hdep; replace hL := hL.grow hb; have d26 := yv hdep 26; clear hdep; simp only [fillD, fLa, fLb, sTa, sTb]; simp only [d26]
    go_wp2
    exact cY
  simp only [apN, apC]
  refine' draw_guard (j := 27) rfl rfl rfl (by decide) (by simp) ?_ ?_; rotate_left
  · intro hcs; simp only [Bool.and_eq_true, beqT, beqF] at hcs; intro g w hb hdep; replace hL := hL.grow hb; clear hdep; simp only [fillD, fLa, fLb, sTa, sTb]
    go_wp2
    exact cY
  simp only [apN, apC]
  refine' draw_guard (j := 27) rfl rfl rfl (by decide) (by simp) ?_ ?_; rotate_left
  · intro hcs; simp only [Bool.and_eq_true, beqT, beqF] at hcs; intro g w hb hdep; replace hL := hL.grow hb; have d28 := yv hdep 28; simp only [hcs, beq_self_eq_true, Bool.and_self, Bool.true_and, Bool.and_true, cnd_true] at d28; clear hdep; simp only [fillD, fLa, fLb, sTa, sTb]; simp only [d28]
    go_wp2_with (first | (with_reducible refine lld hL ?_) | (with_reducible refine ldD hL ?_))
    exact cY
  simp only [apN, apC]
  refine' draw_guard (j := 27) rfl rfl rfl (by decide) (by simp) ?_ ?_; rotate_left
  · intro hcs; simp only [Bool.and_eq_true, beqT, beqF] at hcs; intro g w hb hdep; replace hL := hL.grow hb; have d29 := yv hdep 29; simp only [hcs, beq_self_eq_true, Bool.and_self, Bool.true_and, Bool.and_true, cnd_true] at d29; clear hdep; simp only [fillD, fLa, fLb, sTa, sTb]; simp only [d29]
    go_wp2
    exact cY
  simp only [apN, apC]
  refine' draw_guard (j := 27) rfl rfl rfl (by decide) (by simp) ?_ ?_; rotate_left
  · intro hcs; simp only [Bool.and_eq_true, beqT, beqF] at hcs; intro g w hb hdep; replace hL := hL.grow hb; clear hdep; simp only [fillD, fLa, fLb, sTa, sTb]
    go_wp2
    exact cY
  simp only [apN, apC]
  refine' draw_guard (j := 27) rfl rfl rfl (by decide) (by simp) ?_ ?_; rotate_left
  · intro hcs; simp only [Bool.and_eq_true, beqT, beqF] at hcs; intro g w hb hdep; replace hL := hL.grow hb; have d31 := yv hdep 31; simp only [hcs, beq_self_eq_true, Bool.and_self, Bool.true_and, Bool.and_true, cnd_true] at d31; clear hdep; simp only [fillD, fLa, fLb, sTa, sTb]; simp only [d31]
    go_wp2_with (first | (with_reducible refine lld hL ?_) | (with_reducible refine ldD hL ?_))
    exact cY
  simp only [apN, apC]
  refine' draw_guard (j := 27) rfl rfl rfl (by decide) (by simp) ?_ ?_; rotate_left
  · intro hcs; simp only [Bool.and_eq_true, beqT, beqF] at hcs; intro g w hb hdep; replace hL := hL.grow hb; have d32 := yv hdep 32; simp only [hcs, beq_self_eq_true, Bool.and_self, Bool.true_and, Bool.and_true, cnd_true] at d32; clear hdep; simp only [fillD, fLa, fLb, sTa, sTb]; simp only [d32]
    go_wp2
    exact cY
  simp only [apN, apC]
  refine' draw_guard (j := 27) rfl rfl rfl (by decide) (by simp) ?_ ?_; rotate_left
  · intro hcs; simp only [Bool.and_eq_true, beqT, beqF] at hcs; intro g w hb hdep; replace hL := hL.grow hb; have d30 := yv hdep 30; simp only [hcs, beq_self_eq_true, Bool.and_self, Bool.true_and, Bool.and_true, cnd_true] at d30; have d33 := yv hdep 33; simp only [hcs, beq_self_eq_true, Bool.and_self, Bool.true_and, Bool.and_true, cnd_true] at d33; clear hdep; simp only [fillD, fLa, fLb, sTa, sTb]; simp only [d30, d33]
    go_wp2
    exact cY
  simp only [apN, apC]
  apply draw_val
  · intro g w hb hdep; replace hL := hL.grow hb; have d27 := yv hdep 27; have d34 := yv hdep 34; clear hdep; simp only [fillD, fLa, fLb, sTa, sTb]; simp only [d27, d34]
    first | refine wp_pick_or rfl rfl ?_ | go_wp2
    exact cY
  simp only [apN, apC]
  apply draw_val
  · intro g w hb hdep; replace hL := hL.grow hb; have d35 := yv hdep 35; clear hdep; simp only [fillD, fLa, fLb, sTa, sTb]; simp only [d35]
    go_wp2
    exact cY
  simp only [apN, apC]
  refine' draw_guard (j := 36) rfl rfl rfl (by decide) (by simp) ?_ ?_; rotate_left
  · intro hcs; simp only [Bool.and_eq_true, beqT, beqF] at hcs; intro g w hb hdep; replace hL := hL.grow hb; clear hdep; simp only [fillD, fLa, fLb, sTa, sTb]
    go_wp2
    exact cY
  simp only [apN, apC]
  refine' draw_guard (j := 36) rfl rfl rfl (by decide) (by simp) ?_ ?_; rotate_left
  · intro hcs; simp only [Bool.and_eq_true, beqT, beqF] at hcs; intro g w hb hdep; replace hL := hL.grow hb; have d37 := yv hdep 37; simp only [hcs, beq_self_eq_true, Bool.and_self, Bool.true_and, Bool.and_true, cnd_true] at d37; clear hdep; simp only [fillD, fLa, fLb, sTa, sTb]; simp only [d37]
    go_wp2_with (first | (with_reducible refine lld hL ?_) | (with_reducible refine ldD hL ?_))
    exact cY
  simp only [apN, apC]
  refine' draw_guard (j := 36) rfl rfl rfl (by decide) (by simp) ?_ ?_; rotate_left
  · intro hcs; simp only [Bool.and_eq_true, beqT, beqF] at hcs; intro g w hb hdep; replace hL := hL.grow hb; have d38 := yv hdep 38; simp only [hcs, beq_self_eq_true, Bool.and_self, Bool.true_and, Bool.and_true, cnd_true] at d38; clear hdep; simp only [fillD, fLa, fLb, sTa, sTb]; simp only [d38]
    go_wp2
    exact cY
  simp only [apN, apC]
  refine' draw_guard (j := 36) rfl rfl rfl (by decide) (by simp) ?_ ?_; rotate_left
  · intro hcs; simp only [Bool.and_eq_true, beqT, beqF] at hcs; intro g w hb hdep; replace hL := hL.grow hb; clear hdep; simp only [fillD, fLa, fLb, sTa, sTb]
    go_wp2
    exact cY
  simp only [apN, apC]
  refine' draw_guard (j := 36) rfl rfl rfl (by decide) (by simp) ?_ ?_; rotate_left
  · intro hcs; simp only [Bool.and_eq_true, beqT, beqF] at hcs; intro g w hb hdep; replace hL := hL.grow hb; have d40 := yv hdep 40; simp only [hcs, beq_self_eq_true, Bool.and_self, Bool.true_and, Bool.and_true, cnd_true] at d40; clear hdep; simp only [fillD, fLa, fLb, sTa, sTb]; simp only [d40]
    go_wp2_with (first | (with_reducible refine lld hL ?_) | (with_reducible refine ldD hL ?_))
    exact cY
  simp only [apN, apC]
  refine' draw_guard (j := 36) rfl rfl rfl (by decide) (by simp) ?_ ?_; rotate_left
  · intro hcs; simp only [Bool.and_eq_true, beqT, beqF] at hcs; intro g w hb hdep; replace hL := hL.grow hb; have d41 := yv hdep 41; simp only [hcs, beq_self_eq_true, Bool.and_self, Bool.true_and, Bool.and_true, cnd_true] at d41; clear hdep; simp only [fillD, fLa, fLb, sTa, sTb]; simp only [d41]
    go_wp2
    exact cY
  simp only [apN, apC]
  refine' draw_guard (j := 36) rfl rfl rfl (by decide) (by simp) ?_ ?_; rotate_left
  · intro hcs; simp only [Bool.and_eq_true, beqT, beqF] at hcs; intro g w hb hdep; replace hL := hL.grow hb; have d39 := yv hdep 39; simp only [hcs, beq_self_eq_true, Bool.and_self, Bool.true_and, Bool.and_true, cnd_true] at d39; have d42 := yv hdep 42; simp only [hcs, beq_self_eq_true, Bool.and_self, Bool.true_and, Bool.and_true, cnd_true] at d42; clear hdep; simp only [fillD, fLa, fLb, sTa, sTb]; simp only [d39, d42]
    go_wp2
    exact cY
  simp only [apN, apC]
  apply draw_val
  · intro g w hb hdep; replace hL := hL.grow hb; have d36 := yv hdep 36; have d43 := yv hdep 43; clear hdep; simp only [fillD, fLa, fLb, sTa, sTb]; simp only [d36, d43]
    first | refine wp_pick_or rfl rfl ?_ | go_wp2
    exact cY
  simp only [apN, apC]
  refine seq_end hL (by kernel_rfl) ?_
  intro g w2 hb hR; simp only [List.length_cons, List.length_nil, Nat.reduceAdd] at hR
  have e0 := yv hR 0
  have e1 := yv hR 1
  have e2 := yv hR 2
  have e3 := yv hR 3
  have e4 := yv hR 4
  have e5 := yv hR 5
  have e6 := yv hR 6
  have e7 := yv hR 7
  have e8 := yv hR 8
  have e9 := yv hR 9
  have e10 := yv hR 10
  have e11 := yv hR 11
  have e12 := yv hR 12
  have e13 := yv hR 13
  have e14 := yv hR 14
  have e15 := yv hR 15
  have e16 := yv hR 16
  have e17 := yv hR 17
  have e18 := yv hR 18
  have e19 := yv hR 19
  have e20 := yv hR 20
  have e21 := yv hR 21
  have e22 := yv hR 22
  have e23 := yv hR 23
  have e24 := yv hR 24
  have e25 := yv hR 25
  have e26 := yv hR 26
  have e27 := yv hR 27
  have e28 := yv hR 28
  have e29 := yv hR 29
  have e30 := yv hR 30
  have e31 := yv hR 31
  have e32 := yv hR 32
  have e33 := yv hR 33
  have e34 := yv hR 34
  have e35 := yv hR 35
  have e36 := yv hR 36
  have e37 := yv hR 37
  have e38 := yv hR 38
  have e39 := yv hR 39
  have e40 := yv hR 40
  have e41 := yv hR 41
  have e42 := yv hR 42
  have e43 := yv hR 43
  have e44 := yv hR 44
  clear hR; simp only [fillD, fLa, fLb, sTa, sTb]
  simp only [e0, e1, e2, e3, e4, e5, e6, e7, e8, e9, e10, e11, e12, e13, e14, e15, e16, e17, e18, e19, e20, e21, e22, e23, e24, e25, e26, e27, e28, e29, e30, e31, e32, e33, e34, e35, e36, e37, e38, e39, e40, e41, e42, e43, e44]
  clear e0 e1 e2 e3 e4 e5 e6 e7 e8 e9 e10 e11 e12 e13 e14 e15 e16 e17 e18 e19 e20 e21 e22 e23 e24 e25 e26 e27 e28 e29 e30 e31 e32 e33 e34 e35 e36 e37 e38 e39 e40 e41 e42 e43 e44
  replace hL := hL.grow hb
  clear hb
  simp only [beq_false, Bool.not_or, Bool.not_not]
  cases h1 : headDiff a b va vb with
  | true =>
    have h0 := h1
    unfold headDiff at h0
    simp only [h0]
    clear h0
    have H := Lib.hid h1
    clear h1
    go_wp2_with (first | (with_reducible refine lld hL ?_) | ((with_reducible first | refine lbx hL ?_ | refine lal hL ?_ | refine lbs hL ?_); clear hL; intro bl w1 hL) | ((with_reducible refine lst' hL ?_); clear hL; intro w1 hL))
    (try simp only [Exit.inBlock, Exit.then]); refine' ret1 rfl ?_ rfl ?_; (case refine'_2 => exact cRes)
    exact ⟨by rw [HS.out, if_pos H.out]; rfl, hL.below⟩
  | false =>
  have h0 := h1
  unfold headDiff at h0
  simp only [h0]
  clear h0
  have hnn : b.things.n = a.things.n ∧ b.lines.n = a.lines.n := by
    simp [headDiff] at h1
    omega
  have Hnt := Lib.hid hnn.1
  have Hnl := Lib.hid hnn.2
  have HG := Lib.hid (show sameRun a b va vb ta tb fa fb la lb = if anyN (thingDiff ta tb fa fb) a.things.n then false else !anyN (lineDiff la lb) a.lines.n by rw [HS.out, h1]; rfl)
  clear h1 hnn HS HV
  go_wp2_with (first | (with_reducible refine lld hL ?_) | ((with_reducible first | refine lbx hL ?_ | refine lal hL ?_ | refine lbs hL ?_); clear hL; intro bl w1 hL) | ((with_reducible refine lst' hL ?_); clear hL; intro w1 hL))
  go_loopw [5] (fun c wr => ∃ k : Nat, k ≤ a.things.n ∧ c = .int .i64 k ∧ (∀ j, j < k → thingDiff ta tb fa fb j = false) ∧ Loc w wr [(b3, 29, [.int .i64 b.at', .slice b.vars.p b.vars.n b.vars.cap, .slice b.things.p b.things.n b.things.cap, .int .i64 b.taken, .slice b.lines.p b.lines.n b.lines.cap, .int .i64 b.ending]), (b2, 29, [.int .i64 a.at', .slice a.vars.p a.vars.n a.vars.cap, .slice a.things.p a.things.n a.things.cap, .int .i64 a.taken, .slice a.lines.p a.lines.n a.lines.cap, .int .i64 a.ending])] []) (fun c _ => a.things.n - (intOf c).toNat)
  case atStart => exact ⟨0, Nat.zero_le _, rfl, fun j hj => absurd hj (by omega), hL⟩
  case round =>
    obtain ⟨k, hk, rfl, hq, hL⟩ := hrel
    have HQ := Lib.hid hq
    clear hq
    by_cases hlt : k < a.things.n
    · have hltb : k < b.things.n := by rw [Hnt.out]; exact hlt
      have HPA2 := Lib.hid (HPA.out (by omega))
      have HPB2 := Lib.hid (HPB.out (by omega))
      have HR1 := Lib.hid (ReadsAt.cell (P := Tryd.prog) tInt (HCA.out k hlt).1 ((HCA.out k hlt).2 0 _ rfl))
      have HR2 := Lib.hid (ReadsAt.cell (P := Tryd.prog) tInt (HCB.out k hltb).1 ((HCB.out k hltb).2 0 _ rfl))
      have HR3 := Lib.hid (ReadsAt.cell (P := Tryd.prog) tValues (HCA.out k hlt).1 ((HCA.out k hlt).2 1 _ rfl))
      have HR4 := Lib.hid (ReadsAt.cell (P := Tryd.prog) tValues (HCB.out k hltb).1 ((HCB.out k hltb).2 1 _ rfl))
      have HVK := Lib.hid (fun w' (hw : Below w.heap.size w w') => sameValues_any (ta k).fs.p (tb k).fs.p (ta k).fs.n (tb k).fs.n (ta k).fs.cap (tb k).fs.cap (fa k) (fb k) w' (HA.out.fields k hlt).1 (HB.out.fields k hltb).1 ((HA.out.l.fields k hlt).2.grow hw) ((HB.out.l.fields k hltb).2.grow hw))
      go_upto_region 6 with (first | (with_reducible refine lld hL ?_) | ((with_reducible first | refine lbx hL ?_ | refine lal hL ?_ | refine lbs hL ?_); clear hL; intro bl w1 hL) | ((with_reducible refine lst' hL ?_); clear hL; intro w1 hL))
      refine draw_begin [59, 60, 61, 62, 63, 64, 65, 66, 67, 68, 69, 70, 71, 72, 73, 74, 75, 76, 77, 78, 79, 80, 81, 82, 83, 84, 85, 86, 87] ?_
      apply draw_val
      · intro g w hb hdep; replace hL := hL.grow hb; clear hdep; simp only [fillD, fLa, fLb, sTa, sTb]
        go_wp2
        exact cY
      simp only [apN, apC]
      apply draw_val
      · intro g w hb hdep; replace hL := hL.grow hb; have d0 := yv hdep 0; clear hdep; simp only [fillD, fLa, fLb, sTa, sTb]; simp only [d0]
        go_wp2_with (first | (with_reducible refine lld hL ?_) | (with_reducible refine ldD hL ?_))
        exact cY
      simp only [apN, apC]
      apply draw_val
      · intro g w hb hdep; replace hL := hL.grow hb; clear hdep; simp only [fillD, fLa, fLb, sTa, sTb]
        go_wp2
        exact cY
      simp only [apN, apC]
      apply draw_val
      · intro g w hb hdep; replace hL := hL.grow hb; have d1 := yv hdep 1; have d2 := yv hdep 2; clear hdep; simp only [fillD, fLa, fLb, sTa, sTb]; simp only [d1, d2]
        (simp only [HPA2.out]; go_wp2)
        exact cY
      simp only [apN, apC]
      apply draw_val
      · intro g w hb hdep; replace hL := hL.grow hb; have d3 := yv hdep 3; clear hdep; simp only [fillD, fLa, fLb, sTa, sTb]; simp only [d3]
        go_wp2
        exact cY
      simp only [apN, apC]
      apply draw_val
      · intro g w hb hdep; replace hL := hL.grow hb; have d4 := yv hdep 4; clear hdep; simp only [fillD, fLa, fLb, sTa, sTb]; simp only [d4]
        refine loc_loadB HR1.out hL rfl rfl ?_
        exact cY
      simp only [apN, apC]
      apply draw_val
      · intro g w hb hdep; replace hL := hL.grow hb; clear hdep; simp only [fillD, fLa, fLb, sTa, sTb]
        go_wp2
        exact cY
      simp only [apN, apC]
      apply draw_val
      · intro g w hb hdep; replace hL := hL.grow hb; have d6 := yv hdep 6; clear hdep; simp only [fillD, fLa, fLb, sTa, sTb]; simp only [d6]
        go_wp2_with (first | (with_reducible refine lld hL ?_) | (with_reducible refine ldD hL ?_))
        exact cY
      simp only [apN, apC]
      apply draw_val
      · intro g w hb hdep; replace hL := hL.grow hb; clear hdep; simp only [fillD, fLa, fLb, sTa, sTb]
        go_wp2
        exact cY
      simp only [apN, apC]
      apply draw_val
      · intro g w hb hdep; replace hL := hL.grow hb; have d7 := yv hdep 7; have d8 := yv hdep 8; clear hdep; simp only [fillD, fLa, fLb, sTa, sTb]; simp only [d7, d8]
        (simp only [HPB2.out]; go_wp2)
        exact cY
      simp only [apN, apC]
      apply draw_val
      · intro g w hb hdep; replace hL := hL.grow hb; have d9 := yv hdep 9; clear hdep; simp only [fillD, fLa, fLb, sTa, sTb]; simp only [d9]
        go_wp2
        exact cY
      simp only [apN, apC]
      apply draw_val
      · intro g w hb hdep; replace hL := hL.grow hb; have d10 := yv hdep 10; clear hdep; simp only [fillD, fLa, fLb, sTa, sTb]; simp only [d10]
        refine loc_loadB HR2.out hL rfl rfl ?_
        exact cY
      simp only [apN, apC]
      apply draw_val
      · intro g w hb hdep; replace hL := hL.grow hb; have d5 := yv hdep 5; have d11 := yv hdep 11; clear hdep; simp only [fillD, fLa, fLb, sTa, sTb]; simp only [d5, d11]
        go_wp2
        exact cY
      simp only [apN, apC]
      apply draw_val
      · intro g w hb hdep; replace hL := hL.grow hb; have d12 := yv hdep 12; clear hdep; simp only [fillD, fLa, fLb, sTa, sTb]; simp only [d12]
        go_wp2
        exact cY
      simp only [apN, apC]
      refine' draw_guard (j := 13) rfl rfl rfl (by decide) (by simp) ?_ ?_; rotate_left
      · intro hcs; simp only [Bool.and_eq_true, beqT, beqF] at hcs; intro g w hb hdep; replace hL := hL.grow hb; clear hdep; simp only [fillD, fLa, fLb, sTa, sTb]
        go_wp2
        exact cY
      simp only [apN, apC]
      refine' draw_guard (j := 13) rfl rfl rfl (by decide) (by simp) ?_ ?_; rotate_left
      · intro hcs; simp only [Bool.and_eq_true, beqT, beqF] at hcs; intro g w hb hdep; replace hL := hL.grow hb; have d14 := yv hdep 14; simp only [hcs, beq_self_eq_true, Bool.and_self, Bool.true_and, Bool.and_true, cnd_true] at d14; clear hdep; simp only [fillD, fLa, fLb, sTa, sTb]; simp only [d14]
        go_wp2_with (first | (with_reducible refine lld hL ?_) | (with_reducible refine ldD hL ?_))
        exact cY
      simp only [apN, apC]
      refine' draw_guard (j := 13) rfl rfl rfl (by decide) (by simp) ?_ ?_; rotate_left
      · intro hcs; simp only [Bool.and_eq_true, beqT, beqF] at hcs; intro g w hb hdep; replace hL := hL.grow hb; clear hdep; simp only [fillD, fLa, fLb, sTa, sTb]
        go_wp2
        exact cY
      simp only [apN, apC]
      refine' draw_guard (j := 13) rfl rfl rfl (by decide) (by simp) ?_ ?_; rotate_left
      · intro hcs; simp only [Bool.and_eq_true, beqT, beqF] at hcs; intro g w hb hdep; replace hL := hL.grow hb; have d15 := yv hdep 15; simp only [hcs, beq_self_eq_true, Bool.and_self, Bool.true_and, Bool.and_true, cnd_true] at d15; have d16 := yv hdep 16; simp only [hcs, beq_self_eq_true, Bool.and_self, Bool.true_and, Bool.and_true, cnd_true] at d16; clear hdep; simp only [fillD, fLa, fLb, sTa, sTb]; simp only [d15, d16]
        (simp only [HPA2.out]; go_wp2)
        exact cY
      simp only [apN, apC]
      refine' draw_guard (j := 13) rfl rfl rfl (by decide) (by simp) ?_ ?_; rotate_left
      · intro hcs; simp only [Bool.and_eq_true, beqT, beqF] at hcs; intro g w hb hdep; replace hL := hL.grow hb; have d17 := yv hdep 17; simp only [hcs, beq_self_eq_true, Bool.and_self, Bool.true_and, Bool.and_true, cnd_true] at d17; clear hdep; simp only [fillD, fLa, fLb, sTa, sTb]; simp only [d17]
        go_wp2
        exact cY
      simp only [apN, apC]
      refine' draw_guard (j := 13) rfl rfl rfl (by decide) (by simp) ?_ ?_; rotate_left
      · intro hcs; simp only [Bool.and_eq_true, beqT, beqF] at hcs; intro g w hb hdep; replace hL := hL.grow hb; have d18 := yv hdep 18; simp only [hcs, beq_self_eq_true, Bool.and_self, Bool.true_and, Bool.and_true, cnd_true] at d18; clear hdep; simp only [fillD, fLa, fLb, sTa, sTb]; simp only [d18]
        refine loc_loadB HR3.out hL rfl rfl ?_
        exact cY
      simp only [apN, apC]
      refine' draw_guard (j := 13) rfl rfl rfl (by decide) (by simp) ?_ ?_; rotate_left
      · intro hcs; simp only [Bool.and_eq_true, beqT, beqF] at hcs; intro g w hb hdep; replace hL := hL.grow hb; clear hdep; simp only [fillD, fLa, fLb, sTa, sTb]
        go_wp2
        exact cY
      simp only [apN, apC]
      refine' draw_guard (j := 13) rfl rfl rfl (by decide) (by simp) ?_ ?_; rotate_left
      · intro hcs; simp only [Bool.and_eq_true, beqT, beqF] at hcs; intro g w hb hdep; replace hL := hL.grow hb; have d20 := yv hdep 20; simp only [hcs, beq_self_eq_true, Bool.and_self, Bool.true_and, Bool.and_true, cnd_true] at d20; clear hdep; simp only [fillD, fLa, fLb, sTa, sTb]; simp only [d20]
        go_wp2_with (first | (with_reducible refine lld hL ?_) | (with_reducible refine ldD hL ?_))
        exact cY
      simp only [apN, apC]
      refine' draw_guard (j := 13) rfl rfl rfl (by decide) (by simp) ?_ ?_; rotate_left
      · intro hcs; simp only [Bool.and_eq_true, beqT, beqF] at hcs; intro g w hb hdep; replace hL := hL.grow hb; clear hdep; simp only [fillD, fLa, fLb, sTa, sTb]
        go_wp2
        exact cY
      simp only [apN, apC]
      refine' draw_guard (j := 13) rfl rfl rfl (by decide) (by simp) ?_ ?_; rotate_left
      · intro hcs; simp only [Bool.and_eq_true, beqT, beqF] at hcs; intro g w hb hdep; replace hL := hL.grow hb; have d21 := yv hdep 21; simp only [hcs, beq_self_eq_true, Bool.and_self, Bool.true_and, Bool.and_true, cnd_true] at d21; have d22 := yv hdep 22; simp only [hcs, beq_self_eq_true, Bool.and_self, Bool.true_and, Bool.and_true, cnd_true] at d22; clear hdep; simp only [fillD, fLa, fLb, sTa, sTb]; simp only [d21, d22]
        (simp only [HPB2.out]; go_wp2)
        exact cY
      simp only [apN, apC]
      refine' draw_guard (j := 13) rfl rfl rfl (by decide) (by simp) ?_ ?_; rotate_left
      · intro hcs; simp only [Bool.and_eq_true, beqT, beqF] at hcs; intro g w hb hdep; replace hL := hL.grow hb; have d23 := yv hdep 23; simp only [hcs, beq_self_eq_true, Bool.and_self, Bool.true_and, Bool.and_true, cnd_true] at d23; clear hdep; simp only [fillD, fLa, fLb, sTa, sTb]; simp only [d23]
        go_wp2
        exact cY
      simp only [apN, apC]
      refine' draw_guard (j := 13) rfl rfl rfl (by decide) (by simp) ?_ ?_; rotate_left
      · intro hcs; simp only [Bool.and_eq_true, beqT, beqF] at hcs; intro g w hb hdep; replace hL := hL.grow hb; have d24 := yv hdep 24; simp only [hcs, beq_self_eq_true, Bool.and_self, Bool.true_and, Bool.and_true, cnd_true] at d24; clear hdep; simp only [fillD, fLa, fLb, sTa, sTb]; simp only [d24]
        refine loc_loadB HR4.out hL rfl rfl ?_
        exact cY
      simp only [apN, apC]
      refine' draw_guard (j := 13) rfl rfl rfl (by decide) (by simp) ?_ ?_; rotate_left
      · intro hcs; simp only [Bool.and_eq_true, beqT, beqF] at hcs; intro g w hb hdep; replace hL := hL.grow hb; have d19 := yv hdep 19; simp only [hcs, beq_self_eq_true, Bool.and_self, Bool.true_and, Bool.and_true, cnd_true] at d19; have d25 := yv hdep 25; simp only [hcs, beq_self_eq_true, Bool.and_self, Bool.true_and, Bool.and_true, cnd_true] at d25; clear hdep; simp only [fillD, fLa, fLb, sTa, sTb]; simp only [d19, d25]
        go_wp2_with (go_at_call 61; refine (HVK.out _ hL.below).mono ?_; rintro e w3 ⟨rfl, hb3⟩; dsimp only)
        exact ⟨rfl, _, rfl, hb3, rfl⟩
      simp only [apN, apC]
      refine' draw_guard (j := 13) rfl rfl rfl (by decide) (by simp) ?_ ?_; rotate_left
      · intro hcs; simp only [Bool.and_eq_true, beqT, beqF] at hcs; intro g w hb hdep; replace hL := hL.grow hb; have d26 := yv hdep 26; simp only [hcs, beq_self_eq_true, Bool.and_self, Bool.true_and, Bool.and_true, cnd_true] at d26; clear hdep; simp only [fillD, fLa, fLb, sTa, sTb]; simp only [d26]
        go_wp2
        exact cY
      simp only [apN, apC]
      apply draw_val
      · intro g w hb hdep; replace hL := hL.grow hb; have d13 := yv hdep 13; have d27 := yv hdep 27; clear hdep; simp only [fillD, fLa, fLb, sTa, sTb]; simp only [d13, d27]
        first | refine wp_pick_or rfl rfl ?_ | go_wp2
        exact cY
      simp only [apN, apC]
      refine draw_end hL (by kernel_rfl) (by kernel_rfl) ?_
      intro g w2 hb hR; simp only [List.length_cons, List.length_nil, Nat.reduceAdd] at hR
      have e0 := yv hR 0
      have e1 := yv hR 1
      have e2 := yv hR 2
      have e3 := yv hR 3
      have e4 := yv hR 4
      have e5 := yv hR 5
      have e6 := yv hR 6
      have e7 := yv hR 7
      have e8 := yv hR 8
      have e9 := yv hR 9
      have e10 := yv hR 10
      have e11 := yv hR 11
      have e12 := yv hR 12
      have e13 := yv hR 13
      have e14 := yv hR 14
      have e15 := yv hR 15
      have e16 := yv hR 16
      have e17 := yv hR 17
      have e18 := yv hR 18
      have e19 := yv hR 19
      have e20 := yv hR 20
      have e21 := yv hR 21
      have e22 := yv hR 22
      have e23 := yv hR 23
      have e24 := yv hR 24
      have e25 := yv hR 25
      have e26 := yv hR 26
      have e27 := yv hR 27
      have e28 := yv hR 28
      clear hR; simp only [fillD, fLa, fLb, sTa, sTb]
      simp only [e0, e1, e2, e3, e4, e5, e6, e7, e8, e9, e10, e11, e12, e13, e14, e15, e16, e17, e18, e19, e20, e21, e22, e23, e24, e25, e26, e27, e28]
      clear e0 e1 e2 e3 e4 e5 e6 e7 e8 e9 e10 e11 e12 e13 e14 e15 e16 e17 e18 e19 e20 e21 e22 e23 e24 e25 e26 e27 e28
      replace hL := hL.grow hb
      clear hb
      cases hd : thingDiff ta tb fa fb k with
      | true =>
        have h0 := hd
        unfold thingDiff at h0
        simp only [h0]
        clear h0
        have HAN := Lib.hid (anyN_yes hlt hd)
        clear hd
        go_wp2_with (first | (with_reducible refine lld hL ?_) | ((with_reducible first | refine lbx hL ?_ | refine lal hL ?_ | refine lbs hL ?_); clear hL; intro bl w1 hL) | ((with_reducible refine lst' hL ?_); clear hL; intro w1 hL))
        (try simp only [Exit.inBlock, Exit.then]); refine' ret1 rfl ?_ rfl ?_; (case refine'_2 => exact cRes)
        exact ⟨by rw [HG.out, if_pos HAN.out]; rfl, hL.below⟩
      | false =>
        have h0 := hd
        unfold thingDiff at h0
        simp only [h0]
        clear h0
        have HD := Lib.hid hd
        clear hd
        go_wp2_with (first | (with_reducible refine lld hL ?_) | ((with_reducible first | refine lbx hL ?_ | refine lal hL ?_ | refine lbs hL ?_); clear hL; intro bl w1 hL) | ((with_reducible refine lst' hL ?_); clear hL; intro w1 hL))
        go_roundw
        case rel =>
          refine ⟨k + 1, by omega, by go_num, fun j hj => ?_, hL⟩
          rcases Nat.lt_or_ge j k with h | h
          · exact HQ.out j h
          · obtain rfl : j = k := by omega
            exact HD.out
        case measure => simp [intOf]; omega
    · obtain rfl : k = a.things.n := by omega
      have HH := Lib.hid (show sameRun a b va vb ta tb fa fb la lb = !anyN (lineDiff la lb) a.lines.n by rw [HG.out, anyN_no HQ.out]; rfl)
      clear HQ HG
      go_wp2_with (first | (with_reducible refine lld hL ?_) | ((with_reducible first | refine lbx hL ?_ | refine lal hL ?_ | refine lbs hL ?_); clear hL; intro bl w1 hL) | ((with_reducible refine lst' hL ?_); clear hL; intro w1 hL))
      go_loopw [6] (fun c wr => ∃ k : Nat, k ≤ a.lines.n ∧ c = .int .i64 k ∧ (∀ j, j < k → lineDiff la lb j = false) ∧ Loc w wr [(b3, 29, [.int .i64 b.at', .slice b.vars.p b.vars.n b.vars.cap, .slice b.things.p b.things.n b.things.cap, .int .i64 b.taken, .slice b.lines.p b.lines.n b.lines.cap, .int .i64 b.ending]), (b2, 29, [.int .i64 a.at', .slice a.vars.p a.vars.n a.vars.cap, .slice a.things.p a.things.n a.things.cap, .int .i64 a.taken, .slice a.lines.p a.lines.n a.lines.cap, .int .i64 a.ending])] []) (fun c _ => a.lines.n - (intOf c).toNat)
      case atStart => exact ⟨0, Nat.zero_le _, rfl, fun j hj => absurd hj (by omega), hL⟩
      case round =>
        obtain ⟨k, hk, rfl, hq, hL⟩ := hrel
        have HQ := Lib.hid hq
        clear hq
        by_cases hlt : k < a.lines.n
        · have hltb : k < b.lines.n := by rw [Hnl.out]; exact hlt
          have HPA2 := Lib.hid (HPC.out (by omega))
          have HPB2 := Lib.hid (HPD.out (by omega))
          have HR1 := Lib.hid (show ReadsAt Tryd.prog 9 w bc (oc + k) (.string (la k)) by have h := ReadsAt.cell (P := Tryd.prog) tStr (HCC.out k hlt).1 ((HCC.out k hlt).2 0 _ rfl); rw [Nat.mul_one, Nat.add_zero] at h; exact h)
          have HR2 := Lib.hid (show ReadsAt Tryd.prog 9 w bd (od + k) (.string (lb k)) by have h := ReadsAt.cell (P := Tryd.prog) tStr (HCD.out k hltb).1 ((HCD.out k hltb).2 0 _ rfl); rw [Nat.mul_one, Nat.add_zero] at h; exact h)
          go_upto_region 11 with (first | (with_reducible refine lld hL ?_) | ((with_reducible first | refine lbx hL ?_ | refine lal hL ?_ | refine lbs hL ?_); clear hL; intro bl w1 hL) | ((with_reducible refine lst' hL ?_); clear hL; intro w1 hL))
          refine draw_begin [95, 96, 97, 98, 99, 100, 101, 102, 103, 104, 105] ?_
          apply draw_val
          · intro g w hb hdep; replace hL := hL.grow hb; clear hdep; simp only [fillD, fLa, fLb, sTa, sTb]
            go_wp2
            exact cY
          simp only [apN, apC]
          apply draw_val
          · intro g w hb hdep; replace hL := hL.grow hb; have d0 := yv hdep 0; clear hdep; simp only [fillD, fLa, fLb, sTa, sTb]; simp only [d0]
            go_wp2_with (first | (with_reducible refine lld hL ?_) | (with_reducible refine ldD hL ?_))
            exact cY
          simp only [apN, apC]
          apply draw_val
          · intro g w hb hdep; replace hL := hL.grow hb; clear hdep; simp only [fillD, fLa, fLb, sTa, sTb]
            go_wp2
            exact cY
          simp only [apN, apC]
          apply draw_val
          · intro g w hb hdep; replace hL := hL.grow hb; have d1 := yv hdep 1; have d2 := yv hdep 2; clear hdep; simp only [fillD, fLa, fLb, sTa, sTb]; simp only [d1, d2]
            (simp only [HPA2.out]; go_wp2)
            exact cY
          simp only [apN, apC]
          apply draw_val
          · intro g w hb hdep; replace hL := hL.grow hb; have d3 := yv hdep 3; clear hdep; simp only [fillD, fLa, fLb, sTa, sTb]; simp only [d3]
            refine loc_loadB HR1.out hL rfl rfl ?_
            exact cY
          simp only [apN, apC]
          apply draw_val
          · intro g w hb hdep; replace hL := hL.grow hb; clear hdep; simp only [fillD, fLa, fLb, sTa, sTb]
            go_wp2
            exact cY
          simp only [apN, apC]
          apply draw_val
          · intro g w hb hdep; replace hL := hL.grow hb; have d5 := yv hdep 5; clear hdep; simp only [fillD, fLa, fLb, sTa, sTb]; simp only [d5]
            go_wp2_with (first | (with_reducible refine lld hL ?_) | (with_reducible refine ldD hL ?_))
            exact cY
          simp only [apN, apC]
          apply draw_val
          · intro g w hb hdep; replace hL := hL.grow hb; clear hdep; simp only [fillD, fLa, fLb, sTa, sTb]
            go_wp2
            exact cY
          simp only [apN, apC]
          apply draw_val
          · intro g w hb hdep; replace hL := hL.grow hb; have d6 := yv hdep 6; have d7 := yv hdep 7; clear hdep; simp only [fillD, fLa, fLb, sTa, sTb]; simp only [d6, d7]
            (simp only [HPB2.out]; go_wp2)
            exact cY
          simp only [apN, apC]
          apply draw_val
          · intro g w hb hdep; replace hL := hL.grow hb; have d8 := yv hdep 8; clear hdep; simp only [fillD, fLa, fLb, sTa, sTb]; simp only [d8]
            refine loc_loadB HR2.out hL rfl rfl ?_
            exact cY
          simp only [apN, apC]
          apply draw_val
          · intro g w hb hdep; replace hL := hL.grow hb; have d4 := yv hdep 4; have d9 := yv hdep 9; clear hdep; simp only [fillD, fLa, fLb, sTa, sTb]; simp only [d4, d9]
            go_wp2
            exact cY
          simp only [apN, apC]
          refine draw_end hL (by kernel_rfl) (by kernel_rfl) ?_
          intro g w2 hb hR; simp only [List.length_cons, List.length_nil, Nat.reduceAdd] at hR
          have e0 := yv hR 0
          have e1 := yv hR 1
          have e2 := yv hR 2
          have e3 := yv hR 3
          have e4 := yv hR 4
          have e5 := yv hR 5
          have e6 := yv hR 6
          have e7 := yv hR 7
          have e8 := yv hR 8
          have e9 := yv hR 9
          have e10 := yv hR 10
          clear hR; simp only [fillD, fLa, fLb, sTa, sTb]
          simp only [e0, e1, e2, e3, e4, e5, e6, e7, e8, e9, e10]
          clear e0 e1 e2 e3 e4 e5 e6 e7 e8 e9 e10
          replace hL := hL.grow hb
          clear hb
          cases hd : lineDiff la lb k with
          | true =>
            have h0 := hd
            unfold lineDiff at h0
            simp only [h0]
            clear h0
            have HAN := Lib.hid (anyN_yes hlt hd)
            clear hd
            go_wp2_with (first | (with_reducible refine lld hL ?_) | ((with_reducible first | refine lbx hL ?_ | refine lal hL ?_ | refine lbs hL ?_); clear hL; intro bl w1 hL) | ((with_reducible refine lst' hL ?_); clear hL; intro w1 hL))
            (try simp only [Exit.inBlock, Exit.then]); refine' ret1 rfl ?_ rfl ?_; (case refine'_2 => exact cRes)
            exact ⟨by rw [HH.out, HAN.out]; rfl, hL.below⟩
          | false =>
            have h0 := hd
            unfold lineDiff at h0
            simp only [h0]
            clear h0
            have HD := Lib.hid hd
            clear hd
            go_wp2_with (first | (with_reducible refine lld hL ?_) | ((with_reducible first | refine lbx hL ?_ | refine lal hL ?_ | refine lbs hL ?_); clear hL; intro bl w1 hL) | ((with_reducible refine lst' hL ?_); clear hL; intro w1 hL))
            go_roundw
            case rel =>
              refine ⟨k + 1, by omega, by go_num, fun j hj => ?_, hL⟩
              rcases Nat.lt_or_ge j k with h | h
              · exact HQ.out j h
              · obtain rfl : j = k := by omega
                exact HD.out
            case measure => simp [intOf]; omega
        · obtain rfl : k = a.lines.n := by omega
          go_wp2_with (first | (with_reducible refine lld hL ?_) | ((with_reducible first | refine lbx hL ?_ | refine lal hL ?_ | refine lbs hL ?_); clear hL; intro bl w1 hL) | ((with_reducible refine lst' hL ?_); clear hL; intro w1 hL))
          (try simp only [Exit.inBlock, Exit.then]); refine' ret1 rfl ?_ rfl ?_; (case refine'_2 => exact cRes)
          exact ⟨by rw [HH.out, anyN_no HQ.out]; rfl, hL.below⟩
end Go.Proofs.YtkdbehgekeidoaaDoor
