/- The walks over the reference's functions on runs: sites, equal values. Conditions: what they read lies in memory that was there. -/
import Derived.Test.YtkdbehgekeidoaaDoorRunD
set_option linter.unusedSimpArgs false
set_option linter.unusedVariables false
namespace Go.Proofs.YtkdbehgekeidoaaDoor
open Go.RowKit

theorem neq_vl (a b : Vl) (w : World) : (binOp .neq 56 (.agg #[.int .i64 a.kind, .int .i64 a.n]) (.agg #[.int .i64 b.kind, .int .i64 b.n])).run Tryd.prog w = .ok (.bool (!(a.kind == b.kind && a.n == b.n))) w := by
  cases h1 : (a.kind == b.kind) <;> cases h2 : (a.n == b.n)
  all_goals
    go_simp
    try simp_all

set_option maxRecDepth 100000 in
theorem neq_guard (x y : Operand) (a b : Vl) (w : World) : (eqGuard .neq 56 x y (.agg #[.int .i64 a.kind, .int .i64 a.n]) (.agg #[.int .i64 b.kind, .int .i64 b.n])).run Tryd.prog w = .ok () w := by
  go_simp
theorem wp_neq_vl {ops : Array Oper} {Q : Exit → Act → World → Prop} {act : Act} {w : World} {rest : List Oper} {d : Option Tmp} {ty u : TypeId} {pos : String} {after : Array Edge} {x y : Operand} {a b : Vl} {r : Bool} (ha : act.eval x = a.v) (hb : act.eval y = b.v) (hr : (!(a.kind == b.kind && a.n == b.n)) = r)
    (h : wpList Tryd.prog ops Q rest (act.put d (.bool r)) w) : wpList Tryd.prog ops Q (⟨d, .binOp .neq 56 x y u, ty, pos, after, none⟩ :: rest) act w := by
  subst hr
  refine wp_bin (w' := w) ?_ ?_ h
  · rw [ha, hb]; exact neq_guard x y a b w
  · rw [ha, hb]; exact neq_vl a b w

/-- Are two lists of values the same? -/
def diffAt (x y : Nat → Vl) (k : Nat) : Bool := !((x k).kind == (y k).kind && (x k).n == (y k).n)
def sameVals (n m : Nat) (x y : Nat → Vl) : Bool := n == m && !(anyN (diffAt x y) n)
set_option maxRecDepth 100000 in
set_option maxHeartbeats 1600000 in
theorem sameValues_any (sp tp : Option Addr) (n m sc tc : Nat) (x y : Nat → Vl) (w : World) (n1 : n ≤ 9223372036854775807) (n2 : m ≤ 9223372036854775807) (hs : ListAt Tryd.prog 56 2 w sp n (fun k => (x k).v)) (ht : ListAt Tryd.prog 56 2 w tp m (fun k => (y k).v)) :
    Calls Tryd.prog 61 #[.slice sp n sc, .slice tp m tc] w fun e w' => e = .returned (.bool (sameVals n m x y)) ∧ Below w.heap.size w w' := by
  obtain ⟨bs, os, hp, hc⟩ := hs.ex
  obtain ⟨bt, ot, hp2, hc2⟩ := ht.ex
  have HP := Lib.hid hp
  have HC := Lib.hid hc
  have HP2 := Lib.hid hp2
  have HC2 := Lib.hid hc2
  clear hp hc hp2 hc2 hs ht
  have hL := Loc.start w
  by_cases hn : n = m
  · subst hn
    have HF : Hid (sameVals n n x y = !(anyN (diffAt x y) n)) := Lib.hid (by simp [sameVals])
    go_enter Tryd.func61, Tryd.ntmps61
    go_wp2
    go_loopw [5] (fun c wr => ∃ k : Nat, k ≤ n ∧ c = .int .i64 k ∧ (∀ j, j < k → diffAt x y j = false) ∧ Loc w wr [] []) (fun c _ => n - (intOf c).toNat)
    case atStart => exact ⟨0, Nat.zero_le _, rfl, fun j hj => absurd hj (by omega), hL⟩
    case round =>
      obtain ⟨k, hk, rfl, hq, hL⟩ := hrel
      have HQ := Lib.hid hq
      clear hq
      by_cases hlt : k < n
      · have HPC := Lib.hid (HP.out (by omega))
        have HPC2 := Lib.hid (HP2.out (by omega))
        have HR := Lib.hid (HC.out k hlt)
        have HR2 := Lib.hid (HC2.out k hlt)
        go_upto_region 6 with (fail)
        refine draw_begin [17, 18, 19, 20, 21, 22, 23, 24, 25] ?_
        apply draw_val
        · intro g w hb hdep; replace hL := hL.grow hb; clear hdep; simp only [fillD, fLa, fLb, sTa, sTb]
          go_wp2
          exact cY
        simp only [apN, apC]
        apply draw_val
        · intro g w hb hdep; replace hL := hL.grow hb; clear hdep; simp only [fillD, fLa, fLb, sTa, sTb]
          go_wp2
          exact cY
        simp only [apN, apC]
        apply draw_val
        · intro g w hb hdep; replace hL := hL.grow hb; have d0 := yv hdep 0; have d1 := yv hdep 1; clear hdep; simp only [fillD, fLa, fLb, sTa, sTb]; simp only [d0, d1]
          (simp only [HPC.out]; go_wp2)
          exact cY
        simp only [apN, apC]
        apply draw_val
        · intro g w hb hdep; replace hL := hL.grow hb; have d2 := yv hdep 2; clear hdep; simp only [fillD, fLa, fLb, sTa, sTb]; simp only [d2]
          refine loc_loadB HR.out hL rfl rfl ?_
          exact cY
        simp only [apN, apC]
        apply draw_val
        · intro g w hb hdep; replace hL := hL.grow hb; clear hdep; simp only [fillD, fLa, fLb, sTa, sTb]
          go_wp2
          exact cY
        simp only [apN, apC]
        apply draw_val
        · intro g w hb hdep; replace hL := hL.grow hb; clear hdep; simp only [fillD, fLa, fLb, sTa, sTb]
          go_wp2
          exact cY
        simp only [apN, apC]
        apply draw_val
        · intro g w hb hdep; replace hL := hL.grow hb; have d4 := yv hdep 4; have d5 := yv hdep 5; clear hdep; simp only [fillD, fLa, fLb, sTa, sTb]; simp only [d4, d5]
          (simp only [HPC2.out]; go_wp2)
          exact cY
        simp only [apN, apC]
        apply draw_val
        · intro g w hb hdep; replace hL := hL.grow hb; have d6 := yv hdep 6; clear hdep; simp only [fillD, fLa, fLb, sTa, sTb]; simp only [d6]
          refine loc_loadB HR2.out hL rfl rfl ?_
          exact cY
        simp only [apN, apC]
        apply draw_val
        · intro g w hb hdep; replace hL := hL.grow hb; have d3 := yv hdep 3; have d7 := yv hdep 7; clear hdep; simp only [fillD, fLa, fLb, sTa, sTb]; simp only [d3, d7]
          refine wp_neq_vl (a := x k) (b := y k) (r := diffAt x y k) rfl rfl rfl ?_
          exact cY
        simp only [apN, apC]
        refine draw_end hL (by kernel_rfl) (by kernel_rfl) ?_
        intro g w2 hb hR; simp only [List.length_cons, List.length_nil, Nat.reduceAdd] at hR
        have e0 := yv hR 0
        have e1 := yv hR 1
        have e2 := yv hR 2
        have e3 := yv hR 3
        have e4 := yv hR 4
        have e5 := yv hR 5
        have e6 := yv hR 6
        have e7 := yv hR 7
        have e8 := yv hR 8
        clear hR; simp only [fillD, fLa, fLb, sTa, sTb]
        simp only [e0, e1, e2, e3, e4, e5, e6, e7, e8]
        clear e0 e1 e2 e3 e4 e5 e6 e7 e8
        replace hL := hL.grow hb
        clear hb
        cases hd : diffAt x y k with
        | true =>
          have HA := Lib.hid (anyN_yes hlt hd)
          clear hd
          go_wp2
          go_ret
          exact ⟨by rw [HF.out, HA.out]; rfl, hL.below⟩
        | false =>
          have HD := Lib.hid hd
          clear hd
          go_wp2
          go_roundw
          case rel =>
            refine ⟨k + 1, by omega, by go_num, fun j hj => ?_, hL⟩
            rcases Nat.lt_or_ge j k with h | h
            · exact HQ.out j h
            · obtain rfl : j = k := by omega
              exact HD.out
          case measure => simp [intOf]; omega
      · obtain rfl : k = n := by omega
        go_wp2
        go_ret
        exact ⟨by rw [HF.out, anyN_no HQ.out]; rfl, hL.below⟩
  · have hne : ((n : Int) != m) = true := by simp; omega
    have HF : Hid (sameVals n m x y = false) := Lib.hid (by simp [sameVals, hn])
    clear hn
    go_enter Tryd.func61, Tryd.ntmps61
    go_wp2
    go_ret
    exact ⟨by rw [HF.out]; rfl, hL.below⟩
end Go.Proofs.YtkdbehgekeidoaaDoor
