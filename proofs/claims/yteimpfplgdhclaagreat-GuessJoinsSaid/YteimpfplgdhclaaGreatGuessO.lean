/- The walks over guess.Check, Join, Widen, Within, Holds, Truth, Do. Conditions: what they read lies in memory that was there. -/
import Derived.Test.YteimpfplgdhclaaGreatGuessN
set_option linter.unusedSimpArgs false
set_option linter.unusedVariables false
namespace Go.Proofs.YteimpfplgdhclaaGreat
open Go.RowKit

theorem enterW : ∀ args w, (callFunc 36 args).run Tryz.prog w = .ok (.enter 36 args) w := fun args w => by kernel_rfl
abbrev Pg.row (p : Pg) : List Value := [.int .i64 p.vars, .int .i64 p.fields, .slice p.pc p.n p.cap]
set_option maxRecDepth 100000 in
set_option maxHeartbeats 4000000 in
theorem gCheck_any (p : Pg) (is : Nat → Ins) (g : Gu) (l : List Int) (w : World) (hn : p.n ≤ 9223372036854775807) (hc : CodeAt w p is) (hl : IntsAt w g.s l) :
    Calls Tryz.prog 19 #[p.v, g.v] w fun e w' => e = .returned (.int .i64 (cg1 p is g l)) ∧ Below w.heap.size w w' := by
  have HR := Lib.hid (fun (b : Nat) (w' : World) (hb : Below w.heap.size w w') (hh : w'.heap[b]? = some (.cells g.cells.toArray 29 (0, 0))) => (show Calls Tryz.prog 20 #[p.v, .slice (some ⟨b, 0, none⟩) 1 1] w' fun e w2 => e = .returned (.int .i64 (cg1 p is g l)) ∧ Below w'.heap.size w' w2 from ready_any p is (some ⟨b, 0, none⟩) 1 1 (fun _ => g) (fun _ => l) w' hn (hc.grow hb) (gus1 hh (hl.grow hb))))
  generalize cg1 p is g l = c at HR ⊢
  clear hc hl
  have hL := Loc.start w
  go_enter Tryz.func19, Tryz.ntmps19
  go_wp2_with (first | (with_reducible refine lld hL ?_) | ((with_reducible first | refine lbx hL ?_ | refine lal hL ?_ | refine lbs hL ?_); clear hL; intro bl w1 hL) | ((with_reducible refine lst' hL ?_); clear hL; intro w1 hL) | (go_at_call 20; refine (HR.out bl _ hL.below (hL.heap (by repeat (first | exact InL.head | apply InL.tail)))).mono ?_; rintro e w1 ⟨rfl, hb⟩; replace hL := hL.grow hb; clear hb; dsimp only))
  (try simp only [Exit.inBlock, Exit.then]); refine' ret1 rfl ?_ rfl ?_; (case refine'_2 => exact cRes)
  exact ⟨rfl, hL.below⟩
set_option maxRecDepth 100000 in
set_option maxHeartbeats 4000000 in
theorem gJoin_err (p : Pg) (is : Nat → Ins) (g h : Gu) (l m : List Int) (w : World) (hn : p.n ≤ 9223372036854775807) (hc : CodeAt w p is) (hl : IntsAt w g.s l) (hm : IntsAt w h.s m) (h0 : cg2 p is g h l m ≠ 0) :
    Calls Tryz.prog 10 #[p.v, g.v, h.v] w fun e w' => e = .returned (.tuple #[zeroG.v, .int .i64 (cg2 p is g h l m)]) ∧ Below w.heap.size w w' := by
  have HR := Lib.hid (fun (b : Nat) (w' : World) (hb : Below w.heap.size w w') (hh : w'.heap[b]? = some (.cells (g.cells ++ h.cells).toArray 29 (0, 0))) => (show Calls Tryz.prog 20 #[p.v, .slice (some ⟨b, 0, none⟩) 2 2] w' fun e w2 => e = .returned (.int .i64 (cg2 p is g h l m)) ∧ Below w'.heap.size w' w2 from ready_any p is (some ⟨b, 0, none⟩) 2 2 (pick2 g h) (pick2 l m) w' hn (hc.grow hb) (gus2 hh (hl.grow hb) (hm.grow hb))))
  generalize cg2 p is g h l m = c at HR h0 ⊢
  have k0 : (c != 0) = true := by simpa using h0
  clear h0 hc hl hm
  have hL := Loc.start w
  go_enter Tryz.func10, Tryz.ntmps10
  go_wp2_with (first | (with_reducible refine lld hL ?_) | ((with_reducible first | refine lbx hL ?_ | refine lal hL ?_ | refine lbs hL ?_); clear hL; intro bl w1 hL) | ((with_reducible refine lst' hL ?_); clear hL; intro w1 hL) | (go_at_call 20; refine (HR.out bl _ hL.below (hL.heap (by repeat (first | exact InL.head | apply InL.tail)))).mono ?_; rintro e w1 ⟨rfl, hb⟩; replace hL := hL.grow hb; clear hb; dsimp only))
  (try simp only [Exit.inBlock, Exit.then]); refine' ret2 rfl ?_ ?_ rfl ?_; (case refine'_3 => exact cRes); (case refine'_4 => exact cRes)
  exact ⟨rfl, hL.below⟩
set_option maxRecDepth 100000 in
set_option maxHeartbeats 4000000 in
theorem gWiden_err (p : Pg) (is : Nat → Ins) (g h : Gu) (l m : List Int) (w : World) (hn : p.n ≤ 9223372036854775807) (hc : CodeAt w p is) (hl : IntsAt w g.s l) (hm : IntsAt w h.s m) (h0 : cg2 p is g h l m ≠ 0) :
    Calls Tryz.prog 11 #[p.v, g.v, h.v] w fun e w' => e = .returned (.tuple #[zeroG.v, .int .i64 (cg2 p is g h l m)]) ∧ Below w.heap.size w w' := by
  have HR := Lib.hid (fun (b : Nat) (w' : World) (hb : Below w.heap.size w w') (hh : w'.heap[b]? = some (.cells (g.cells ++ h.cells).toArray 29 (0, 0))) => (show Calls Tryz.prog 20 #[p.v, .slice (some ⟨b, 0, none⟩) 2 2] w' fun e w2 => e = .returned (.int .i64 (cg2 p is g h l m)) ∧ Below w'.heap.size w' w2 from ready_any p is (some ⟨b, 0, none⟩) 2 2 (pick2 g h) (pick2 l m) w' hn (hc.grow hb) (gus2 hh (hl.grow hb) (hm.grow hb))))
  generalize cg2 p is g h l m = c at HR h0 ⊢
  have k0 : (c != 0) = true := by simpa using h0
  clear h0 hc hl hm
  have hL := Loc.start w
  go_enter Tryz.func11, Tryz.ntmps11
  go_wp2_with (first | (with_reducible refine lld hL ?_) | ((with_reducible first | refine lbx hL ?_ | refine lal hL ?_ | refine lbs hL ?_); clear hL; intro bl w1 hL) | ((with_reducible refine lst' hL ?_); clear hL; intro w1 hL) | (go_at_call 20; refine (HR.out bl _ hL.below (hL.heap (by repeat (first | exact InL.head | apply InL.tail)))).mono ?_; rintro e w1 ⟨rfl, hb⟩; replace hL := hL.grow hb; clear hb; dsimp only))
  (try simp only [Exit.inBlock, Exit.then]); refine' ret2 rfl ?_ ?_ rfl ?_; (case refine'_3 => exact cRes); (case refine'_4 => exact cRes)
  exact ⟨rfl, hL.below⟩
set_option maxRecDepth 100000 in
set_option maxHeartbeats 4000000 in
theorem gWithin_err (p : Pg) (is : Nat → Ins) (g h : Gu) (l m : List Int) (w : World) (hn : p.n ≤ 9223372036854775807) (hc : CodeAt w p is) (hl : IntsAt w g.s l) (hm : IntsAt w h.s m) (h0 : cg2 p is g h l m ≠ 0) :
    Calls Tryz.prog 12 #[p.v, g.v, h.v] w fun e w' => e = .returned (.tuple #[.bool false, .int .i64 (cg2 p is g h l m)]) ∧ Below w.heap.size w w' := by
  have HR := Lib.hid (fun (b : Nat) (w' : World) (hb : Below w.heap.size w w') (hh : w'.heap[b]? = some (.cells (g.cells ++ h.cells).toArray 29 (0, 0))) => (show Calls Tryz.prog 20 #[p.v, .slice (some ⟨b, 0, none⟩) 2 2] w' fun e w2 => e = .returned (.int .i64 (cg2 p is g h l m)) ∧ Below w'.heap.size w' w2 from ready_any p is (some ⟨b, 0, none⟩) 2 2 (pick2 g h) (pick2 l m) w' hn (hc.grow hb) (gus2 hh (hl.grow hb) (hm.grow hb))))
  generalize cg2 p is g h l m = c at HR h0 ⊢
  have k0 : (c != 0) = true := by simpa using h0
  clear h0 hc hl hm
  have hL := Loc.start w
  go_enter Tryz.func12, Tryz.ntmps12
  go_wp2_with (first | (with_reducible refine lld hL ?_) | ((with_reducible first | refine lbx hL ?_ | refine lal hL ?_ | refine lbs hL ?_); clear hL; intro bl w1 hL) | ((with_reducible refine lst' hL ?_); clear hL; intro w1 hL) | (go_at_call 20; refine (HR.out bl _ hL.below (hL.heap (by repeat (first | exact InL.head | apply InL.tail)))).mono ?_; rintro e w1 ⟨rfl, hb⟩; replace hL := hL.grow hb; clear hb; dsimp only))
  (try simp only [Exit.inBlock, Exit.then]); refine' ret2 rfl ?_ ?_ rfl ?_; (case refine'_3 => exact cRes); (case refine'_4 => exact cRes)
  exact ⟨rfl, hL.below⟩
set_option maxRecDepth 100000 in
set_option maxHeartbeats 4000000 in
theorem gHolds_err (p : Pg) (is : Nat → Ins) (g : Gu) (l : List Int) (w : World) (hn : p.n ≤ 9223372036854775807) (hc : CodeAt w p is) (hl : IntsAt w g.s l) (v : Vl) (site : Int) (h0 : cg1 p is g l ≠ 0) :
    Calls Tryz.prog 13 #[p.v, g.v, v.v, .int .i64 site] w fun e w' => e = .returned (.tuple #[.bool false, .int .i64 (cg1 p is g l)]) ∧ Below w.heap.size w w' := by
  have HR := Lib.hid (fun (b : Nat) (w' : World) (hb : Below w.heap.size w w') (hh : w'.heap[b]? = some (.cells g.cells.toArray 29 (0, 0))) => (show Calls Tryz.prog 20 #[p.v, .slice (some ⟨b, 0, none⟩) 1 1] w' fun e w2 => e = .returned (.int .i64 (cg1 p is g l)) ∧ Below w'.heap.size w' w2 from ready_any p is (some ⟨b, 0, none⟩) 1 1 (fun _ => g) (fun _ => l) w' hn (hc.grow hb) (gus1 hh (hl.grow hb))))
  generalize cg1 p is g l = c at HR h0 ⊢
  have k0 : (c != 0) = true := by simpa using h0
  clear h0 hc hl
  have hL := Loc.start w
  go_enter Tryz.func13, Tryz.ntmps13
  go_wp2_with (first | (with_reducible refine lld hL ?_) | ((with_reducible first | refine lbx hL ?_ | refine lal hL ?_ | refine lbs hL ?_); clear hL; intro bl w1 hL) | ((with_reducible refine lst' hL ?_); clear hL; intro w1 hL) | (go_at_call 20; refine (HR.out bl _ hL.below (hL.heap (by repeat (first | exact InL.head | apply InL.tail)))).mono ?_; rintro e w1 ⟨rfl, hb⟩; replace hL := hL.grow hb; clear hb; dsimp only))
  (try simp only [Exit.inBlock, Exit.then]); refine' ret2 rfl ?_ ?_ rfl ?_; (case refine'_3 => exact cRes); (case refine'_4 => exact cRes)
  exact ⟨rfl, hL.below⟩
set_option maxRecDepth 100000 in
set_option maxHeartbeats 4000000 in
theorem gTruth_err (p : Pg) (is : Nat → Ins) (g : Gu) (l : List Int) (w : World) (hn : p.n ≤ 9223372036854775807) (hc : CodeAt w p is) (hl : IntsAt w g.s l) (h0 : cg1 p is g l ≠ 0) :
    Calls Tryz.prog 14 #[p.v, g.v] w fun e w' => e = .returned (.tuple #[.bool false, .bool false, .int .i64 (cg1 p is g l)]) ∧ Below w.heap.size w w' := by
  have HR := Lib.hid (fun (b : Nat) (w' : World) (hb : Below w.heap.size w w') (hh : w'.heap[b]? = some (.cells g.cells.toArray 29 (0, 0))) => (show Calls Tryz.prog 20 #[p.v, .slice (some ⟨b, 0, none⟩) 1 1] w' fun e w2 => e = .returned (.int .i64 (cg1 p is g l)) ∧ Below w'.heap.size w' w2 from ready_any p is (some ⟨b, 0, none⟩) 1 1 (fun _ => g) (fun _ => l) w' hn (hc.grow hb) (gus1 hh (hl.grow hb))))
  generalize cg1 p is g l = c at HR h0 ⊢
  have k0 : (c != 0) = true := by simpa using h0
  clear h0 hc hl
  have hL := Loc.start w
  go_enter Tryz.func14, Tryz.ntmps14
  go_wp2_with (first | (with_reducible refine lld hL ?_) | ((with_reducible first | refine lbx hL ?_ | refine lal hL ?_ | refine lbs hL ?_); clear hL; intro bl w1 hL) | ((with_reducible refine lst' hL ?_); clear hL; intro w1 hL) | (go_at_call 20; refine (HR.out bl _ hL.below (hL.heap (by repeat (first | exact InL.head | apply InL.tail)))).mono ?_; rintro e w1 ⟨rfl, hb⟩; replace hL := hL.grow hb; clear hb; dsimp only))
  (try simp only [Exit.inBlock, Exit.then]); refine' ret3 rfl ?_ ?_ ?_ rfl ?_; (case refine'_4 => exact cRes); (case refine'_5 => exact cRes); (case refine'_6 => exact cRes)
  exact ⟨rfl, hL.below⟩
set_option maxRecDepth 100000 in
set_option maxHeartbeats 4000000 in
theorem gDo_err (p : Pg) (is : Nat → Ins) (g h : Gu) (l m : List Int) (w : World) (hn : p.n ≤ 9223372036854775807) (hc : CodeAt w p is) (hl : IntsAt w g.s l) (hm : IntsAt w h.s m) (k : Int) (h0 : cg2 p is g h l m ≠ 0) :
    Calls Tryz.prog 5 #[p.v, .int .i64 k, g.v, h.v] w fun e w' => e = .returned (.tuple #[zeroG.v, .bool false, .int .i64 (cg2 p is g h l m)]) ∧ Below w.heap.size w w' := by
  have HR := Lib.hid (fun (b : Nat) (w' : World) (hb : Below w.heap.size w w') (hh : w'.heap[b]? = some (.cells (g.cells ++ h.cells).toArray 29 (0, 0))) => (show Calls Tryz.prog 20 #[p.v, .slice (some ⟨b, 0, none⟩) 2 2] w' fun e w2 => e = .returned (.int .i64 (cg2 p is g h l m)) ∧ Below w'.heap.size w' w2 from ready_any p is (some ⟨b, 0, none⟩) 2 2 (pick2 g h) (pick2 l m) w' hn (hc.grow hb) (gus2 hh (hl.grow hb) (hm.grow hb))))
  generalize cg2 p is g h l m = c at HR h0 ⊢
  have k0 : (c != 0) = true := by simpa using h0
  clear h0 hc hl hm
  have hL := Loc.start w
  go_enter Tryz.func5, Tryz.ntmps5
  go_wp2_with (first | (with_reducible refine lld hL ?_) | ((with_reducible first | refine lbx hL ?_ | refine lal hL ?_ | refine lbs hL ?_); clear hL; intro bl w1 hL) | ((with_reducible refine lst' hL ?_); clear hL; intro w1 hL) | (go_at_call 20; refine (HR.out bl _ hL.below (hL.heap (by repeat (first | exact InL.head | apply InL.tail)))).mono ?_; rintro e w1 ⟨rfl, hb⟩; replace hL := hL.grow hb; clear hb; dsimp only))
  (try simp only [Exit.inBlock, Exit.then]); refine' ret3 rfl ?_ ?_ ?_ rfl ?_; (case refine'_4 => exact cRes); (case refine'_5 => exact cRes); (case refine'_6 => exact cRes)
  exact ⟨rfl, hL.below⟩
set_option maxRecDepth 100000 in
set_option maxHeartbeats 4000000 in
theorem gJoin_ok (p : Pg) (is : Nat → Ins) (g h : Gu) (l m : List Int) (w : World) (hn : p.n ≤ 9223372036854775807) (hc : CodeAt w p is) (hl : IntsAt w g.s l) (hm : IntsAt w h.s m) (h0 : cg2 p is g h l m = 0) (hlen : (l.length + m.length) * 8 ≤ 140737488351232) :
    Calls Tryz.prog 10 #[p.v, g.v, h.v] w fun e w' => ∃ r : Sl, e = .returned (.tuple #[Gu.v ⟨g.null || h.null, both g.span h.span, g.tr || h.tr, g.fa || h.fa, r⟩, .int .i64 0]) ∧ OwnI w.heap.size w' r (mixS l m) ∧ Below w.heap.size w w' := by
  have HR := Lib.hid (fun (b : Nat) (w' : World) (hb : Below w.heap.size w w') (hh : w'.heap[b]? = some (.cells (g.cells ++ h.cells).toArray 29 (0, 0))) => (show Calls Tryz.prog 20 #[p.v, .slice (some ⟨b, 0, none⟩) 2 2] w' fun e w2 => e = .returned (.int .i64 (cg2 p is g h l m)) ∧ Below w'.heap.size w' w2 from ready_any p is (some ⟨b, 0, none⟩) 2 2 (pick2 g h) (pick2 l m) w' hn (hc.grow hb) (gus2 hh (hl.grow hb) (hm.grow hb))))
  rw [h0] at HR
  have HB := Lib.hid (fun w' (hb : Below w.heap.size w w') => gboth_any 35 both enterB both_any g h l m w' (hl.grow hb) (hm.grow hb) hlen)
  clear hc hl hm hlen h0
  generalize mixS l m = ml at HB ⊢
  generalize both g.span h.span = fs at HB ⊢
  generalize (g.null || h.null) = a at HB ⊢
  generalize (g.tr || h.tr) = b at HB ⊢
  generalize (g.fa || h.fa) = c at HB ⊢
  have hL := Loc.start w
  go_enter Tryz.func10, Tryz.ntmps10
  go_wp2_with (first | (with_reducible refine lld hL ?_) | ((with_reducible first | refine lbx hL ?_ | refine lal hL ?_ | refine lbs hL ?_); clear hL; intro bl w1 hL) | ((with_reducible refine lst' hL ?_); clear hL; intro w1 hL) | (go_at_call 20; refine (HR.out bl _ hL.below (hL.heap (by repeat (first | exact InL.head | apply InL.tail)))).mono ?_; rintro e w1 ⟨rfl, hb⟩; replace hL := hL.grow hb; clear hb; dsimp only) | (go_at_call 34; refine (HB.out _ hL.below).mono ?_; rintro e w3 ⟨r, rfl, ⟨R, hr, ho⟩, hb3⟩; replace hL := hL.gainTail hb3 ho; simp only [List.cons_append, List.nil_append] at hL; clear hb3 ho; dsimp only))
  (try simp only [Exit.inBlock, Exit.then]); refine' ret2 rfl ?_ ?_ rfl ?_; (case refine'_3 => exact cRes); (case refine'_4 => exact cRes)
  exact ⟨r, rfl, ⟨R, hr, hL.ownOf (List.sublist_append_right [_, _, _, _, _] _)⟩, hL.below⟩
set_option maxRecDepth 100000 in
set_option maxHeartbeats 4000000 in
theorem gWiden_ok (p : Pg) (is : Nat → Ins) (g h : Gu) (l m : List Int) (w : World) (hn : p.n ≤ 9223372036854775807) (hc : CodeAt w p is) (hl : IntsAt w g.s l) (hm : IntsAt w h.s m) (h0 : cg2 p is g h l m = 0) (hlen : (l.length + m.length) * 8 ≤ 140737488351232) :
    Calls Tryz.prog 11 #[p.v, g.v, h.v] w fun e w' => ∃ r : Sl, e = .returned (.tuple #[Gu.v ⟨g.null || h.null, wider g.span h.span, g.tr || h.tr, g.fa || h.fa, r⟩, .int .i64 0]) ∧ OwnI w.heap.size w' r (mixS l m) ∧ Below w.heap.size w w' := by
  have HR := Lib.hid (fun (b : Nat) (w' : World) (hb : Below w.heap.size w w') (hh : w'.heap[b]? = some (.cells (g.cells ++ h.cells).toArray 29 (0, 0))) => (show Calls Tryz.prog 20 #[p.v, .slice (some ⟨b, 0, none⟩) 2 2] w' fun e w2 => e = .returned (.int .i64 (cg2 p is g h l m)) ∧ Below w'.heap.size w' w2 from ready_any p is (some ⟨b, 0, none⟩) 2 2 (pick2 g h) (pick2 l m) w' hn (hc.grow hb) (gus2 hh (hl.grow hb) (hm.grow hb))))
  rw [h0] at HR
  have HB := Lib.hid (fun w' (hb : Below w.heap.size w w') => gboth_any 36 wider enterW wider_any g h l m w' (hl.grow hb) (hm.grow hb) hlen)
  clear hc hl hm hlen h0
  generalize mixS l m = ml at HB ⊢
  generalize wider g.span h.span = fs at HB ⊢
  generalize (g.null || h.null) = a at HB ⊢
  generalize (g.tr || h.tr) = b at HB ⊢
  generalize (g.fa || h.fa) = c at HB ⊢
  have hL := Loc.start w
  go_enter Tryz.func11, Tryz.ntmps11
  go_wp2_with (first | (with_reducible refine lld hL ?_) | ((with_reducible first | refine lbx hL ?_ | refine lal hL ?_ | refine lbs hL ?_); clear hL; intro bl w1 hL) | ((with_reducible refine lst' hL ?_); clear hL; intro w1 hL) | (go_at_call 20; refine (HR.out bl _ hL.below (hL.heap (by repeat (first | exact InL.head | apply InL.tail)))).mono ?_; rintro e w1 ⟨rfl, hb⟩; replace hL := hL.grow hb; clear hb; dsimp only) | (go_at_call 34; refine (HB.out _ hL.below).mono ?_; rintro e w3 ⟨r, rfl, ⟨R, hr, ho⟩, hb3⟩; replace hL := hL.gainTail hb3 ho; simp only [List.cons_append, List.nil_append] at hL; clear hb3 ho; dsimp only))
  (try simp only [Exit.inBlock, Exit.then]); refine' ret2 rfl ?_ ?_ rfl ?_; (case refine'_3 => exact cRes); (case refine'_4 => exact cRes)
  exact ⟨r, rfl, ⟨R, hr, hL.ownOf (List.sublist_append_right [_, _, _, _, _] _)⟩, hL.below⟩
set_option maxRecDepth 100000 in
set_option maxHeartbeats 4000000 in
theorem gWithin_ok (p : Pg) (is : Nat → Ins) (g h : Gu) (l m : List Int) (w : World) (hn : p.n ≤ 9223372036854775807) (hc : CodeAt w p is) (hl : IntsAt w g.s l) (hm : IntsAt w h.s m) (h0 : cg2 p is g h l m = 0) :
    Calls Tryz.prog 12 #[p.v, g.v, h.v] w fun e w' => e = .returned (.tuple #[.bool (insideG g h l m), .int .i64 0]) ∧ Below w.heap.size w w' := by
  have HR := Lib.hid (fun (b : Nat) (w' : World) (hb : Below w.heap.size w w') (hh : w'.heap[b]? = some (.cells (g.cells ++ h.cells).toArray 29 (0, 0))) => (show Calls Tryz.prog 20 #[p.v, .slice (some ⟨b, 0, none⟩) 2 2] w' fun e w2 => e = .returned (.int .i64 (cg2 p is g h l m)) ∧ Below w'.heap.size w' w2 from ready_any p is (some ⟨b, 0, none⟩) 2 2 (pick2 g h) (pick2 l m) w' hn (hc.grow hb) (gus2 hh (hl.grow hb) (hm.grow hb))))
  rw [h0] at HR
  have HI := Lib.hid (fun w' (hb : Below w.heap.size w w') => ginside_any g h l m w' (hl.grow hb) (hm.grow hb))
  clear hc hl hm h0
  generalize insideG g h l m = x at HI ⊢
  have hL := Loc.start w
  go_enter Tryz.func12, Tryz.ntmps12
  go_wp2_with (first | (with_reducible refine lld hL ?_) | ((with_reducible first | refine lbx hL ?_ | refine lal hL ?_ | refine lbs hL ?_); clear hL; intro bl w1 hL) | ((with_reducible refine lst' hL ?_); clear hL; intro w1 hL) | (go_at_call 20; refine (HR.out bl _ hL.below (hL.heap (by repeat (first | exact InL.head | apply InL.tail)))).mono ?_; rintro e w1 ⟨rfl, hb⟩; replace hL := hL.grow hb; clear hb; dsimp only) | (go_at_call 37; refine (HI.out _ hL.below).mono ?_; rintro e w1 ⟨rfl, hb⟩; replace hL := hL.grow hb; clear hb; dsimp only))
  (try simp only [Exit.inBlock, Exit.then]); refine' ret2 rfl ?_ ?_ rfl ?_; (case refine'_3 => exact cRes); (case refine'_4 => exact cRes)
  exact ⟨rfl, hL.below⟩
set_option maxRecDepth 100000 in
set_option maxHeartbeats 4000000 in
theorem gTruth_ok (p : Pg) (is : Nat → Ins) (g : Gu) (l : List Int) (w : World) (hn : p.n ≤ 9223372036854775807) (hc : CodeAt w p is) (hl : IntsAt w g.s l) (h0 : cg1 p is g l = 0) :
    Calls Tryz.prog 14 #[p.v, g.v] w fun e w' => e = .returned (.tuple #[.bool (yesG g), .bool (noG g), .int .i64 0]) ∧ Below w.heap.size w w' := by
  have HR := Lib.hid (fun (b : Nat) (w' : World) (hb : Below w.heap.size w w') (hh : w'.heap[b]? = some (.cells g.cells.toArray 29 (0, 0))) => (show Calls Tryz.prog 20 #[p.v, .slice (some ⟨b, 0, none⟩) 1 1] w' fun e w2 => e = .returned (.int .i64 (cg1 p is g l)) ∧ Below w'.heap.size w' w2 from ready_any p is (some ⟨b, 0, none⟩) 1 1 (fun _ => g) (fun _ => l) w' hn (hc.grow hb) (gus1 hh (hl.grow hb))))
  rw [h0] at HR
  have HI := Lib.hid (fun w' => gcounts_any g w')
  clear hc hl h0
  generalize yesG g = x at HI ⊢
  generalize noG g = y at HI ⊢
  have hL := Loc.start w
  go_enter Tryz.func14, Tryz.ntmps14
  go_wp2_with (first | (with_reducible refine lld hL ?_) | ((with_reducible first | refine lbx hL ?_ | refine lal hL ?_ | refine lbs hL ?_); clear hL; intro bl w1 hL) | ((with_reducible refine lst' hL ?_); clear hL; intro w1 hL) | (go_at_call 20; refine (HR.out bl _ hL.below (hL.heap (by repeat (first | exact InL.head | apply InL.tail)))).mono ?_; rintro e w1 ⟨rfl, hb⟩; replace hL := hL.grow hb; clear hb; dsimp only) | (go_at_call 39; refine (HI.out _).mono ?_; rintro e w1 ⟨rfl, hb⟩; replace hL := hL.grow hb; clear hb; dsimp only))
  (try simp only [Exit.inBlock, Exit.then]); refine' ret3 rfl ?_ ?_ ?_ rfl ?_; (case refine'_4 => exact cRes); (case refine'_5 => exact cRes); (case refine'_6 => exact cRes)
  exact ⟨rfl, hL.below⟩
set_option maxRecDepth 100000 in
set_option maxHeartbeats 4000000 in
theorem gHolds_kind (p : Pg) (is : Nat → Ins) (g : Gu) (l : List Int) (w : World) (hn : p.n ≤ 9223372036854775807) (hc : CodeAt w p is) (hl : IntsAt w g.s l) (v : Vl) (site : Int) (h0 : cg1 p is g l = 0) (hk : betw v.kind 0 3 = false) :
    Calls Tryz.prog 13 #[p.v, g.v, v.v, .int .i64 site] w fun e w' => e = .returned (.tuple #[.bool false, .int .i64 6]) ∧ Below w.heap.size w w' := by
  have HR := Lib.hid (fun (b : Nat) (w' : World) (hb : Below w.heap.size w w') (hh : w'.heap[b]? = some (.cells g.cells.toArray 29 (0, 0))) => (show Calls Tryz.prog 20 #[p.v, .slice (some ⟨b, 0, none⟩) 1 1] w' fun e w2 => e = .returned (.int .i64 (cg1 p is g l)) ∧ Below w'.heap.size w' w2 from ready_any p is (some ⟨b, 0, none⟩) 1 1 (fun _ => g) (fun _ => l) w' hn (hc.grow hb) (gus1 hh (hl.grow hb))))
  rw [h0] at HR
  obtain ⟨k, n⟩ := v
  have hk2 : k < 0 ∨ 3 < k := by simp [betw] at hk; omega
  have HK2 := Lib.hid hk2
  clear hc hl h0 hk hk2
  have hL := Loc.start w
  go_enter Tryz.func13, Tryz.ntmps13
  go_upto_region 4 with (first | (with_reducible refine lld hL ?_) | ((with_reducible first | refine lbx hL ?_ | refine lal hL ?_ | refine lbs hL ?_); clear hL; intro bl w1 hL) | ((with_reducible refine lst' hL ?_); clear hL; intro w1 hL) | (go_at_call 20; refine (HR.out bl _ hL.below (hL.heap (by repeat (first | exact InL.head | apply InL.tail)))).mono ?_; rintro e w1 ⟨rfl, hb⟩; replace hL := hL.grow hb; clear hb; dsimp only))
  refine seq_begin [18, 19, 20, 21, 22, 23, 24, 25] ?_
  apply draw_val
  · intro g w hb hdep; replace hL := hL.grow hb; clear hdep; simp only [fillD, fLa, fLb, sTa, sTb]
    go_wp2
    exact cY
  simp only [apN, apC]
  apply draw_val
  · intro g w hb hdep; replace hL := hL.grow hb; have d0 := yv hdep 0; clear hdep; simp only [fillD, fLa, fLb, sTa, sTb]; simp only [d0]
    go_wp2_with (first | (with_reducible refine lld hL ?_) | (with_reducible refine ldD hL ?_))
    exact cY
  simp only [apN, apC]
  apply draw_val
  · intro g w hb hdep; replace hL := hL.grow hb; have d1 := yv hdep 1; clear hdep; simp only [fillD, fLa, fLb, sTa, sTb]; simp only [d1]
    go_wp2
    exact cY
  simp only [apN, apC]
  apply draw_val
  · intro g w hb hdep; replace hL := hL.grow hb; have d2 := yv hdep 2; clear hdep; simp only [fillD, fLa, fLb, sTa, sTb]; simp only [d2]
    go_wp2
    exact cY
  simp only [apN, apC]
  refine' draw_guard (j := 3) rfl rfl rfl (by decide) (by simp) ?_ ?_; rotate_left
  · intro hcs; simp only [Bool.and_eq_true, beqT, beqF] at hcs; intro g w hb hdep; replace hL := hL.grow hb; clear hdep; simp only [fillD, fLa, fLb, sTa, sTb]
    go_wp2
    exact cY
  simp only [apN, apC]
  refine' draw_guard (j := 3) rfl rfl rfl (by decide) (by simp) ?_ ?_; rotate_left
  · intro hcs; simp only [Bool.and_eq_true, beqT, beqF] at hcs; intro g w hb hdep; replace hL := hL.grow hb; have d4 := yv hdep 4; simp only [hcs, beq_self_eq_true, Bool.and_self, Bool.true_and, Bool.and_true, cnd_true] at d4; clear hdep; simp only [fillD, fLa, fLb, sTa, sTb]; simp only [d4]
    go_wp2_with (first | (with_reducible refine lld hL ?_) | (with_reducible refine ldD hL ?_))
    exact cY
  simp only [apN, apC]
  refine' draw_guard (j := 3) rfl rfl rfl (by decide) (by simp) ?_ ?_; rotate_left
  · intro hcs; simp only [Bool.and_eq_true, beqT, beqF] at hcs; intro g w hb hdep; replace hL := hL.grow hb; have d5 := yv hdep 5; simp only [hcs, beq_self_eq_true, Bool.and_self, Bool.true_and, Bool.and_true, cnd_true] at d5; clear hdep; simp only [fillD, fLa, fLb, sTa, sTb]; simp only [d5]
    go_wp2
    exact cY
  simp only [apN, apC]
  apply draw_val
  · intro g w hb hdep; replace hL := hL.grow hb; have d3 := yv hdep 3; have d6 := yv hdep 6; clear hdep; simp only [fillD, fLa, fLb, sTa, sTb]; simp only [d3, d6]
    first | refine wp_pick_or rfl rfl ?_ | go_wp2
    exact cY
  simp only [apN, apC]
  refine seq_end hL (by kernel_rfl) ?_
  intro g w2 hb hR; simp only [List.length_cons, List.length_nil, Nat.reduceAdd] at hR
  have e0 := yv hR 0
  have e1 := yv hR 1
  have e2 := yv hR 2
  have e3 := yv hR 3
  have e4 := yv hR 4
  have e5 := yv hR 5
  have e6 := yv hR 6
  have e7 := yv hR 7
  clear hR; simp only [fillD, fLa, fLb, sTa, sTb]
  simp only [e0, e1, e2, e3, e4, e5, e6, e7]
  clear e0 e1 e2 e3 e4 e5 e6 e7
  replace hL := hL.grow hb
  clear hb
  rw [show (decide (k < 0) || decide (3 < k)) = true by have := HK2.out; simp; omega]
  go_wp2_with (first | (with_reducible refine lld hL ?_) | ((with_reducible first | refine lbx hL ?_ | refine lal hL ?_ | refine lbs hL ?_); clear hL; intro bl w1 hL) | ((with_reducible refine lst' hL ?_); clear hL; intro w1 hL))
  (try simp only [Exit.inBlock, Exit.then]); refine' ret2 rfl ?_ ?_ rfl ?_; (case refine'_3 => exact cRes); (case refine'_4 => exact cRes)
  exact ⟨rfl, hL.below⟩
set_option maxRecDepth 100000 in
set_option maxHeartbeats 4000000 in
theorem gHolds_ok (p : Pg) (is : Nat → Ins) (g : Gu) (l : List Int) (w : World) (hn : p.n ≤ 9223372036854775807) (hc : CodeAt w p is) (hl : IntsAt w g.s l) (v : Vl) (site : Int) (h0 : cg1 p is g l = 0) (hk : betw v.kind 0 3 = true) :
    Calls Tryz.prog 13 #[p.v, g.v, v.v, .int .i64 site] w fun e w' => e = .returned (.tuple #[.bool (held g l v site), .int .i64 0]) ∧ Below w.heap.size w w' := by
  have HR := Lib.hid (fun (b : Nat) (w' : World) (hb : Below w.heap.size w w') (hh : w'.heap[b]? = some (.cells g.cells.toArray 29 (0, 0))) => (show Calls Tryz.prog 20 #[p.v, .slice (some ⟨b, 0, none⟩) 1 1] w' fun e w2 => e = .returned (.int .i64 (cg1 p is g l)) ∧ Below w'.heap.size w' w2 from ready_any p is (some ⟨b, 0, none⟩) 1 1 (fun _ => g) (fun _ => l) w' hn (hc.grow hb) (gus1 hh (hl.grow hb))))
  rw [h0] at HR
  have HI := Lib.hid (fun w' (hb : Below w.heap.size w w') => gheld_any g l v site w' (hl.grow hb))
  obtain ⟨k, n⟩ := v
  have h1 : 0 ≤ k := by simp [betw] at hk; omega
  have h2 : k ≤ 3 := by simp [betw] at hk; omega
  clear hc hl h0 hk
  generalize held g l ⟨k, n⟩ site = x at HI ⊢
  have hL := Loc.start w
  go_enter Tryz.func13, Tryz.ntmps13
  go_upto_region 4 with (first | (with_reducible refine lld hL ?_) | ((with_reducible first | refine lbx hL ?_ | refine lal hL ?_ | refine lbs hL ?_); clear hL; intro bl w1 hL) | ((with_reducible refine lst' hL ?_); clear hL; intro w1 hL) | (go_at_call 20; refine (HR.out bl _ hL.below (hL.heap (by repeat (first | exact InL.head | apply InL.tail)))).mono ?_; rintro e w1 ⟨rfl, hb⟩; replace hL := hL.grow hb; clear hb; dsimp only))
  refine seq_begin [18, 19, 20, 21, 22, 23, 24, 25] ?_
  apply draw_val
  · intro g w hb hdep; replace hL := hL.grow hb; clear hdep; simp only [fillD, fLa, fLb, sTa, sTb]
    go_wp2
    exact cY
  simp only [apN, apC]
  apply draw_val
  · intro g w hb hdep; replace hL := hL.grow hb; have d0 := yv hdep 0; clear hdep; simp only [fillD, fLa, fLb, sTa, sTb]; simp only [d0]
    go_wp2_with (first | (with_reducible refine lld hL ?_) | (with_reducible refine ldD hL ?_))
    exact cY
  simp only [apN, apC]
  apply draw_val
  · intro g w hb hdep; replace hL := hL.grow hb; have d1 := yv hdep 1; clear hdep; simp only [fillD, fLa, fLb, sTa, sTb]; simp only [d1]
    go_wp2
    exact cY
  simp only [apN, apC]
  apply draw_val
  · intro g w hb hdep; replace hL := hL.grow hb; have d2 := yv hdep 2; clear hdep; simp only [fillD, fLa, fLb, sTa, sTb]; simp only [d2]
    go_wp2
    exact cY
  simp only [apN, apC]
  refine' draw_guard (j := 3) rfl rfl rfl (by decide) (by simp) ?_ ?_; rotate_left
  · intro hcs; simp only [Bool.and_eq_true, beqT, beqF] at hcs; intro g w hb hdep; replace hL := hL.grow hb; clear hdep; simp only [fillD, fLa, fLb, sTa, sTb]
    go_wp2
    exact cY
  simp only [apN, apC]
  refine' draw_guard (j := 3) rfl rfl rfl (by decide) (by simp) ?_ ?_; rotate_left
  · intro hcs; simp only [Bool.and_eq_true, beqT, beqF] at hcs; intro g w hb hdep; replace hL := hL.grow hb; have d4 := yv hdep 4; simp only [hcs, beq_self_eq_true, Bool.and_self, Bool.true_and, Bool.and_true, cnd_true] at d4; clear hdep; simp only [fillD, fLa, fLb, sTa, sTb]; simp only [d4]
    go_wp2_with (first | (with_reducible refine lld hL ?_) | (with_reducible refine ldD hL ?_))
    exact cY
  simp only [apN, apC]
  refine' draw_guard (j := 3) rfl rfl rfl (by decide) (by simp) ?_ ?_; rotate_left
  · intro hcs; simp only [Bool.and_eq_true, beqT, beqF] at hcs; intro g w hb hdep; replace hL := hL.grow hb; have d5 := yv hdep 5; simp only [hcs, beq_self_eq_true, Bool.and_self, Bool.true_and, Bool.and_true, cnd_true] at d5; clear hdep; simp only [fillD, fLa, fLb, sTa, sTb]; simp only [d5]
    go_wp2
    exact cY
  simp only [apN, apC]
  apply draw_val
  · intro g w hb hdep; replace hL := hL.grow hb; have d3 := yv hdep 3; have d6 := yv hdep 6; clear hdep; simp only [fillD, fLa, fLb, sTa, sTb]; simp only [d3, d6]
    first | refine wp_pick_or rfl rfl ?_ | go_wp2
    exact cY
  simp only [apN, apC]
  refine seq_end hL (by kernel_rfl) ?_
  intro g w2 hb hR; simp only [List.length_cons, List.length_nil, Nat.reduceAdd] at hR
  have e0 := yv hR 0
  have e1 := yv hR 1
  have e2 := yv hR 2
  have e3 := yv hR 3
  have e4 := yv hR 4
  have e5 := yv hR 5
  have e6 := yv hR 6
  have e7 := yv hR 7
  clear hR; simp only [fillD, fLa, fLb, sTa, sTb]
  simp only [e0, e1, e2, e3, e4, e5, e6, e7]
  clear e0 e1 e2 e3 e4 e5 e6 e7
  replace hL := hL.grow hb
  clear hb
  rw [show (decide (k < 0) || decide (3 < k)) = false by simp; omega]
  go_wp2_with (first | (with_reducible refine lld hL ?_) | ((with_reducible first | refine lbx hL ?_ | refine lal hL ?_ | refine lbs hL ?_); clear hL; intro bl w1 hL) | ((with_reducible refine lst' hL ?_); clear hL; intro w1 hL) | (go_at_call 38; refine (HI.out _ hL.below).mono ?_; rintro e w1 ⟨rfl, hb⟩; replace hL := hL.grow hb; clear hb; dsimp only))
  (try simp only [Exit.inBlock, Exit.then]); refine' ret2 rfl ?_ ?_ rfl ?_; (case refine'_3 => exact cRes); (case refine'_4 => exact cRes)
  exact ⟨rfl, hL.below⟩
set_option maxRecDepth 100000 in
set_option maxHeartbeats 4000000 in
theorem gDo_kind (p : Pg) (is : Nat → Ins) (g h : Gu) (l m : List Int) (w : World) (hn : p.n ≤ 9223372036854775807) (hc : CodeAt w p is) (hl : IntsAt w g.s l) (hm : IntsAt w h.s m) (k : Int) (h0 : cg2 p is g h l m = 0) (hk : betw k 4 10 = false) :
    Calls Tryz.prog 5 #[p.v, .int .i64 k, g.v, h.v] w fun e w' => e = .returned (.tuple #[zeroG.v, .bool false, .int .i64 6]) ∧ Below w.heap.size w w' := by
  have HR := Lib.hid (fun (b : Nat) (w' : World) (hb : Below w.heap.size w w') (hh : w'.heap[b]? = some (.cells (g.cells ++ h.cells).toArray 29 (0, 0))) => (show Calls Tryz.prog 20 #[p.v, .slice (some ⟨b, 0, none⟩) 2 2] w' fun e w2 => e = .returned (.int .i64 (cg2 p is g h l m)) ∧ Below w'.heap.size w' w2 from ready_any p is (some ⟨b, 0, none⟩) 2 2 (pick2 g h) (pick2 l m) w' hn (hc.grow hb) (gus2 hh (hl.grow hb) (hm.grow hb))))
  rw [h0] at HR
  have HK := Lib.hid (fun w' => hk ▸ gIs_any k w')
  clear hc hl hm h0 hk
  have hL := Loc.start w
  go_enter Tryz.func5, Tryz.ntmps5
  go_wp2_with (first | (with_reducible refine lld hL ?_) | ((with_reducible first | refine lbx hL ?_ | refine lal hL ?_ | refine lbs hL ?_); clear hL; intro bl w1 hL) | ((with_reducible refine lst' hL ?_); clear hL; intro w1 hL) | (go_at_call 20; refine (HR.out bl _ hL.below (hL.heap (by repeat (first | exact InL.head | apply InL.tail)))).mono ?_; rintro e w1 ⟨rfl, hb⟩; replace hL := hL.grow hb; clear hb; dsimp only) | (go_at_call 21; refine (HK.out _).mono ?_; rintro e w1 ⟨rfl, hb⟩; replace hL := hL.grow hb; clear hb; dsimp only))
  (try simp only [Exit.inBlock, Exit.then]); refine' ret3 rfl ?_ ?_ ?_ rfl ?_; (case refine'_4 => exact cRes); (case refine'_5 => exact cRes); (case refine'_6 => exact cRes)
  exact ⟨rfl, hL.below⟩
set_option maxRecDepth 100000 in
set_option maxHeartbeats 4000000 in
theorem gDo_ok (p : Pg) (is : Nat → Ins) (g h : Gu) (l m : List Int) (w : World) (hn : p.n ≤ 9223372036854775807) (hc : CodeAt w p is) (hl : IntsAt w g.s l) (hm : IntsAt w h.s m) (k : Int) (h0 : cg2 p is g h l m = 0) (hk : betw k 4 10 = true) :
    Calls Tryz.prog 5 #[p.v, .int .i64 k, g.v, h.v] w fun e w' => ∃ r : Sl, e = .returned (.tuple #[((madeG k g h l m).1.gu r).v, .bool (madeG k g h l m).2, .int .i64 0]) ∧ OwnI w.heap.size w' r (madeG k g h l m).1.l ∧ Below w.heap.size w w' := by
  have HR := Lib.hid (fun (b : Nat) (w' : World) (hb : Below w.heap.size w w') (hh : w'.heap[b]? = some (.cells (g.cells ++ h.cells).toArray 29 (0, 0))) => (show Calls Tryz.prog 20 #[p.v, .slice (some ⟨b, 0, none⟩) 2 2] w' fun e w2 => e = .returned (.int .i64 (cg2 p is g h l m)) ∧ Below w'.heap.size w' w2 from ready_any p is (some ⟨b, 0, none⟩) 2 2 (pick2 g h) (pick2 l m) w' hn (hc.grow hb) (gus2 hh (hl.grow hb) (hm.grow hb))))
  rw [h0] at HR
  have HK := Lib.hid (fun w' => hk ▸ gIs_any k w')
  obtain ⟨q1, q2, q3⟩ := cg2_zero h0
  have HM := Lib.hid (fun w' (hb : Below w.heap.size w w') => made_all k g h l m w' hk (RightGu.of q2 q1 hl.n) (RightGu.of q3 q1 hm.n) (hl.grow hb) (hm.grow hb))
  clear hc hl hm h0 hk q1 q2 q3
  generalize madeG k g h l m = mg at HM ⊢
  obtain ⟨⟨dn, ⟨en, elo, ehi⟩, dt, df, dl⟩, wr⟩ := mg
  dsimp only [Res.gu] at HM ⊢
  have hL := Loc.start w
  go_enter Tryz.func5, Tryz.ntmps5
  go_wp2_with (first | (with_reducible refine lld hL ?_) | ((with_reducible first | refine lbx hL ?_ | refine lal hL ?_ | refine lbs hL ?_); clear hL; intro bl w1 hL) | ((with_reducible refine lst' hL ?_); clear hL; intro w1 hL) | (go_at_call 20; refine (HR.out bl _ hL.below (hL.heap (by repeat (first | exact InL.head | apply InL.tail)))).mono ?_; rintro e w1 ⟨rfl, hb⟩; replace hL := hL.grow hb; clear hb; dsimp only) | (go_at_call 21; refine (HK.out _).mono ?_; rintro e w1 ⟨rfl, hb⟩; replace hL := hL.grow hb; clear hb; dsimp only) | (go_at_call 22; refine (HM.out _ hL.below).mono ?_; rintro e w3 ⟨r, rfl, ⟨R, hr, ho⟩, hb3⟩; replace hL := hL.gainTail hb3 ho; simp only [List.cons_append, List.nil_append] at hL; clear hb3 ho; dsimp only))
  (try simp only [Exit.inBlock, Exit.then]); refine' ret3 rfl ?_ ?_ ?_ rfl ?_; (case refine'_4 => exact cRes); (case refine'_5 => exact cRes); (case refine'_6 => exact cRes)
  exact ⟨r, rfl, ⟨R, hr, hL.ownOf (List.sublist_append_right [_, _, _, _, _, _] _)⟩, hL.below⟩
end Go.Proofs.YteimpfplgdhclaaGreat
