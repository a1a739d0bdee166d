/- The walks over Heads and the reference's HeadsOf. Conditions: the instructions lie in memory; the slice's length is within its room. -/
import Derived.Test.YtdghcnopoanieaaDoorHeadsP
import Derived.Test.YtdghcnopoanieaaDoorSlicesI
import Derived.Test.YtdghcnopoanieaaDoorSliceLo
import Derived.Test.YtdghcnopoanieaaDoorRPrint2
import Derived.Test.YtdghcnopoanieaaDoorVal
set_option linter.unusedSimpArgs false
set_option linter.unusedVariables false
namespace Go.Proofs.YtdghcnopoanieaaDoor
open Go.RowKit

theorem zIntH : ZeroT Tryd.prog 3 [.int .i64 0] := ⟨by kernel_rfl⟩
theorem enterH : ∀ args w, (callFunc 31 args).run Tryd.prog w = .ok (.enter 31 args) w := fun args w => by kernel_rfl
set_option maxRecDepth 100000 in
set_option maxHeartbeats 400000 in
theorem jumps_any (k : Int) (w : World) :
    Calls Tryd.prog 32 #[.int .i64 k] w fun e w' => e = .returned (.bool (nGoto k)) ∧ Below w.heap.size w w' := by
  have hL := Loc.start w
  go_enter Tryd.func32, Tryd.ntmps32
  go_upto_region 1 with (fail)
  refine seq_begin [3, 4, 5, 6, 7, 8, 2] ?_
  refine dv0 ?_
  refine dv1 0 ?_
  refine dv1 1 ?_
  refine dg0 2 ?_
  refine dg1 2 3 ?_
  refine dpo 2 4 ?_
  refine dv1 5 ?_
  refine dns hL ?_
  clear hL; intro w2 hL; simp only [fillX, sTa, sTb]
  go_wp2
  (try simp only [Exit.inBlock, Exit.then]); refine rt1 ?_
  exact ⟨by rfl, hL.below⟩
set_option maxRecDepth 100000 in
set_option maxHeartbeats 800000 in
theorem heads1_any (i : Ins) (k b : Nat) (w : World) (hr : ReadsAt Tryd.prog 3 w b 0 (.int .i64 (k : Int))) :
    Calls Tryd.prog 31 #[i.v, .pointer (some ⟨b, 0, none⟩)] w fun e w' => e = .returned (.bool (hits i k)) ∧ Below w.heap.size w w' := by
  have HJ := Lib.hid (fun w' => jumps_any i.kind w')
  have HR := Lib.hid hr
  clear hr
  have HF := Lib.hid (show hits i k = (nGoto i.kind && i.goto == (k : Int)) from rfl)
  obtain ⟨ki, to', ia, ib, iN, ig⟩ := i
  dsimp only at HJ HF
  generalize nGoto ki = ng at HJ HF
  have hL := Loc.start w
  go_enter Tryd.func31, Tryd.ntmps31
  cases ng with
  | true =>
    by_cases hg : ig = (k : Int)
    · subst hg
      go_wp2_with (first | (go_at_call 32; refine (HJ.out _).mono ?_; rintro e w1 ⟨rfl, hb⟩; replace hL := hL.grow hb; clear hb; dsimp only) | (with_reducible refine ldB HR.out hL ?_) | (with_reducible first | refine lld hL ?_ | ((first | refine lbx hL ?_ | refine lal hL ?_ | refine lbs hL ?_); clear hL; intro bl w1 hL) | (refine lst' hL ?_; clear hL; intro w1 hL)))
      (try simp only [Exit.inBlock, Exit.then]); refine rt1 ?_
      exact ⟨by rw [HF.out]; simp, hL.below⟩
    · have hb : (ig == (k : Int)) = false := by simpa using hg
      go_wp2_with (first | (go_at_call 32; refine (HJ.out _).mono ?_; rintro e w1 ⟨rfl, hb⟩; replace hL := hL.grow hb; clear hb; dsimp only) | (with_reducible refine ldB HR.out hL ?_) | (with_reducible first | refine lld hL ?_ | ((first | refine lbx hL ?_ | refine lal hL ?_ | refine lbs hL ?_); clear hL; intro bl w1 hL) | (refine lst' hL ?_; clear hL; intro w1 hL)))
      (try simp only [Exit.inBlock, Exit.then]); refine rt1 ?_
      exact ⟨by rw [HF.out]; simp [hb], hL.below⟩
  | false =>
    go_wp2_with (first | (go_at_call 32; refine (HJ.out _).mono ?_; rintro e w1 ⟨rfl, hb⟩; replace hL := hL.grow hb; clear hb; dsimp only) | (with_reducible refine ldB HR.out hL ?_) | (with_reducible first | refine lld hL ?_ | ((first | refine lbx hL ?_ | refine lal hL ?_ | refine lbs hL ?_); clear hL; intro bl w1 hL) | (refine lst' hL ?_; clear hL; intro w1 hL)))
    (try simp only [Exit.inBlock, Exit.then]); refine rt1 ?_
    exact ⟨by rw [HF.out]; simp, hL.below⟩

set_option maxRecDepth 100000 in
set_option maxHeartbeats 800000 in
theorem heads_bad (v f : Int) (pc : Option Addr) (cap : Nat) (is : List Ins) (hm : is.length ≤ 9223372036854775807) (hz : ¬ checkL v f is = 0) (w : World) (hc : CodeAt w ⟨v, f, pc, is.length, cap⟩ (insAt is)) :
    Calls Tryd.prog 11 #[Pg.v ⟨v, f, pc, is.length, cap⟩] w fun e w' => e = .returned (.tuple #[.slice none 0 0, .int .i64 (checkL v f is)]) ∧ Below w.heap.size w w' := by
  have HCK := Lib.hid (fun w' (hb' : Below w.heap.size w w') => codeCheck_any ⟨v, f, pc, is.length, cap⟩ (insAt is) w' (hc.grow hb') hm)
  rw [show checkProg ⟨v, f, pc, is.length, cap⟩ (insAt is) = checkL v f is from rfl] at HCK
  clear hc hm
  generalize checkL v f is = c at *
  generalize is.length = n at *
  have hL := Loc.start w
  go_enter Tryd.func11, Tryd.ntmps11
  go_wp2_with (first | (go_at_call 15; refine (HCK.out _ hL.below).mono ?_; rintro e w1 ⟨rfl, hb⟩; replace hL := hL.grow hb; clear hb; dsimp only) | (with_reducible first | refine lld hL ?_ | ((first | refine lbx hL ?_ | refine lal hL ?_ | refine lbs hL ?_); clear hL; intro bl w1 hL) | (refine lst' hL ?_; clear hL; intro w1 hL)))
  (try simp only [Exit.inBlock, Exit.then]); refine rt2 ?_
  exact ⟨rfl, hL.below⟩

set_option maxRecDepth 100000 in
set_option maxHeartbeats 1600000 in
theorem heads_good (v f : Int) (pc : Option Addr) (cap : Nat) (is : List Ins) (hz : checkL v f is = 0) (hcap : is.length ≤ cap) (w : World) (hc : CodeAt w ⟨v, f, pc, is.length, cap⟩ (insAt is)) :
    Calls Tryd.prog 11 #[Pg.v ⟨v, f, pc, is.length, cap⟩] w fun e w' => ∃ s : Sl, e = .returned (.tuple #[s.v, .int .i64 0]) ∧ IntsAt w' s (headsL is) ∧ Below w.heap.size w w' := by
  obtain ⟨hr, -⟩ := right_pg hz
  have hfew := hr.few
  clear hr
  have HCK := Lib.hid (fun w' (hb' : Below w.heap.size w w') => codeCheck_any ⟨v, f, pc, is.length, cap⟩ (insAt is) w' (hc.grow hb') (by show is.length ≤ _; omega))
  rw [show checkProg ⟨v, f, pc, is.length, cap⟩ (insAt is) = 0 from hz] at HCK
  clear hz
  obtain ⟨b, o, hpc, hcr⟩ := hc.reads
  dsimp only at hpc hcr
  have HP := Lib.hid hpc
  have HC := Lib.hid hcr
  have HLE := Lib.hid (headsUp_len is)
  have HQ := Lib.hid (fun k => show headQ is k = anyN (fun j => hits (insAt is (k + j)) k) (is.length - k) from rfl)
  have HU := Lib.hid (show headsL is = headsUp is is.length from rfl)
  clear hc hpc hcr
  generalize is.length = n at *
  have hL := Loc.start w
  go_enter Tryd.func11, Tryd.ntmps11
  go_step
  go_step
  go_step
  ((with_reducible refine lbx hL ?_); clear hL; intro b1 w1 hL)
  go_upto_region 5 with (first | (go_at_call 15; refine (HCK.out _ hL.below).mono ?_; rintro e w1 ⟨rfl, hb⟩; replace hL := hL.grow hb; clear hb; dsimp only) | (with_reducible first | refine lld hL ?_ | ((first | refine lbx hL ?_ | refine lal hL ?_ | refine lbs hL ?_); clear hL; intro bl w1 hL) | (refine lst' hL ?_; clear hL; intro w1 hL)))
  clear HCK
  refine seq_begin [12, 13, 14, 15] ?_
  refine dv0 ?_
  refine dv1 0 ?_
  refine dv1 1 ?_
  refine dv0 ?_
  refine dns hL ?_
  clear hL; intro w2 hL; simp only [fillX, sTa, sTb]
  go_wp2_with (first | (with_reducible first | refine lld hL ?_ | ((first | refine lbx hL ?_ | refine lal hL ?_ | refine lbs hL ?_); clear hL; intro bl w1 hL) | (refine lst' hL ?_; clear hL; intro w1 hL)))
  go_loopw [5, 15] (fun c5 c15 wr => ∃ k : Nat, k ≤ n ∧ c15 = .int .i64 k ∧ ∃ (p5 : Option Addr) (cap5 : Nat) (R : List LBlk), c5 = .slice p5 (headsUp is k).length cap5 ∧ RowS 3 1 p5 (headsUp is k).length cap5 ((headsUp is k).map (Value.int .i64)) R ∧ Loc w wr ([(b1, 24, [.int .i64 v, .int .i64 f, .slice pc n cap])] ++ R) []) (fun _ c _ => n - (intOf c).toNat)
  case atStart => exact ⟨0, Nat.zero_le _, rfl, none, 0, [], rfl, RowS.nil, hL⟩
  case round =>
    clear hL
    obtain ⟨k, hk, rfl, p5, cap5, R, rfl, hR, hL⟩ := hrel
    simp only [List.cons_append, List.nil_append] at hL
    have HR := Lib.hid hR
    clear hR
    by_cases hlt : k < n
    · have HPC := Lib.hid (HP.out (by omega))
      obtain rfl := HPC.out
      clear HPC HP
      have hlu := HLE.out k
      generalize hlen : (headsUp is k).length = m at *
      have HLN := Lib.hid hlen
      clear hlen
      go_upto_region 8 with (first | ((with_reducible refine loc_alloc (T := 3) hL want0 zIntH ?_); clear hL; intro b6 w1 hL) | (with_reducible first | refine lld hL ?_ | ((first | refine lbx hL ?_ | refine lal hL ?_ | refine lbs hL ?_); clear hL; intro bl w1 hL) | (refine lst' hL ?_; clear hL; intro w1 hL)))
      refine seq_begin [18, 19, 20, 21, 22] ?_
      refine dv0 ?_
      refine dv1 0 ?_
      refine dv0 ?_
      apply draw_val
      · intro g w hb hdep; replace hL := hL.grow hb; have d1 := yv hdep 1; have d2 := yv hdep 2; clear hdep; simp only [fillD, fLa, fLb, sTa, sTb]; simp only [d1, d2]
        (refine loc_sliceLo (ad := ⟨b, o, none⟩) (q := ⟨b, o + k * 6, none⟩) (l := k) (n := n) (c := cap) rfl sInstrs rfl rfl (by omega) (by omega) (by rw [add_addr]; rfl) ?_)
        exact cY
      simp only [apN, apC]
      refine dv0 ?_
      refine dns hL ?_
      clear hL; intro w2 hL; simp only [fillX, sTa, sTb]
      have hcl := containsInstrs (some ⟨b, o + k * 6, none⟩) (n - k) (cap - k) (fun j => (insAt is (k + j)).v) (fun j => hits (insAt is (k + j)) k) 31 (.pointer (some ⟨b6, 0, none⟩)) _ (by omega)
        ⟨⟨b, o + k * 6, fun _ => rfl, fun j hj => by have := (HC.out (k + j) (by omega)).grow hL.below; rwa [show o + (k + j) * 6 = o + k * 6 + j * 6 by omega] at this⟩⟩
        ⟨enterH, fun j _ w2 hb2 => heads1_any (insAt is (k + j)) k b6 w2 ((hL.readsAt (b := b6) (Tv := 3) (off := 0) (v := .int .i64 (k : Int)) (by repeat (first | exact InL.head | apply InL.tail)) (Reads.cell tInt rfl)).grow hb2)⟩
      rw [← HQ.out k] at hcl
      have HCL := Lib.hid hcl
      clear hcl
      cases hq : headQ is k with
      | true =>
        rw [hq] at HCL
        have HY := Lib.hid (headsUp_yes hq)
        clear hq
        go_wp2_with (first | (go_at_call 30; refine (HCL.out).mono ?_; rintro e w1 ⟨rfl, hb⟩; replace hL := hL.grow hb; clear hb; dsimp only) | (at_builtin; refine loc_appendS (K := _ :: _ :: _ :: []) (R := R) (news := [.int .i64 (k : Int)]) HR.out hL rfl rfl rfl sInts bInt (by decide) rfl ?_ rfl ?_ ?_ ?_ ?_; (case refine_1 => exact fun _ => ⟨⟨bl, 0, none⟩, rfl, fun j u hj => by rw [add_addr, Nat.zero_add]; exact (hL.cell (b := bl) (by repeat (first | exact InL.head | apply InL.tail)) j).trans hj⟩); (case refine_2 => simp [Value.oneCell']); (case refine_3 => (show m + 1 ≤ 9223372036854775807; omega)); (case refine_4 => omega); clear hL; intro p4 cap4 R4 w4 hR4 hL; simp only [List.cons_append, List.nil_append] at hL; have HR4 := Lib.hid hR4; clear hR4) | (with_reducible first | refine lld hL ?_ | ((first | refine lbx hL ?_ | refine lal hL ?_ | refine lbs hL ?_); clear hL; intro bl w1 hL) | (refine lst' hL ?_; clear hL; intro w1 hL)))
        go_roundw
        case rel => exact ⟨k + 1, by omega, by go_num, p4, cap4, R4, by rw [HY.out, List.length_append, HLN.out]; rfl, by rw [HY.out, List.length_append, HLN.out, List.map_append]; exact HR4.out, hL.drop (.cons _ (.cons _ (List.Sublist.refl _))) (fun _ h => h)⟩
        case measure => simp [intOf]; omega
      | false =>
        rw [hq] at HCL
        have HY := Lib.hid (headsUp_no hq)
        clear hq
        go_wp2_with (first | (go_at_call 30; refine (HCL.out).mono ?_; rintro e w1 ⟨rfl, hb⟩; replace hL := hL.grow hb; clear hb; dsimp only) | (with_reducible first | refine lld hL ?_ | ((first | refine lbx hL ?_ | refine lal hL ?_ | refine lbs hL ?_); clear hL; intro bl w1 hL) | (refine lst' hL ?_; clear hL; intro w1 hL)))
        go_roundw
        case rel => exact ⟨k + 1, by omega, by go_num, p5, cap5, R, by rw [HY.out, HLN.out], by rw [HY.out, HLN.out]; exact HR.out, hL.drop (.cons _ (List.Sublist.refl _)) (fun _ h => h)⟩
        case measure => simp [intOf]; omega
    · obtain rfl : k = n := by omega
      have hlu := HLE.out k
      go_wp2_with (first | (with_reducible first | refine lld hL ?_ | ((first | refine lbx hL ?_ | refine lal hL ?_ | refine lbs hL ?_); clear hL; intro bl w1 hL) | (refine lst' hL ?_; clear hL; intro w1 hL)))
      (try simp only [Exit.inBlock, Exit.then]); refine rt2 ?_
      exact ⟨⟨p5, _, cap5⟩, rfl, by rw [HU.out]; exact HR.out.ints (hL.ownOf (List.sublist_cons_self _ _)), hL.below⟩
/-- What Heads answers. -/
def headed (v f : Int) (is : List Ins) : List Int := if checkL v f is = 0 then headsL is else []
theorem heads_any (v f : Int) (pc : Option Addr) (cap : Nat) (is : List Ins) (hm : is.length ≤ 9223372036854775807) (hcap : is.length ≤ cap) (w : World) (hc : CodeAt w ⟨v, f, pc, is.length, cap⟩ (insAt is)) :
    Calls Tryd.prog 11 #[Pg.v ⟨v, f, pc, is.length, cap⟩] w fun e w' => ∃ s : Sl, e = .returned (.tuple #[s.v, .int .i64 (checkL v f is)]) ∧ IntsAt w' s (headed v f is) ∧ Below w.heap.size w w' := by
  unfold headed
  by_cases hz : checkL v f is = 0
  · rw [if_pos hz, hz]; exact heads_good v f pc cap is hz hcap w hc
  · rw [if_neg hz]
    refine (heads_bad v f pc cap is hm hz w hc).mono ?_
    rintro e w' ⟨rfl, hb⟩
    exact ⟨nilSl, rfl, IntsAt.nil _, hb⟩
end Go.Proofs.YtdghcnopoanieaaDoor
