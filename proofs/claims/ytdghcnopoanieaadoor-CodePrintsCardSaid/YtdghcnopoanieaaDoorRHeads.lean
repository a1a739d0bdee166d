/- The walk over the reference's HeadsOf. Conditions: the instructions lie in memory; at most 60 of them. -/
import Derived.Test.YtdghcnopoanieaaDoorHeadsW
set_option linter.unusedSimpArgs false
set_option linter.unusedVariables false
namespace Go.Proofs.YtdghcnopoanieaaDoor
open Go.RowKit

theorem inner_step (is : List Ins) (k m : Nat) : anyN (fun j => hits (insAt is (k + j)) k) (m + 1) = (anyN (fun j => hits (insAt is (k + j)) k) m || hits (insAt is (k + m)) k) := anyN_succ _ _
set_option maxRecDepth 100000 in
set_option maxHeartbeats 1600000 in
theorem rHeads_any (v f : Int) (pc : Option Addr) (cap : Nat) (is : List Ins) (hfew : is.length ≤ 60) (w : World) (hc : CodeAt w ⟨v, f, pc, is.length, cap⟩ (insAt is)) :
    Calls Tryd.prog 14 #[Pg.v ⟨v, f, pc, is.length, cap⟩] w fun e w' => ∃ s : Sl, e = .returned s.v ∧ IntsAt w' s (headsL is) ∧ Below w.heap.size w w' := by
  obtain ⟨b, o, hpc, hcr⟩ := hc
  dsimp only at hpc hcr
  have HP := Lib.hid hpc
  have HK := Lib.hid (show ∀ k, k < is.length → ReadsAt Tryd.prog 3 w b (o + k * 6) (.int .i64 (insAt is k).kind) from fun k hk => ReadsAt.cell tInt (hcr k hk).1 ((hcr k hk).2 0 _ rfl))
  have HJ := Lib.hid (show ∀ k, k < is.length → ReadsAt Tryd.prog 3 w b (o + k * 6 + 5) (.int .i64 (insAt is k).goto) from fun k hk => ReadsAt.cell tInt (hcr k hk).1 ((hcr k hk).2 5 _ rfl))
  have HLE := Lib.hid (headsUp_len is)
  have HQ := Lib.hid (fun k => show headQ is k = anyN (fun j => hits (insAt is (k + j)) k) (is.length - k) from rfl)
  have HU := Lib.hid (show headsL is = headsUp is is.length from rfl)
  clear hpc hcr
  generalize is.length = n at *
  have hL := Loc.start w
  go_enter Tryd.func14, Tryd.ntmps14
  go_step
  go_step
  go_step
  ((with_reducible refine lbx hL ?_); clear hL; intro b1 w1 hL)
  go_wp2_with (first | (with_reducible first | refine lld hL ?_ | ((first | refine lbx hL ?_ | refine lal hL ?_ | refine lbs hL ?_); clear hL; intro bl w1 hL) | (refine lst' hL ?_; clear hL; intro w1 hL)))
  go_loopw [3, 4] (fun c3 c4 wr => ∃ k : Nat, k ≤ n ∧ c4 = .int .i64 k ∧ ∃ (p5 : Option Addr) (cap5 : Nat) (R : List LBlk), c3 = .slice p5 (headsUp is k).length cap5 ∧ RowS 3 1 p5 (headsUp is k).length cap5 ((headsUp is k).map (Value.int .i64)) R ∧ Loc w wr ([(b1, 24, [.int .i64 v, .int .i64 f, .slice pc n cap])] ++ R) []) (fun _ c _ => n - (intOf c).toNat)
  case atStart => exact ⟨0, Nat.zero_le _, rfl, none, 0, [], rfl, RowS.nil, hL⟩
  case round =>
    clear hL
    obtain ⟨k, hk, rfl, p5, cap5, R, rfl, hR, hL⟩ := hrel
    simp only [List.cons_append, List.nil_append] at hL
    have HR := Lib.hid hR
    clear hR
    by_cases hlt : k < n
    · have HPC := Lib.hid (HP.out (by omega))
      obtain rfl := HPC.out
      clear HPC HP
      have hlu := HLE.out k
      generalize hlen : (headsUp is k).length = m at *
      have HLN := Lib.hid hlen
      clear hlen
      go_wp2_with (first | (with_reducible first | refine lld hL ?_ | ((first | refine lbx hL ?_ | refine lal hL ?_ | refine lbs hL ?_); clear hL; intro bl w1 hL) | (refine lst' hL ?_; clear hL; intro w1 hL)))
      go_loopw [5, 6] (fun c5 c6 wr => ∃ j : Nat, k + j ≤ n ∧ c6 = .int .i64 ((k + j : Nat) : Int) ∧ c5 = .bool (anyN (fun j => hits (insAt is (k + j)) k) j) ∧ Loc w wr ((b1, 24, [.int .i64 v, .int .i64 f, .slice (some ⟨b, o, none⟩) n cap]) :: R) []) (fun _ c _ => n - (intOf c).toNat)
      case atStart => exact ⟨0, by omega, rfl, rfl, hL⟩
      case round =>
        clear hL
        obtain ⟨j, hj, rfl, rfl, hL⟩ := hrel
        by_cases hjn : k + j < n
        · have HRK := Lib.hid (HK.out (k + j) hjn)
          have HRJ := Lib.hid (HJ.out (k + j) hjn)
          have hst := inner_step is k j
          unfold hits at hst
          rw [show anyN (fun j => nGoto (insAt is (k + j)).kind && (insAt is (k + j)).goto == (k : Int)) j = anyN (fun j => hits (insAt is (k + j)) k) j from rfl, show anyN (fun j => nGoto (insAt is (k + j)).kind && (insAt is (k + j)).goto == (k : Int)) (j + 1) = anyN (fun j => hits (insAt is (k + j)) k) (j + 1) from rfl] at hst
          have HST := Lib.hid hst
          clear hst
          generalize anyN (fun j => hits (insAt is (k + j)) k) j = acc at *
          generalize hi : insAt is (k + j) = ii at *
          clear hi
          obtain ⟨ki, to', ia, ib, iN, ig⟩ := ii
          dsimp only at HRK HRJ HST
          have HNG := Lib.hid (fun w' => rNamesGoto_any ki w')
          generalize nGoto ki = ng at HNG HST
          cases acc with
          | true =>
            go_wp2_with (first | (with_reducible first | refine lld hL ?_ | ((first | refine lbx hL ?_ | refine lal hL ?_ | refine lbs hL ?_); clear hL; intro bl w1 hL) | (refine lst' hL ?_; clear hL; intro w1 hL)))
            go_roundw
            case rel => exact ⟨j + 1, by omega, by go_num, by rw [HST.out]; rfl, hL⟩
            case measure => simp [intOf]; omega
          | false =>
            cases ng with
            | true =>
              by_cases hg : ig = (k : Int)
              · subst hg
                go_wp2_with (first | (go_at_call 37; refine (HNG.out _).mono ?_; rintro e w1 ⟨rfl, hb⟩; replace hL := hL.grow hb; clear hb; dsimp only) | (with_reducible refine ldB HRK.out hL ?_) | (with_reducible refine ldB HRJ.out hL ?_) | (with_reducible first | refine lld hL ?_ | ((first | refine lbx hL ?_ | refine lal hL ?_ | refine lbs hL ?_); clear hL; intro bl w1 hL) | (refine lst' hL ?_; clear hL; intro w1 hL)))
                go_roundw
                case rel => exact ⟨j + 1, by omega, by go_num, by rw [HST.out]; simp, hL⟩
                case measure => simp [intOf]; omega
              · have hb : (ig == (k : Int)) = false := by simpa using hg
                go_wp2_with (first | (go_at_call 37; refine (HNG.out _).mono ?_; rintro e w1 ⟨rfl, hb⟩; replace hL := hL.grow hb; clear hb; dsimp only) | (with_reducible refine ldB HRK.out hL ?_) | (with_reducible refine ldB HRJ.out hL ?_) | (with_reducible first | refine lld hL ?_ | ((first | refine lbx hL ?_ | refine lal hL ?_ | refine lbs hL ?_); clear hL; intro bl w1 hL) | (refine lst' hL ?_; clear hL; intro w1 hL)))
                go_roundw
                case rel => exact ⟨j + 1, by omega, by go_num, by rw [HST.out, hb]; rfl, hL⟩
                case measure => simp [intOf]; omega
            | false =>
              go_wp2_with (first | (go_at_call 37; refine (HNG.out _).mono ?_; rintro e w1 ⟨rfl, hb⟩; replace hL := hL.grow hb; clear hb; dsimp only) | (with_reducible refine ldB HRK.out hL ?_) | (with_reducible refine ldB HRJ.out hL ?_) | (with_reducible first | refine lld hL ?_ | ((first | refine lbx hL ?_ | refine lal hL ?_ | refine lbs hL ?_); clear hL; intro bl w1 hL) | (refine lst' hL ?_; clear hL; intro w1 hL)))
              go_roundw
              case rel => exact ⟨j + 1, by omega, by go_num, by rw [HST.out]; rfl, hL⟩
              case measure => simp [intOf]; omega
        · obtain rfl : j = n - k := by omega
          rw [← HQ.out k]
          cases hq : headQ is k with
          | true =>
            have HY := Lib.hid (headsUp_yes hq)
            clear hq
            go_wp2_with (first | (at_builtin; refine loc_appendS (K := _ :: _ :: []) (R := R) (news := [.int .i64 (k : Int)]) HR.out hL rfl rfl rfl sInts bInt (by decide) rfl ?_ rfl ?_ ?_ ?_ ?_; (case refine_1 => exact fun _ => ⟨⟨bl, 0, none⟩, rfl, fun j u hj => by rw [add_addr, Nat.zero_add]; exact (hL.cell (b := bl) (by repeat (first | exact InL.head | apply InL.tail)) j).trans hj⟩); (case refine_2 => simp [Value.oneCell']); (case refine_3 => (show m + 1 ≤ 9223372036854775807; omega)); (case refine_4 => omega); clear hL; intro p4 cap4 R4 w4 hR4 hL; simp only [List.cons_append, List.nil_append] at hL; have HR4 := Lib.hid hR4; clear hR4) | (with_reducible first | refine lld hL ?_ | ((first | refine lbx hL ?_ | refine lal hL ?_ | refine lbs hL ?_); clear hL; intro bl w1 hL) | (refine lst' hL ?_; clear hL; intro w1 hL)))
            go_roundw
            case rel => exact ⟨k + 1, by omega, by go_num, p4, cap4, R4, by rw [HY.out, List.length_append, HLN.out]; rfl, by rw [HY.out, List.length_append, HLN.out, List.map_append]; exact HR4.out, hL.drop (.cons _ (List.Sublist.refl _)) (fun _ h => h)⟩
            case measure => simp [intOf]; omega
          | false =>
            have HY := Lib.hid (headsUp_no hq)
            clear hq
            go_wp2_with (first | (with_reducible first | refine lld hL ?_ | ((first | refine lbx hL ?_ | refine lal hL ?_ | refine lbs hL ?_); clear hL; intro bl w1 hL) | (refine lst' hL ?_; clear hL; intro w1 hL)))
            go_roundw
            case rel => exact ⟨k + 1, by omega, by go_num, p5, cap5, R, by rw [HY.out, HLN.out], by rw [HY.out, HLN.out]; exact HR.out, hL⟩
            case measure => simp [intOf]; omega
    · obtain rfl : k = n := by omega
      have hlu := HLE.out k
      go_wp2_with (first | (with_reducible first | refine lld hL ?_ | ((first | refine lbx hL ?_ | refine lal hL ?_ | refine lbs hL ?_); clear hL; intro bl w1 hL) | (refine lst' hL ?_; clear hL; intro w1 hL)))
      (try simp only [Exit.inBlock, Exit.then]); refine rt1 ?_
      exact ⟨⟨p5, _, cap5⟩, rfl, by rw [HU.out]; exact HR.out.ints (hL.ownOf (List.sublist_cons_self _ _)), hL.below⟩
end Go.Proofs.YtdghcnopoanieaaDoor
