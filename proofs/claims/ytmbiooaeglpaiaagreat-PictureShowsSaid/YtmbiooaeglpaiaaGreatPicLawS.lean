/- The walks over the law PictureShows. Conditions: what they read lies in memory that was there. -/
import Derived.Test.YtmbiooaeglpaiaaGreatPicLaw
import Derived.Test.YtmbiooaeglpaiaaGreatPice
import Derived.Test.YtmbiooaeglpaiaaGreatRefPicV
import Derived.Test.YtmbiooaeglpaiaaGreatRefCheck
set_option linter.unusedSimpArgs false
set_option linter.unusedVariables false
namespace Go.Proofs.YtmbiooaeglpaiaaGreat
open Go.RowKit

/-- What comes in. -/
structure ShowIn (w : World) (p : Pg) (is : Nat → Ins) (x y : Pv) (d e : Pd) (r : Rn) (s : Rs) : Prop where
  n : p.n ≤ 9223372036854775807
  c : CodeAt w p is
  x : PicIs w x d
  y : PicIs w y e
  r : RunIs w r s
theorem pJoin_some (p : Pg) (is : Nat → Ins) (x y : Pv) (d e : Pd) (w : World) (hn : p.n ≤ 9223372036854775807) (hc : CodeAt w p is) (hx : PicIs w x d) (hy : PicIs w y e) :
    Calls Tryz.prog 10 #[p.v, x.v, y.v] w fun q w' => ∃ (r : Pv) (c : Int), q = .returned (.tuple #[r.v, .int .i64 c]) ∧ Below w.heap.size w w' := by
  by_cases h : cp2 p is d e = 0
  · exact (pJoin_ok p is x y d e w hn hc hx hy h).mono fun q w' ⟨r, h1, h2⟩ => ⟨r, 0, h1, h2.below⟩
  · exact (pJoin_err p is x y d e w hn hc hx hy h).mono fun q w' ⟨h1, h2⟩ => ⟨zeroP, _, h1, h2⟩
theorem pWiden_some (p : Pg) (is : Nat → Ins) (x y : Pv) (d e : Pd) (w : World) (hn : p.n ≤ 9223372036854775807) (hc : CodeAt w p is) (hx : PicIs w x d) (hy : PicIs w y e) :
    Calls Tryz.prog 11 #[p.v, x.v, y.v] w fun q w' => ∃ (r : Pv) (c : Int), q = .returned (.tuple #[r.v, .int .i64 c]) ∧ Below w.heap.size w w' := by
  by_cases h : cp2 p is d e = 0
  · exact (pWiden_ok p is x y d e w hn hc hx hy h).mono fun q w' ⟨r, h1, h2⟩ => ⟨r, 0, h1, h2.below⟩
  · exact (pWiden_err p is x y d e w hn hc hx hy h).mono fun q w' ⟨h1, h2⟩ => ⟨zeroP, _, h1, h2⟩
theorem cp2_of {p : Pg} {is : Nat → Ins} {d e : Pd} (h0 : checkProg p is = 0) (h1 : rightP p is d = 0) (h2 : rightP p is e = 0) : cp2 p is d e = 0 := by
  have a1 := cp1_of h0 h1
  have e1 : errs (checkProg p is) (fun k => rightP p is (pick2 d e k)) 1 = 0 := a1
  exact (errs_next (f := fun k => rightP p is (pick2 d e k)) (k := 1) e1).trans h2

set_option maxRecDepth 100000 in
set_option maxHeartbeats 4000000 in
theorem pshows_a (p : Pg) (is : Nat → Ins) (x y : Pv) (d e : Pd) (r : Rn) (s : Rs) (ths : Nat → Th) (w : World) (hi : ShowIn w p is x y d e r s) (hra : RunAt w r s.val ths s.field s.line) (hth : ∀ k, k < s.things.length → (ths k).site = (s.thing k).1 ∧ (ths k).fs.n = (s.thing k).2.length) (h1 : cp1 p is d ≠ 0) :
    Calls Tryz.prog 3 #[p.v, x.v, y.v, r.v] w fun q w' => q = .returned (.bool true) ∧ Below w.heap.size w w' := by
  obtain ⟨hn, hc, hx, hy, hr⟩ := hi
  have hnv := hr.nv
  have hnt := hr.nt
  have hpb := fun w' => picBegun_any w'
  have hr1 := fun (b : Nat) (w' : World) (hb : Below w.heap.size w w') (hh : w'.heap[b]? = some (.cells x.cells.toArray 28 (0, 0))) => (show Calls Tryz.prog 6 #[p.v, .slice (some ⟨b, 0, none⟩) 1 1] w' fun q w2 => q = .returned (.int .i64 (cp1 p is d)) ∧ Below w'.heap.size w' w2 from rCheckPictures_any p is (some ⟨b, 0, none⟩) 1 1 (fun _ => x) (fun _ => d) w' hn (hc.grow hb) (pics1 hh (hx.grow hb)))
  have hho := fun w' (hb : Below w.heap.size w w') => pHolds_err p is x d r w' hn (hc.grow hb) (hx.grow hb) h1
  have hjn := fun w' (hb : Below w.heap.size w w') => pJoin_some p is x y d e w' hn (hc.grow hb) (hx.grow hb) (hy.grow hb)
  have hwd := fun w' (hb : Below w.heap.size w w') => pWiden_some p is y x e d w' hn (hc.grow hb) (hy.grow hb) (hx.grow hb)
  generalize cp1 p is d = c at *
  have k0 : (c != 0) = true := by simpa using h1
  have k1 : (c == 0) = false := beq_eq_false_iff_ne.2 h1
  have k2 : (c != c) = false := by simp
  clear hx hy hr hc hth hra hnv hnt h1
  have HPB := Lib.hid hpb
  have HR1 := Lib.hid hr1
  have HHO := Lib.hid hho
  have HJN := Lib.hid hjn
  have HWD := Lib.hid hwd
  clear hpb hr1 hho hjn hwd
  obtain ⟨xn, ⟨xp, xvn, xc⟩, ⟨xfp, xfn, xfc⟩⟩ := x
  obtain ⟨yn, ⟨yp, yvn, yc⟩, ⟨yfp, yfn, yfc⟩⟩ := y
  obtain ⟨ra, ⟨rvp, rvn, rvc⟩, ⟨rtp, rtn, rtc⟩, rk, ⟨rlp, rln, rlc⟩, re⟩ := r
  have hL := Loc.start w
  go_enter Tryz.func3, Tryz.ntmps3
  go_wp2_with (first | (with_reducible refine lld hL ?_) | ((with_reducible first | refine lbx hL ?_ | refine lal hL ?_ | refine lbs hL ?_); clear hL; intro bl w1 hL) | ((with_reducible refine lst' hL ?_); clear hL; intro w1 hL) | (go_at_call 5; refine (HHO.out _ hL.below).mono ?_; rintro e w1 ⟨rfl, hb⟩; replace hL := hL.grow hb; clear hb; dsimp only) | (go_at_call 6; refine (HR1.out bl _ hL.below (hL.heap (by repeat (first | exact InL.head | apply InL.tail)))).mono ?_; rintro e w1 ⟨rfl, hb⟩; replace hL := hL.grow hb; clear hb; dsimp only) | (go_at_call 9; refine (HPB.out _).mono ?_; rintro e w1 ⟨rfl, hb⟩; replace hL := hL.grow hb; clear hb; dsimp only) | (go_at_call 10; refine (HJN.out _ hL.below).mono ?_; rintro e w3 ⟨⟨q2n, ⟨q2p, q2k, q2c⟩, ⟨q2fp, q2fk, q2fc⟩⟩, c2, rfl, hb3⟩; replace hL := hL.grow hb3; clear hb3; (try dsimp only)) | (go_at_call 11; refine (HWD.out _ hL.below).mono ?_; rintro e w3 ⟨⟨q3n, ⟨q3p, q3k, q3c⟩, ⟨q3fp, q3fk, q3fc⟩⟩, c3, rfl, hb3⟩; replace hL := hL.grow hb3; clear hb3; (try dsimp only)))
  (try simp only [Exit.inBlock, Exit.then]); refine' ret1 rfl ?_ rfl ?_; (case refine'_2 => exact cRes)
  exact ⟨rfl, hL.below⟩

set_option maxRecDepth 100000 in
set_option maxHeartbeats 4000000 in
theorem pshows_b (p : Pg) (is : Nat → Ins) (x y : Pv) (d e : Pd) (r : Rn) (s : Rs) (ths : Nat → Th) (w : World) (hi : ShowIn w p is x y d e r s) (hra : RunAt w r s.val ths s.field s.line) (hth : ∀ k, k < s.things.length → (ths k).site = (s.thing k).1 ∧ (ths k).fs.n = (s.thing k).2.length) (h1 : cp1 p is d = 0) (h2 : rightRun p is r s.val ths s.field ≠ 0) :
    Calls Tryz.prog 3 #[p.v, x.v, y.v, r.v] w fun q w' => q = .returned (.bool true) ∧ Below w.heap.size w w' := by
  obtain ⟨hn, hc, hx, hy, hr⟩ := hi
  have hnv := hr.nv
  have hnt := hr.nt
  have hpb := fun w' => picBegun_any w'
  have hr1 := fun (b : Nat) (w' : World) (hb : Below w.heap.size w w') (hh : w'.heap[b]? = some (.cells x.cells.toArray 28 (0, 0))) => (show Calls Tryz.prog 6 #[p.v, .slice (some ⟨b, 0, none⟩) 1 1] w' fun q w2 => q = .returned (.int .i64 (cp1 p is d)) ∧ Below w'.heap.size w' w2 from rCheckPictures_any p is (some ⟨b, 0, none⟩) 1 1 (fun _ => x) (fun _ => d) w' hn (hc.grow hb) (pics1 hh (hx.grow hb)))
  obtain ⟨h0, hdr⟩ := cp1_zero h1
  have hs := (prog_right h0).1
  have hcr := fun w' (hb : Below w.heap.size w w') => rCheckRun_any p is r s ths w' hn (hc.grow hb) (hra.grow hb) hth hnv hnt hs
  have hho := fun w' (hb : Below w.heap.size w w') => pHolds_run p is x d r s.val ths s.field w' hn (hc.grow hb) (hx.grow hb) (hra.l.grow hb) h1 h2
  rw [h1] at hr1
  have hjn := fun w' (hb : Below w.heap.size w w') => pJoin_some p is x y d e w' hn (hc.grow hb) (hx.grow hb) (hy.grow hb)
  have hwd := fun w' (hb : Below w.heap.size w w') => pWiden_some p is y x e d w' hn (hc.grow hb) (hy.grow hb) (hx.grow hb)
  generalize rightRun p is r s.val ths s.field = c at *
  have k0 : (c != 0) = true := by simpa using h2
  have k1 : (c == 0) = false := beq_eq_false_iff_ne.2 h2
  have k2 : (c != c) = false := by simp
  clear hx hy hr hc hth hra hnv hnt h2 h0 h1 hdr hs
  have HPB := Lib.hid hpb
  have HR1 := Lib.hid hr1
  have HHO := Lib.hid hho
  have HCR := Lib.hid hcr
  have HJN := Lib.hid hjn
  have HWD := Lib.hid hwd
  clear hpb hr1 hho hcr hjn hwd
  obtain ⟨xn, ⟨xp, xvn, xc⟩, ⟨xfp, xfn, xfc⟩⟩ := x
  obtain ⟨yn, ⟨yp, yvn, yc⟩, ⟨yfp, yfn, yfc⟩⟩ := y
  obtain ⟨ra, ⟨rvp, rvn, rvc⟩, ⟨rtp, rtn, rtc⟩, rk, ⟨rlp, rln, rlc⟩, re⟩ := r
  have hL := Loc.start w
  go_enter Tryz.func3, Tryz.ntmps3
  go_wp2_with (first | (with_reducible refine lld hL ?_) | ((with_reducible first | refine lbx hL ?_ | refine lal hL ?_ | refine lbs hL ?_); clear hL; intro bl w1 hL) | ((with_reducible refine lst' hL ?_); clear hL; intro w1 hL) | (go_at_call 5; refine (HHO.out _ hL.below).mono ?_; rintro e w1 ⟨rfl, hb⟩; replace hL := hL.grow hb; clear hb; dsimp only) | (go_at_call 6; refine (HR1.out bl _ hL.below (hL.heap (by repeat (first | exact InL.head | apply InL.tail)))).mono ?_; rintro e w1 ⟨rfl, hb⟩; replace hL := hL.grow hb; clear hb; dsimp only) | (go_at_call 9; refine (HPB.out _).mono ?_; rintro e w1 ⟨rfl, hb⟩; replace hL := hL.grow hb; clear hb; dsimp only) | (go_at_call 7; refine (HCR.out _ hL.below).mono ?_; rintro e w1 ⟨rfl, hb⟩; replace hL := hL.grow hb; clear hb; dsimp only) | (go_at_call 10; refine (HJN.out _ hL.below).mono ?_; rintro e w3 ⟨⟨q2n, ⟨q2p, q2k, q2c⟩, ⟨q2fp, q2fk, q2fc⟩⟩, c2, rfl, hb3⟩; replace hL := hL.grow hb3; clear hb3; (try dsimp only)) | (go_at_call 11; refine (HWD.out _ hL.below).mono ?_; rintro e w3 ⟨⟨q3n, ⟨q3p, q3k, q3c⟩, ⟨q3fp, q3fk, q3fc⟩⟩, c3, rfl, hb3⟩; replace hL := hL.grow hb3; clear hb3; (try dsimp only)))
  (try simp only [Exit.inBlock, Exit.then]); refine' ret1 rfl ?_ rfl ?_; (case refine'_2 => exact cRes)
  exact ⟨rfl, hL.below⟩

set_option maxRecDepth 100000 in
set_option maxHeartbeats 4000000 in
theorem pshows_c (p : Pg) (is : Nat → Ins) (x y : Pv) (d e : Pd) (r : Rn) (s : Rs) (ths : Nat → Th) (w : World) (hi : ShowIn w p is x y d e r s) (hra : RunAt w r s.val ths s.field s.line) (hth : ∀ k, k < s.things.length → (ths k).site = (s.thing k).1 ∧ (ths k).fs.n = (s.thing k).2.length) (h1 : cp1 p is d = 0) (h2 : rightRun p is r s.val ths s.field = 0) (h3 : cp2 p is d e ≠ 0) :
    Calls Tryz.prog 3 #[p.v, x.v, y.v, r.v] w fun q w' => q = .returned (.bool true) ∧ Below w.heap.size w w' := by
  obtain ⟨hn, hc, hx, hy, hr⟩ := hi
  have hnv := hr.nv
  have hnt := hr.nt
  have hpb := fun w' => picBegun_any w'
  have hr1 := fun (b : Nat) (w' : World) (hb : Below w.heap.size w w') (hh : w'.heap[b]? = some (.cells x.cells.toArray 28 (0, 0))) => (show Calls Tryz.prog 6 #[p.v, .slice (some ⟨b, 0, none⟩) 1 1] w' fun q w2 => q = .returned (.int .i64 (cp1 p is d)) ∧ Below w'.heap.size w' w2 from rCheckPictures_any p is (some ⟨b, 0, none⟩) 1 1 (fun _ => x) (fun _ => d) w' hn (hc.grow hb) (pics1 hh (hx.grow hb)))
  obtain ⟨h0, hdr⟩ := cp1_zero h1
  have hs := (prog_right h0).1
  have hcr := fun w' (hb : Below w.heap.size w w') => rCheckRun_any p is r s ths w' hn (hc.grow hb) (hra.grow hb) hth hnv hnt hs
  have ok : d.none = false → ShowOk d s := fun hq => show_ok (RightPd.of hdr h0 hq) h2 hnv hnt hth
  have hho := fun w' (hb : Below w.heap.size w w') => pHolds_ok p is x d r s ths w' hn (hc.grow hb) (hx.grow hb) (hra.l.grow hb) (hr.grow hb) h1 h2 ok
  have hsh := fun w' (hb : Below w.heap.size w w') => rShows_any x d r s w' (hx.grow hb) (hr.grow hb) ok
  rw [h2] at hcr
  rw [h1] at hr1
  have hjn := fun w' (hb : Below w.heap.size w w') => pJoin_err p is x y d e w' hn (hc.grow hb) (hx.grow hb) (hy.grow hb) h3
  have hwd := fun w' (hb : Below w.heap.size w w') => pWiden_some p is y x e d w' hn (hc.grow hb) (hy.grow hb) (hx.grow hb)
  generalize hc2 : cp2 p is d e = c at *
  have k0 : (c != 0) = true := by simpa using h3
  clear hc2
  generalize showsD d s = q at *
  have k2 : (q != q) = false := by simp
  clear hx hy hr hc hth hra hnv hnt h0 h1 h2 h3 hdr hs ok
  have HPB := Lib.hid hpb
  have HR1 := Lib.hid hr1
  have HHO := Lib.hid hho
  have HCR := Lib.hid hcr
  have HSH := Lib.hid hsh
  have HJN := Lib.hid hjn
  have HWD := Lib.hid hwd
  clear hpb hr1 hho hcr hsh hjn hwd
  obtain ⟨xn, ⟨xp, xvn, xc⟩, ⟨xfp, xfn, xfc⟩⟩ := x
  obtain ⟨yn, ⟨yp, yvn, yc⟩, ⟨yfp, yfn, yfc⟩⟩ := y
  obtain ⟨ra, ⟨rvp, rvn, rvc⟩, ⟨rtp, rtn, rtc⟩, rk, ⟨rlp, rln, rlc⟩, re⟩ := r
  have hL := Loc.start w
  go_enter Tryz.func3, Tryz.ntmps3
  go_wp2_with (first | (with_reducible refine lld hL ?_) | ((with_reducible first | refine lbx hL ?_ | refine lal hL ?_ | refine lbs hL ?_); clear hL; intro bl w1 hL) | ((with_reducible refine lst' hL ?_); clear hL; intro w1 hL) | (go_at_call 5; refine (HHO.out _ hL.below).mono ?_; rintro e w1 ⟨rfl, hb⟩; replace hL := hL.grow hb; clear hb; dsimp only) | (go_at_call 6; refine (HR1.out bl _ hL.below (hL.heap (by repeat (first | exact InL.head | apply InL.tail)))).mono ?_; rintro e w1 ⟨rfl, hb⟩; replace hL := hL.grow hb; clear hb; dsimp only) | (go_at_call 9; refine (HPB.out _).mono ?_; rintro e w1 ⟨rfl, hb⟩; replace hL := hL.grow hb; clear hb; dsimp only) | (go_at_call 7; refine (HCR.out _ hL.below).mono ?_; rintro e w1 ⟨rfl, hb⟩; replace hL := hL.grow hb; clear hb; dsimp only) | (go_at_call 8; refine (HSH.out _ hL.below).mono ?_; rintro e w1 ⟨rfl, hb⟩; replace hL := hL.grow hb; clear hb; dsimp only) | (go_at_call 10; refine (HJN.out _ hL.below).mono ?_; rintro e w1 ⟨rfl, hb⟩; replace hL := hL.grow hb; clear hb; dsimp only) | (go_at_call 11; refine (HWD.out _ hL.below).mono ?_; rintro e w3 ⟨⟨q3n, ⟨q3p, q3k, q3c⟩, ⟨q3fp, q3fk, q3fc⟩⟩, c3, rfl, hb3⟩; replace hL := hL.grow hb3; clear hb3; (try dsimp only)))
  (try simp only [Exit.inBlock, Exit.then]); refine' ret1 rfl ?_ rfl ?_; (case refine'_2 => exact cRes)
  exact ⟨rfl, hL.below⟩

set_option maxRecDepth 100000 in
set_option maxHeartbeats 4000000 in
theorem pshows_d (p : Pg) (is : Nat → Ins) (x y : Pv) (d e : Pd) (r : Rn) (s : Rs) (ths : Nat → Th) (w : World) (hi : ShowIn w p is x y d e r s) (hra : RunAt w r s.val ths s.field s.line) (hth : ∀ k, k < s.things.length → (ths k).site = (s.thing k).1 ∧ (ths k).fs.n = (s.thing k).2.length) (h1 : cp1 p is d = 0) (h2 : rightRun p is r s.val ths s.field = 0) (h3 : cp2 p is d e = 0) (h4 : showsD d s = false) :
    Calls Tryz.prog 3 #[p.v, x.v, y.v, r.v] w fun q w' => q = .returned (.bool true) ∧ Below w.heap.size w w' := by
  obtain ⟨hn, hc, hx, hy, hr⟩ := hi
  have hnv := hr.nv
  have hnt := hr.nt
  have hpb := fun w' => picBegun_any w'
  have hr1 := fun (b : Nat) (w' : World) (hb : Below w.heap.size w w') (hh : w'.heap[b]? = some (.cells x.cells.toArray 28 (0, 0))) => (show Calls Tryz.prog 6 #[p.v, .slice (some ⟨b, 0, none⟩) 1 1] w' fun q w2 => q = .returned (.int .i64 (cp1 p is d)) ∧ Below w'.heap.size w' w2 from rCheckPictures_any p is (some ⟨b, 0, none⟩) 1 1 (fun _ => x) (fun _ => d) w' hn (hc.grow hb) (pics1 hh (hx.grow hb)))
  obtain ⟨h0, hdr⟩ := cp1_zero h1
  have hs := (prog_right h0).1
  have hcr := fun w' (hb : Below w.heap.size w w') => rCheckRun_any p is r s ths w' hn (hc.grow hb) (hra.grow hb) hth hnv hnt hs
  have ok : d.none = false → ShowOk d s := fun hq => show_ok (RightPd.of hdr h0 hq) h2 hnv hnt hth
  have hho := fun w' (hb : Below w.heap.size w w') => pHolds_ok p is x d r s ths w' hn (hc.grow hb) (hx.grow hb) (hra.l.grow hb) (hr.grow hb) h1 h2 ok
  have hsh := fun w' (hb : Below w.heap.size w w') => rShows_any x d r s w' (hx.grow hb) (hr.grow hb) ok
  rw [h2] at hcr
  rw [h1] at hr1
  have her := (cp2_zero h3).2.2
  have hjn := fun w' (hb : Below w.heap.size w w') => pJoin_ok p is x y d e w' hn (hc.grow hb) (hx.grow hb) (hy.grow hb) h3
  have hwd := fun w' (hb : Below w.heap.size w w') => pWiden_ok p is y x e d w' hn (hc.grow hb) (hy.grow hb) (hx.grow hb) (cp2_of h0 her hdr)
  rw [h4] at hho hsh
  have hm2 := both_small (f := both) h0 hdr her
  have hm3 := both_small (f := wider) h0 her hdr
  generalize bothP both d e = jd at *
  generalize bothP wider e d = wd at *
  clear hx hy hr hc hth hra hnv hnt h0 h1 h2 h3 hdr hs ok her h4
  have HPB := Lib.hid hpb
  have HR1 := Lib.hid hr1
  have HHO := Lib.hid hho
  have HCR := Lib.hid hcr
  have HSH := Lib.hid hsh
  have HJN := Lib.hid hjn
  have HWD := Lib.hid hwd
  clear hpb hr1 hho hcr hsh hjn hwd
  have HM2 := Lib.hid hm2
  have HM3 := Lib.hid hm3
  clear hm2 hm3
  obtain ⟨xn, ⟨xp, xvn, xc⟩, ⟨xfp, xfn, xfc⟩⟩ := x
  obtain ⟨yn, ⟨yp, yvn, yc⟩, ⟨yfp, yfn, yfc⟩⟩ := y
  obtain ⟨ra, ⟨rvp, rvn, rvc⟩, ⟨rtp, rtn, rtc⟩, rk, ⟨rlp, rln, rlc⟩, re⟩ := r
  have hL := Loc.start w
  go_enter Tryz.func3, Tryz.ntmps3
  go_wp2_with (first | (with_reducible refine lld hL ?_) | ((with_reducible first | refine lbx hL ?_ | refine lal hL ?_ | refine lbs hL ?_); clear hL; intro bl w1 hL) | ((with_reducible refine lst' hL ?_); clear hL; intro w1 hL) | (go_at_call 5; refine (HHO.out _ hL.below).mono ?_; rintro e w1 ⟨rfl, hb⟩; replace hL := hL.grow hb; clear hb; dsimp only) | (go_at_call 6; refine (HR1.out bl _ hL.below (hL.heap (by repeat (first | exact InL.head | apply InL.tail)))).mono ?_; rintro e w1 ⟨rfl, hb⟩; replace hL := hL.grow hb; clear hb; dsimp only) | (go_at_call 9; refine (HPB.out _).mono ?_; rintro e w1 ⟨rfl, hb⟩; replace hL := hL.grow hb; clear hb; dsimp only) | (go_at_call 7; refine (HCR.out _ hL.below).mono ?_; rintro e w1 ⟨rfl, hb⟩; replace hL := hL.grow hb; clear hb; dsimp only) | (go_at_call 8; refine (HSH.out _ hL.below).mono ?_; rintro e w1 ⟨rfl, hb⟩; replace hL := hL.grow hb; clear hb; dsimp only) | (go_at_call 10; refine (HJN.out _ hL.below).mono ?_; rintro e w3 ⟨⟨q2n, ⟨q2p, q2k, q2c⟩, ⟨q2fp, q2fk, q2fc⟩⟩, rfl, hG⟩; replace hL := hL.gotP hG HM2.out; clear hG; (try dsimp only)) | (go_at_call 11; refine (HWD.out _ hL.below).mono ?_; rintro e w3 ⟨⟨q3n, ⟨q3p, q3k, q3c⟩, ⟨q3fp, q3fk, q3fc⟩⟩, rfl, hG⟩; replace hL := hL.gotP hG HM3.out; clear hG; (try dsimp only)))
  (try simp only [Exit.inBlock, Exit.then]); refine' ret1 rfl ?_ rfl ?_; (case refine'_2 => exact cRes)
  exact ⟨rfl, hL.below⟩

set_option maxRecDepth 100000 in
set_option maxHeartbeats 4000000 in
theorem pshows_e (p : Pg) (is : Nat → Ins) (x y : Pv) (d e : Pd) (r : Rn) (s : Rs) (ths : Nat → Th) (w : World) (hi : ShowIn w p is x y d e r s) (hra : RunAt w r s.val ths s.field s.line) (hth : ∀ k, k < s.things.length → (ths k).site = (s.thing k).1 ∧ (ths k).fs.n = (s.thing k).2.length) (h1 : cp1 p is d = 0) (h2 : rightRun p is r s.val ths s.field = 0) (h3 : cp2 p is d e = 0) (h4 : showsD d s = true) :
    Calls Tryz.prog 3 #[p.v, x.v, y.v, r.v] w fun q w' => q = .returned (.bool true) ∧ Below w.heap.size w w' := by
  obtain ⟨hn, hc, hx, hy, hr⟩ := hi
  have hnv := hr.nv
  have hnt := hr.nt
  have hpb := fun w' => picBegun_any w'
  have hr1 := fun (b : Nat) (w' : World) (hb : Below w.heap.size w w') (hh : w'.heap[b]? = some (.cells x.cells.toArray 28 (0, 0))) => (show Calls Tryz.prog 6 #[p.v, .slice (some ⟨b, 0, none⟩) 1 1] w' fun q w2 => q = .returned (.int .i64 (cp1 p is d)) ∧ Below w'.heap.size w' w2 from rCheckPictures_any p is (some ⟨b, 0, none⟩) 1 1 (fun _ => x) (fun _ => d) w' hn (hc.grow hb) (pics1 hh (hx.grow hb)))
  obtain ⟨h0, hdr⟩ := cp1_zero h1
  have hs := (prog_right h0).1
  have hcr := fun w' (hb : Below w.heap.size w w') => rCheckRun_any p is r s ths w' hn (hc.grow hb) (hra.grow hb) hth hnv hnt hs
  have ok : d.none = false → ShowOk d s := fun hq => show_ok (RightPd.of hdr h0 hq) h2 hnv hnt hth
  have hho := fun w' (hb : Below w.heap.size w w') => pHolds_ok p is x d r s ths w' hn (hc.grow hb) (hx.grow hb) (hra.l.grow hb) (hr.grow hb) h1 h2 ok
  have hsh := fun w' (hb : Below w.heap.size w w') => rShows_any x d r s w' (hx.grow hb) (hr.grow hb) ok
  rw [h2] at hcr
  rw [h1] at hr1
  have her := (cp2_zero h3).2.2
  have hjn := fun w' (hb : Below w.heap.size w w') => pJoin_ok p is x y d e w' hn (hc.grow hb) (hx.grow hb) (hy.grow hb) h3
  have hwd := fun w' (hb : Below w.heap.size w w') => pWiden_ok p is y x e d w' hn (hc.grow hb) (hy.grow hb) (hx.grow hb) (cp2_of h0 her hdr)
  rw [h4] at hho hsh
  have hm2 := both_small (f := both) h0 hdr her
  have hm3 := both_small (f := wider) h0 her hdr
  have hdn : d.none = false := by
    cases hq : d.none with
    | false => rfl
    | true => rw [showsD, hq] at h4; cases h4
  have okd := ok hdn
  have oke : e.none = false → ShowOk e s := fun hq => show_ok (RightPd.of her h0 hq) h2 hnv hnt hth
  have g1 := right_both puts_both h0 hdr her
  have g2 := right_both puts_wider h0 her hdr
  have v1 := shows_both puts_both h0 hdr her okd h4
  have v2 := shows_both' puts_wider h0 hdr her oke h4 okd
  have hhj := fun (j : Pv) (d' : Pd) (h5 : rightP p is d' = 0) (h6 : showsD d' s = true) (w1 : World) (hb1 : Below w.heap.size w w1) (hj : PicIs w1 j d') w' (hb : Below w1.heap.size w1 w') => (show Calls Tryz.prog 5 #[p.v, j.v, r.v] w' fun q w2 => q = .returned (.tuple #[.bool true, .int .i64 0]) ∧ Below w'.heap.size w' w2 by
    have hb2 := hb1.trans (hb.mono hb1.size)
    have h7 := pHolds_ok p is j d' r s ths w' hn (hc.grow hb2) (hj.grow hb) (hra.l.grow hb2) (hr.grow hb2) (cp1_of h0 h5) h2 (fun hq => show_ok (RightPd.of h5 h0 hq) h2 hnv hnt hth)
    rw [h6] at h7
    exact h7)
  have hj1 := fun (j : Pv) => hhj j _ g1 v1
  have hj2 := fun (j : Pv) => hhj j _ g2 v2
  clear hhj g1 g2 v1 v2
  generalize bothP both d e = jd at *
  generalize bothP wider e d = wd at *
  clear hx hy hr hc hth hra hnv hnt h0 h1 h2 h3 hdr hs ok her h4 okd oke hdn
  have HPB := Lib.hid hpb
  have HR1 := Lib.hid hr1
  have HHO := Lib.hid hho
  have HCR := Lib.hid hcr
  have HSH := Lib.hid hsh
  have HJN := Lib.hid hjn
  have HWD := Lib.hid hwd
  have HJ1 := Lib.hid hj1
  have HJ2 := Lib.hid hj2
  clear hpb hr1 hho hcr hsh hjn hwd hj1 hj2
  have HM2 := Lib.hid hm2
  have HM3 := Lib.hid hm3
  clear hm2 hm3
  obtain ⟨xn, ⟨xp, xvn, xc⟩, ⟨xfp, xfn, xfc⟩⟩ := x
  obtain ⟨yn, ⟨yp, yvn, yc⟩, ⟨yfp, yfn, yfc⟩⟩ := y
  obtain ⟨ra, ⟨rvp, rvn, rvc⟩, ⟨rtp, rtn, rtc⟩, rk, ⟨rlp, rln, rlc⟩, re⟩ := r
  have hL := Loc.start w
  go_enter Tryz.func3, Tryz.ntmps3
  go_upto_region 14 with (first | (with_reducible refine lld hL ?_) | ((with_reducible first | refine lbx hL ?_ | refine lal hL ?_ | refine lbs hL ?_); clear hL; intro bl w1 hL) | ((with_reducible refine lst' hL ?_); clear hL; intro w1 hL) | (go_at_call 5; refine (HHO.out _ hL.below).mono ?_; rintro e w1 ⟨rfl, hb⟩; replace hL := hL.grow hb; clear hb; dsimp only) | (go_at_call 6; refine (HR1.out bl _ hL.below (hL.heap (by repeat (first | exact InL.head | apply InL.tail)))).mono ?_; rintro e w1 ⟨rfl, hb⟩; replace hL := hL.grow hb; clear hb; dsimp only) | (go_at_call 9; refine (HPB.out _).mono ?_; rintro e w1 ⟨rfl, hb⟩; replace hL := hL.grow hb; clear hb; dsimp only) | (go_at_call 7; refine (HCR.out _ hL.below).mono ?_; rintro e w1 ⟨rfl, hb⟩; replace hL := hL.grow hb; clear hb; dsimp only) | (go_at_call 8; refine (HSH.out _ hL.below).mono ?_; rintro e w1 ⟨rfl, hb⟩; replace hL := hL.grow hb; clear hb; dsimp only) | (go_at_call 10; refine (HJN.out _ hL.below).mono ?_; rintro e w3 ⟨⟨q2n, ⟨q2p, q2k, q2c⟩, ⟨q2fp, q2fk, q2fc⟩⟩, rfl, hG⟩; replace hL := hL.gotP hG HM2.out; clear hG; (try dsimp only)) | (go_at_call 11; refine (HWD.out _ hL.below).mono ?_; rintro e w3 ⟨⟨q3n, ⟨q3p, q3k, q3c⟩, ⟨q3fp, q3fk, q3fc⟩⟩, rfl, hG⟩; replace hL := hL.gotP hG HM3.out; clear hG; (try dsimp only)))
  have HA := Lib.hid (HJ1.out ⟨q2n, ⟨q2p, q2k, q2c⟩, ⟨q2fp, q2fk, q2fc⟩⟩ w1 hL.below (hL.get (S := fun w => PicIs w ⟨q2n, ⟨q2p, q2k, q2c⟩, ⟨q2fp, q2fk, q2fc⟩⟩ jd) (by repeat (first | exact List.mem_cons_self | apply List.mem_cons_of_mem))))
  have HB := Lib.hid (HJ2.out ⟨q3n, ⟨q3p, q3k, q3c⟩, ⟨q3fp, q3fk, q3fc⟩⟩ w1 hL.below (hL.get (S := fun w => PicIs w ⟨q3n, ⟨q3p, q3k, q3c⟩, ⟨q3fp, q3fk, q3fc⟩⟩ wd) (by repeat (first | exact List.mem_cons_self | apply List.mem_cons_of_mem))))
  clear HJ1 HJ2 HHO
  obtain ⟨wq, hwq⟩ : ∃ x, x = w1 := ⟨_, rfl⟩
  have hbq := Below.refl wq.heap.size wq
  rw [← hwq] at HA HB
  have HAB : Below wq.heap.size wq w1 := by rw [hwq]; exact Below.refl _ _
  go_upto_region 15 with (first | (with_reducible refine lld hL ?_) | ((with_reducible first | refine lbx hL ?_ | refine lal hL ?_ | refine lbs hL ?_); clear hL; intro bl w1 hL) | ((with_reducible refine lst' hL ?_); clear hL; intro w1 hL) | (go_at_call 5; refine (HA.out _ HAB).mono ?_; rintro e w3 ⟨rfl, hb3⟩; replace hL := hL.grow hb3; replace HAB := HAB.trans (hb3.mono HAB.size); clear hb3; (try dsimp only)))
  go_wp2_with (first | (with_reducible refine lld hL ?_) | ((with_reducible first | refine lbx hL ?_ | refine lal hL ?_ | refine lbs hL ?_); clear hL; intro bl w1 hL) | ((with_reducible refine lst' hL ?_); clear hL; intro w1 hL) | (go_at_call 5; refine (HB.out _ HAB).mono ?_; rintro e w3 ⟨rfl, hb3⟩; replace hL := hL.grow hb3; replace HAB := HAB.trans (hb3.mono HAB.size); clear hb3; (try dsimp only)))
  (try simp only [Exit.inBlock, Exit.then]); refine' ret1 rfl ?_ rfl ?_; (case refine'_2 => exact cRes)
  exact ⟨rfl, hL.below⟩

theorem pshows_any (p : Pg) (is : Nat → Ins) (x y : Pv) (d e : Pd) (r : Rn) (s : Rs) (w : World) (hi : ShowIn w p is x y d e r s) :
    Calls Tryz.prog 3 #[p.v, x.v, y.v, r.v] w fun q w' => q = .returned (.bool true) ∧ Below w.heap.size w w' := by
  obtain ⟨ths, hra, hth⟩ := hi.r.ex
  by_cases h1 : cp1 p is d = 0
  · by_cases h2 : rightRun p is r s.val ths s.field = 0
    · by_cases h3 : cp2 p is d e = 0
      · cases h4 : showsD d s with
        | false => exact pshows_d p is x y d e r s ths w hi hra hth h1 h2 h3 h4
        | true => exact pshows_e p is x y d e r s ths w hi hra hth h1 h2 h3 h4
      · exact pshows_c p is x y d e r s ths w hi hra hth h1 h2 h3
    · exact pshows_b p is x y d e r s ths w hi hra hth h1 h2
  · exact pshows_a p is x y d e r s ths w hi hra hth h1
end Go.Proofs.YtmbiooaeglpaiaaGreat
