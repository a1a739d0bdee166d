/- Plain facts on right pictures. Conditions: those of each law. | The walks over picture.Join, Widen. Conditions: what they read lies in memory that was there. | The walks over picture.Inside, Within. Conditions: what they read lies in memory that was there. | The walk over picture.Within. Conditions: what it reads lies in memory that was there. | The walk over the reference's SameGuesses at rows that say the same. Conditions: what they read lies in memory that was there. | The walk over pictureIs. Conditions: what it reads lies in memory that was there. -/
import Derived.Test.YtmbiooaeglpaiaaGreatPicb
import Derived.Test.YtmbiooaeglpaiaaGreatRpa
import Derived.Test.YtmbiooaeglpaiaaGreatPica
import Derived.Test.YtmbiooaeglpaiaaGreatGue
set_option linter.unusedSimpArgs false
set_option linter.unusedVariables false
namespace Go.Proofs.YtmbiooaeglpaiaaGreat
open Go.RowKit

theorem firstE_all {α : Type} {f : α → Int} {l : List α} (h : firstE (l.map f) = 0) : ∀ x ∈ l, f x = 0 := by
  induction l with
  | nil => intro x hx; cases hx
  | cons a l ih =>
    intro x hx
    have h1 : f a = 0 := by
      by_cases h2 : f a = 0
      · exact h2
      · simp [firstE, h2] at h
    have h3 : firstE (l.map f) = 0 := by simpa [firstE, h1] using h
    rcases List.mem_cons.1 hx with rfl | hx
    · exact h1
    · exact ih h3 x hx
structure RightD (d : Res) : Prop where
  span : checkSpan d.span = 0
  ins : inS d.l
  asc : ascS d.l
  le : d.l.length ≤ 60
theorem RightD.of {p : Pg} {is : Nat → Ins} {d : Res} (h : rightD p is d = 0) (hp : checkProg p is = 0) : RightD d := by
  have h1 : RightGu (d.gu ⟨none, d.l.length, 0⟩) d.l := RightGu.of h hp rfl
  exact ⟨h1.span, h1.ins, h1.asc, h1.le⟩
/-- What a right picture of runs is. -/
structure RightPd (p : Pg) (d : Pd) : Prop where
  vars : (d.vars.length : Int) = p.vars
  fields : d.fields.length = p.n
  rows : ∀ k, k < d.fields.length → ((d.row k).length : Int) = p.fields
  vg : ∀ k, k < d.vars.length → RightD (d.var k)
  fg : ∀ k j, k < d.fields.length → j < (d.row k).length → RightD (d.field k j)
theorem getD_mem {α : Type} {l : List α} {d : α} {k : Nat} (h : k < l.length) : l.getD k d ∈ l := by
  rw [List.getD_eq_getElem?_getD, List.getElem?_eq_getElem h]
  exact List.getElem_mem h
theorem RightPd.of {p : Pg} {is : Nat → Ins} {d : Pd} (h : rightP p is d = 0) (hp : checkProg p is = 0) (hn : d.none = false) : RightPd p d := by
  obtain ⟨dn, vs, fs⟩ := d
  dsimp only at hn
  subst hn
  rw [some_right] at h
  split at h
  · cases h
  rename_i h1
  split at h
  · rename_i h2; exact absurd h h2
  rename_i h2
  have h3 : rowsE p is (vs :: fs) = 0 := by omega
  rw [rowsE_flat] at h3
  have h4 := firstE_all h3
  have h5 : lensD p ⟨false, vs, fs⟩ = false := by simpa using h1
  unfold lensD at h5
  simp only [Bool.or_eq_false_iff, bne_eq_false_iff_eq] at h5
  obtain ⟨⟨h6, h7⟩, h8⟩ := h5
  have h9 : ∀ k, k < fs.length → ((fs.getD k []).length : Int) = p.fields := fun k hk => by
    by_cases hq : ((fs.getD k []).length : Int) = p.fields
    · exact hq
    · have := anyN_yes (q := fun i => ((Pd.row ⟨false, vs, fs⟩ i).length : Int) != p.fields) hk (by simpa using hq)
      rw [this] at h8
      cases h8
  refine ⟨h6, by dsimp only; omega, h9, fun k hk => RightD.of (h4 _ ?_) hp, fun k j hk hj => RightD.of (h4 _ ?_) hp⟩
  · exact List.mem_flatten.2 ⟨vs, List.mem_cons_self, getD_mem hk⟩
  · exact List.mem_flatten.2 ⟨fs.getD k [], List.mem_cons_of_mem _ (getD_mem hk), getD_mem hj⟩
theorem RightPd.none {p : Pg} {is : Nat → Ins} {d : Pd} (h : rightP p is d = 0) (hn : d.none = true) : d = nonePd := by
  obtain ⟨dn, vs, fs⟩ := d
  dsimp only at hn
  subst hn
  rw [none_right] at h
  split at h
  · cases h
  rename_i h1
  obtain rfl : vs = [] := List.eq_nil_of_length_eq_zero (by omega)
  obtain rfl : fs = [] := List.eq_nil_of_length_eq_zero (by omega)
  rfl
theorem FewP.of {p : Pg} {d : Pd} (h : RightPd p d) (hs : Small p) : FewP d := by
  have h1 := hs.v2
  have h2 := hs.n1
  have h3 := hs.f2
  refine ⟨by have := h.vars; omega, by have := h.fields; omega, fun k hk => by have := h.rows k hk; omega, fun k hk => by have := (h.vg k hk).le; omega, fun k j hk hj => by have := (h.fg k j hk hj).le; omega⟩
theorem FewP.none : FewP nonePd := ⟨by decide, by decide, fun k hk => absurd hk (Nat.not_lt_zero k), fun k hk => absurd hk (Nat.not_lt_zero k), fun k j hk => absurd hk (Nat.not_lt_zero k)⟩
theorem LikeP.of {p : Pg} {d e : Pd} (h : RightPd p d) (h' : RightPd p e) : LikeP d e := by
  refine ⟨by have := h.vars; have := h'.vars; omega, by rw [h.fields, h'.fields], fun k hk => ?_⟩
  have h1 := h.rows k hk
  have h2 := h'.rows k (by rw [h'.fields, ← h.fields]; exact hk)
  omega
theorem both_self {s : Span} (h : checkSpan s = 0) : both s s = s := by
  obtain ⟨_, _, h3⟩ := checkSpan_zero h
  obtain ⟨n, lo, hi⟩ := s
  cases n with
  | true =>
    obtain ⟨rfl, rfl⟩ := h3 rfl
    rfl
  | false => simp [both, min2, max2]
theorem mix_self {l : List Int} (h : ascS l) : mixS l l = l := by
  obtain ⟨h1, h2⟩ := mix_asc l l
  exact asc_ext h1 h (fun x => by rw [h2]; simp)
theorem bothD_self {d : Res} (h : RightD d) : bothD both d d = d := by
  obtain ⟨dn, ds, dt, df, dl⟩ := d
  simp only [bothD, both_self h.span, mix_self h.asc, Bool.or_self]
theorem bothRow_self {ds : List Res} (h : ∀ k, k < ds.length → RightD (ds.getD k zeroD)) : bothRow both ds ds = ds := by
  apply List.ext_getElem
  · simp [bothTo]
  · intro k h1 h2
    have h3 := bothD_self (h k h2)
    simp only [bothTo, List.getElem_map, List.getElem_range]
    rw [h3, List.getD_eq_getElem?_getD, List.getElem?_eq_getElem h2]
    rfl
theorem bothRaw_self {p : Pg} {d : Pd} (h : RightPd p d) (hn : d.none = false) : bothRaw both d d = d := by
  obtain ⟨dn, vs, fs⟩ := d
  dsimp only at hn
  subst hn
  have h1 : bothRow both vs vs = vs := bothRow_self h.vg
  have h2 : bothRows both ⟨false, vs, fs⟩ ⟨false, vs, fs⟩ fs.length = fs := by
    apply List.ext_getElem
    · simp [bothRows]
    · intro k h1 h2
      simp only [bothRows, List.getElem_map, List.getElem_range]
      show bothRow both (fs.getD k []) (fs.getD k []) = _
      rw [bothRow_self (fun j hj => h.fg k j h2 hj), List.getD_eq_getElem?_getD, List.getElem?_eq_getElem h2]
      rfl
  show Pd.mk false _ _ = _
  rw [h1]
  congr 1
end Go.Proofs.YtmbiooaeglpaiaaGreat
set_option linter.unusedSimpArgs false
set_option linter.unusedVariables false
namespace Go.Proofs.YtmbiooaeglpaiaaGreat
open Go.RowKit

theorem enterW2 : ∀ args w, (callFunc 33 args).run Tryz.prog w = .ok (.enter 33 args) w := fun args w => by kernel_rfl
theorem both_conds {p : Pg} {is : Nat → Ins} {d e : Pd} (h : cp2 p is d e = 0) : FewP d ∧ FewP e ∧ (d.none = false → e.none = false → LikeP d e) := by
  obtain ⟨h0, h1, h2⟩ := cp2_zero h
  have hs := (prog_right h0).1
  refine ⟨?_, ?_, fun hd he => LikeP.of (RightPd.of h1 h0 hd) (RightPd.of h2 h0 he)⟩
  · cases hd : d.none with
    | true => rw [RightPd.none h1 hd]; exact FewP.none
    | false => exact FewP.of (RightPd.of h1 h0 hd) hs
  · cases he : e.none with
    | true => rw [RightPd.none h2 he]; exact FewP.none
    | false => exact FewP.of (RightPd.of h2 h0 he) hs

set_option maxRecDepth 100000 in
set_option maxHeartbeats 1600000 in
theorem pJoin_err (p : Pg) (is : Nat → Ins) (x y : Pv) (d e : Pd) (w : World) (hn : p.n ≤ 9223372036854775807) (hc : CodeAt w p is) (hx : PicIs w x d) (hy : PicIs w y e) (h0 : cp2 p is d e ≠ 0) :
    Calls Tryz.prog 10 #[p.v, x.v, y.v] w fun q w' => q = .returned (.tuple #[zeroP.v, .int .i64 (cp2 p is d e)]) ∧ Below w.heap.size w w' := by
  have HR := Lib.hid (fun (b : Nat) (w' : World) (hb : Below w.heap.size w w') (hh : w'.heap[b]? = some (.cells (x.cells ++ y.cells).toArray 28 (0, 0))) => (show Calls Tryz.prog 20 #[p.v, .slice (some ⟨b, 0, none⟩) 2 2] w' fun q w2 => q = .returned (.int .i64 (cp2 p is d e)) ∧ Below w'.heap.size w' w2 from pready_any p is (some ⟨b, 0, none⟩) 2 2 (pick2 x y) (pick2 d e) w' hn (hc.grow hb) (pics2 hh (hx.grow hb) (hy.grow hb))))
  generalize cp2 p is d e = c at HR h0 ⊢
  have k0 : (c != 0) = true := by simpa using h0
  clear h0 hc hx hy
  have hL := Loc.start w
  go_enter Tryz.func10, Tryz.ntmps10
  go_wp2_with (first | (with_reducible refine lld hL ?_) | ((with_reducible first | refine lbx hL ?_ | refine lal hL ?_ | refine lbs hL ?_); clear hL; intro bl w1 hL) | ((with_reducible refine lst' hL ?_); clear hL; intro w1 hL) | (go_at_call 20; refine (HR.out bl _ hL.below (hL.heap (by repeat (first | exact InL.head | apply InL.tail)))).mono ?_; rintro e w1 ⟨rfl, hb⟩; replace hL := hL.grow hb; clear hb; dsimp only))
  (try simp only [Exit.inBlock, Exit.then]); refine' ret2 rfl ?_ ?_ rfl ?_; (case refine'_3 => exact cRes); (case refine'_4 => exact cRes)
  exact ⟨rfl, hL.below⟩

set_option maxRecDepth 100000 in
set_option maxHeartbeats 1600000 in
theorem pJoin_ok (p : Pg) (is : Nat → Ins) (x y : Pv) (d e : Pd) (w : World) (hn : p.n ≤ 9223372036854775807) (hc : CodeAt w p is) (hx : PicIs w x d) (hy : PicIs w y e) (h0 : cp2 p is d e = 0) :
    Calls Tryz.prog 10 #[p.v, x.v, y.v] w fun q w' => ∃ r : Pv, q = .returned (.tuple #[r.v, .int .i64 0]) ∧ GotP w w' r (bothP both d e) := by
  have HR := Lib.hid (fun (b : Nat) (w' : World) (hb : Below w.heap.size w w') (hh : w'.heap[b]? = some (.cells (x.cells ++ y.cells).toArray 28 (0, 0))) => (show Calls Tryz.prog 20 #[p.v, .slice (some ⟨b, 0, none⟩) 2 2] w' fun q w2 => q = .returned (.int .i64 (cp2 p is d e)) ∧ Below w'.heap.size w' w2 from pready_any p is (some ⟨b, 0, none⟩) 2 2 (pick2 x y) (pick2 d e) w' hn (hc.grow hb) (pics2 hh (hx.grow hb) (hy.grow hb))))
  rw [h0] at HR
  have HB := Lib.hid (fun w' (hb : Below w.heap.size w w') => pboth_any 32 both enterB both_any x y d e w' (hx.grow hb) (hy.grow hb) (both_conds h0).1 (both_conds h0).2.1 (both_conds h0).2.2)
  clear hc hx hy h0
  have hL := Loc.start w
  go_enter Tryz.func10, Tryz.ntmps10
  go_wp2_with (first | (with_reducible refine lld hL ?_) | ((with_reducible first | refine lbx hL ?_ | refine lal hL ?_ | refine lbs hL ?_); clear hL; intro bl w1 hL) | ((with_reducible refine lst' hL ?_); clear hL; intro w1 hL) | (go_at_call 20; refine (HR.out bl _ hL.below (hL.heap (by repeat (first | exact InL.head | apply InL.tail)))).mono ?_; rintro e w1 ⟨rfl, hb⟩; replace hL := hL.grow hb; clear hb; dsimp only) | (go_at_call 31; refine (HB.out _ hL.below).mono ?_; rintro q w3 ⟨⟨rn, ⟨vp, vn, vc⟩, ⟨fp, fn, fc⟩⟩, rfl, gv, gf, rs, Rv, Rh, Rf, hrn, hO, hl3⟩; replace hL := hL.gave hl3; simp only [List.cons_append, List.nil_append] at hL; clear hl3; dsimp only))
  (try simp only [Exit.inBlock, Exit.then]); refine' ret2 rfl ?_ ?_ rfl ?_; (case refine'_3 => exact cRes); (case refine'_4 => exact cRes)
  exact ⟨⟨rn, ⟨vp, vn, vc⟩, ⟨fp, fn, fc⟩⟩, rfl, gv, gf, rs, Rv, Rh, Rf, hrn, hO, hL.drop (List.sublist_append_right [_, _, _, _, _] _) (fun _ h => h)⟩

set_option maxRecDepth 100000 in
set_option maxHeartbeats 1600000 in
theorem pWiden_err (p : Pg) (is : Nat → Ins) (x y : Pv) (d e : Pd) (w : World) (hn : p.n ≤ 9223372036854775807) (hc : CodeAt w p is) (hx : PicIs w x d) (hy : PicIs w y e) (h0 : cp2 p is d e ≠ 0) :
    Calls Tryz.prog 11 #[p.v, x.v, y.v] w fun q w' => q = .returned (.tuple #[zeroP.v, .int .i64 (cp2 p is d e)]) ∧ Below w.heap.size w w' := by
  have HR := Lib.hid (fun (b : Nat) (w' : World) (hb : Below w.heap.size w w') (hh : w'.heap[b]? = some (.cells (x.cells ++ y.cells).toArray 28 (0, 0))) => (show Calls Tryz.prog 20 #[p.v, .slice (some ⟨b, 0, none⟩) 2 2] w' fun q w2 => q = .returned (.int .i64 (cp2 p is d e)) ∧ Below w'.heap.size w' w2 from pready_any p is (some ⟨b, 0, none⟩) 2 2 (pick2 x y) (pick2 d e) w' hn (hc.grow hb) (pics2 hh (hx.grow hb) (hy.grow hb))))
  generalize cp2 p is d e = c at HR h0 ⊢
  have k0 : (c != 0) = true := by simpa using h0
  clear h0 hc hx hy
  have hL := Loc.start w
  go_enter Tryz.func11, Tryz.ntmps11
  go_wp2_with (first | (with_reducible refine lld hL ?_) | ((with_reducible first | refine lbx hL ?_ | refine lal hL ?_ | refine lbs hL ?_); clear hL; intro bl w1 hL) | ((with_reducible refine lst' hL ?_); clear hL; intro w1 hL) | (go_at_call 20; refine (HR.out bl _ hL.below (hL.heap (by repeat (first | exact InL.head | apply InL.tail)))).mono ?_; rintro e w1 ⟨rfl, hb⟩; replace hL := hL.grow hb; clear hb; dsimp only))
  (try simp only [Exit.inBlock, Exit.then]); refine' ret2 rfl ?_ ?_ rfl ?_; (case refine'_3 => exact cRes); (case refine'_4 => exact cRes)
  exact ⟨rfl, hL.below⟩

set_option maxRecDepth 100000 in
set_option maxHeartbeats 1600000 in
theorem pWiden_ok (p : Pg) (is : Nat → Ins) (x y : Pv) (d e : Pd) (w : World) (hn : p.n ≤ 9223372036854775807) (hc : CodeAt w p is) (hx : PicIs w x d) (hy : PicIs w y e) (h0 : cp2 p is d e = 0) :
    Calls Tryz.prog 11 #[p.v, x.v, y.v] w fun q w' => ∃ r : Pv, q = .returned (.tuple #[r.v, .int .i64 0]) ∧ GotP w w' r (bothP wider d e) := by
  have HR := Lib.hid (fun (b : Nat) (w' : World) (hb : Below w.heap.size w w') (hh : w'.heap[b]? = some (.cells (x.cells ++ y.cells).toArray 28 (0, 0))) => (show Calls Tryz.prog 20 #[p.v, .slice (some ⟨b, 0, none⟩) 2 2] w' fun q w2 => q = .returned (.int .i64 (cp2 p is d e)) ∧ Below w'.heap.size w' w2 from pready_any p is (some ⟨b, 0, none⟩) 2 2 (pick2 x y) (pick2 d e) w' hn (hc.grow hb) (pics2 hh (hx.grow hb) (hy.grow hb))))
  rw [h0] at HR
  have HB := Lib.hid (fun w' (hb : Below w.heap.size w w') => pboth_any 33 wider enterW2 wider_any x y d e w' (hx.grow hb) (hy.grow hb) (both_conds h0).1 (both_conds h0).2.1 (both_conds h0).2.2)
  clear hc hx hy h0
  have hL := Loc.start w
  go_enter Tryz.func11, Tryz.ntmps11
  go_wp2_with (first | (with_reducible refine lld hL ?_) | ((with_reducible first | refine lbx hL ?_ | refine lal hL ?_ | refine lbs hL ?_); clear hL; intro bl w1 hL) | ((with_reducible refine lst' hL ?_); clear hL; intro w1 hL) | (go_at_call 20; refine (HR.out bl _ hL.below (hL.heap (by repeat (first | exact InL.head | apply InL.tail)))).mono ?_; rintro e w1 ⟨rfl, hb⟩; replace hL := hL.grow hb; clear hb; dsimp only) | (go_at_call 31; refine (HB.out _ hL.below).mono ?_; rintro q w3 ⟨⟨rn, ⟨vp, vn, vc⟩, ⟨fp, fn, fc⟩⟩, rfl, gv, gf, rs, Rv, Rh, Rf, hrn, hO, hl3⟩; replace hL := hL.gave hl3; simp only [List.cons_append, List.nil_append] at hL; clear hl3; dsimp only))
  (try simp only [Exit.inBlock, Exit.then]); refine' ret2 rfl ?_ ?_ rfl ?_; (case refine'_3 => exact cRes); (case refine'_4 => exact cRes)
  exact ⟨⟨rn, ⟨vp, vn, vc⟩, ⟨fp, fn, fc⟩⟩, rfl, gv, gf, rs, Rv, Rh, Rf, hrn, hO, hL.drop (List.sublist_append_right [_, _, _, _, _] _) (fun _ h => h)⟩
end Go.Proofs.YtmbiooaeglpaiaaGreat
set_option linter.unusedSimpArgs false
set_option linter.unusedVariables false
namespace Go.Proofs.YtmbiooaeglpaiaaGreat
open Go.RowKit

theorem enterGI : ∀ args w, (callFunc 72 args).run Tryz.prog w = .ok (.enter 72 args) w := fun args w => by kernel_rfl
theorem enterPI : ∀ args w, (callFunc 70 args).run Tryz.prog w = .ok (.enter 70 args) w := fun args w => by kernel_rfl
abbrev insideD (d e : Res) : Bool := insideG (d.gu nilSl) (e.gu nilSl) d.l e.l
def insideRow (ds es : List Res) : Bool := equalN ds.length es.length fun k => insideD (ds.getD k zeroD) (es.getD k zeroD)
def insideRows (fs gs : List (List Res)) : Bool := equalN fs.length gs.length fun k => insideRow (fs.getD k []) (gs.getD k [])
def insideP (d e : Pd) : Bool := if (d.none || e.none) = true then d.none else insideRow d.vars e.vars && insideRows d.fields e.fields

set_option maxRecDepth 100000 in
set_option maxHeartbeats 1600000 in
theorem pinside1_any (s t : Sl) (ds es : List Res) (w : World) (hs : RowIs w s ds) (ht : RowIs w t es) :
    Calls Tryz.prog 70 #[s.v, t.v] w fun q w' => q = .returned (.bool (insideRow ds es)) ∧ Below w.heap.size w w' := by
  obtain ⟨ss, hs1, hs2⟩ := hs.ex
  obtain ⟨st, ht1, ht2⟩ := ht.ex
  have hE := fun w' (hb : Below w.heap.size w w') => equalGG s t (fun k => (ds.getD k zeroD).gu (ss k)) (fun k => (es.getD k zeroD).gu (st k)) (fun k => insideD (ds.getD k zeroD) (es.getD k zeroD)) 72 w' hs.m ht.m (hs1.grow hb) (ht1.grow hb) enterGI (fun k hk1 hk2 w2 hb2 => ginside_any ((ds.getD k zeroD).gu (ss k)) ((es.getD k zeroD).gu (st k)) (ds.getD k zeroD).l (es.getD k zeroD).l w2 (((hs2 k hk1).grow hb).grow hb2) (((ht2 k hk2).grow hb).grow hb2))
  rw [show equalN s.n t.n (fun k => insideD (ds.getD k zeroD) (es.getD k zeroD)) = insideRow ds es by rw [hs.n, ht.n]; rfl] at hE
  have HE := Lib.hid hE
  clear hE hs ht hs1 hs2 ht1 ht2
  obtain ⟨sp, sn, sc⟩ := s
  obtain ⟨tp, tn, tc⟩ := t
  dsimp only [Sl.v] at HE ⊢
  have hL := Loc.start w
  go_enter Tryz.func70, Tryz.ntmps70
  go_wp2_with (first | (with_reducible refine lld hL ?_) | ((with_reducible first | refine lbx hL ?_ | refine lal hL ?_ | refine lbs hL ?_); clear hL; intro bl w1 hL) | ((with_reducible refine lst' hL ?_); clear hL; intro w1 hL) | (go_at_call 71; refine (HE.out _ hL.below).mono ?_; rintro e w1 ⟨rfl, hb⟩; replace hL := hL.grow hb; clear hb; dsimp only))
  (try simp only [Exit.inBlock, Exit.then]); refine' ret1 rfl ?_ rfl ?_; (case refine'_2 => exact cRes)
  exact ⟨rfl, hL.below⟩

set_option maxRecDepth 100000 in
set_option maxHeartbeats 1600000 in
theorem pinside_any (x y : Pv) (d e : Pd) (w : World) (hx : PicIs w x d) (hy : PicIs w y e) :
    Calls Tryz.prog 36 #[x.v, y.v] w fun q w' => q = .returned (.bool (insideP d e)) ∧ Below w.heap.size w w' := by
  have HV := Lib.hid (fun w' (hb : Below w.heap.size w w') => pinside1_any x.vars y.vars d.vars e.vars w' (hx.vars.grow hb) (hy.vars.grow hb))
  obtain ⟨rx, hrx, hrx2⟩ := hx.fields.ex
  obtain ⟨ry, hry, hry2⟩ := hy.fields.ex
  have hF := fun w' (hb : Below w.heap.size w w') => equalRR x.fields y.fields rx ry (fun k => insideRow (d.fields.getD k []) (e.fields.getD k [])) 70 w' hx.fields.m hy.fields.m (hrx.grow hb) (hry.grow hb) enterPI (fun k hk1 hk2 w2 hb2 => pinside1_any (rx k) (ry k) (d.fields.getD k []) (e.fields.getD k []) w2 (((hrx2 k hk1).grow hb).grow hb2) (((hry2 k hk2).grow hb).grow hb2))
  rw [show equalN x.fields.n y.fields.n (fun k => insideRow (d.fields.getD k []) (e.fields.getD k [])) = insideRows d.fields e.fields by rw [hx.fields.n, hy.fields.n]; rfl] at hF
  have HFF := Lib.hid hF
  have HQ := Lib.hid (show insideP d e = if (d.none || e.none) = true then d.none else insideRow d.vars e.vars && insideRows d.fields e.fields from rfl)
  have hxe := hx.e
  have hye := hy.e
  clear hx hy hrx hry hrx2 hry2 hF
  obtain ⟨xn, ⟨xp, xvn, xc⟩, ⟨xfp, xfn, xfc⟩⟩ := x
  obtain ⟨yn, ⟨yp, yvn, yc⟩, ⟨yfp, yfn, yfc⟩⟩ := y
  dsimp only [Sl.v] at hxe hye HV HFF
  subst hxe hye
  generalize insideRow d.vars e.vars = a at HV HQ
  generalize insideRows d.fields e.fields = b at HFF HQ
  generalize insideP d e = q0 at HQ ⊢
  generalize d.none = xn at HQ ⊢
  generalize e.none = yn at HQ ⊢
  have hL := Loc.start w
  go_enter Tryz.func36, Tryz.ntmps36
  cases xn with
  | true =>
    have HX := Lib.hid (show q0 = true from HQ.out)
    go_wp2_with (first | (with_reducible refine lld hL ?_) | ((with_reducible first | refine lbx hL ?_ | refine lal hL ?_ | refine lbs hL ?_); clear hL; intro bl w1 hL) | ((with_reducible refine lst' hL ?_); clear hL; intro w1 hL))
    (try simp only [Exit.inBlock, Exit.then]); refine' ret1 rfl ?_ rfl ?_; (case refine'_2 => exact cRes)
    exact ⟨by rw [HX.out]; rfl, hL.below⟩
  | false =>
    cases yn with
    | true =>
      have HX := Lib.hid (show q0 = false from HQ.out)
      go_wp2_with (first | (with_reducible refine lld hL ?_) | ((with_reducible first | refine lbx hL ?_ | refine lal hL ?_ | refine lbs hL ?_); clear hL; intro bl w1 hL) | ((with_reducible refine lst' hL ?_); clear hL; intro w1 hL))
      (try simp only [Exit.inBlock, Exit.then]); refine' ret1 rfl ?_ rfl ?_; (case refine'_2 => exact cRes)
      exact ⟨by rw [HX.out]; rfl, hL.below⟩
    | false =>
      have HX := Lib.hid (show q0 = (a && b) from HQ.out)
      clear HQ
      go_upto_region 4 with (first | (with_reducible refine lld hL ?_) | ((with_reducible first | refine lbx hL ?_ | refine lal hL ?_ | refine lbs hL ?_); clear hL; intro bl w1 hL) | ((with_reducible refine lst' hL ?_); clear hL; intro w1 hL))
      refine seq_begin [14, 15, 16, 17, 18, 19, 20, 21, 22, 23, 24, 25, 26, 27, 4] ?_
      apply draw_val
      · intro g w hb hdep; replace hL := hL.grow hb; clear hdep; simp only [fillD, fLa, fLb, sTa, sTb]
        go_wp2
        exact cY
      simp only [apN, apC]
      apply draw_val
      · intro g w hb hdep; replace hL := hL.grow hb; clear hdep; simp only [fillD, fLa, fLb, sTa, sTb]
        go_wp2
        exact cY
      simp only [apN, apC]
      apply draw_val
      · intro g w hb hdep; replace hL := hL.grow hb; have d1 := yv hdep 1; clear hdep; simp only [fillD, fLa, fLb, sTa, sTb]; simp only [d1]
        go_wp2_with (first | (with_reducible refine lld hL ?_) | (with_reducible refine ldD hL ?_))
        exact cY
      simp only [apN, apC]
      apply draw_val
      · intro g w hb hdep; replace hL := hL.grow hb; clear hdep; simp only [fillD, fLa, fLb, sTa, sTb]
        go_wp2
        exact cY
      simp only [apN, apC]
      apply draw_val
      · intro g w hb hdep; replace hL := hL.grow hb; have d3 := yv hdep 3; clear hdep; simp only [fillD, fLa, fLb, sTa, sTb]; simp only [d3]
        go_wp2_with (first | (with_reducible refine lld hL ?_) | (with_reducible refine ldD hL ?_))
        exact cY
      simp only [apN, apC]
      apply draw_val
      · intro g w hb hdep; replace hL := hL.grow hb; have d0 := yv hdep 0; have d2 := yv hdep 2; have d4 := yv hdep 4; clear hdep; simp only [fillD, fLa, fLb, sTa, sTb]; simp only [d0, d2, d4]
        go_wp2_with ((with_reducible refine (HV.out _ hL.below).mono ?_); rintro e w3 ⟨rfl, hb3⟩; dsimp only)
        exact ⟨rfl, _, rfl, hb3, rfl⟩
      simp only [apN, apC]
      apply draw_val
      · intro g w hb hdep; replace hL := hL.grow hb; have d5 := yv hdep 5; clear hdep; simp only [fillD, fLa, fLb, sTa, sTb]; simp only [d5]
        go_wp2
        exact cY
      simp only [apN, apC]
      refine' draw_guard (j := 6) rfl rfl rfl (by decide) (by simp) ?_ ?_; rotate_left
      · intro hcs; simp only [Bool.and_eq_true, beqT, beqF] at hcs; intro g w hb hdep; replace hL := hL.grow hb; clear hdep; simp only [fillD, fLa, fLb, sTa, sTb]
        go_wp2
        exact cY
      simp only [apN, apC]
      refine' draw_guard (j := 6) rfl rfl rfl (by decide) (by simp) ?_ ?_; rotate_left
      · intro hcs; simp only [Bool.and_eq_true, beqT, beqF] at hcs; intro g w hb hdep; replace hL := hL.grow hb; have d7 := yv hdep 7; simp only [hcs, beq_self_eq_true, Bool.and_self, Bool.true_and, Bool.and_true, cnd_true] at d7; clear hdep; simp only [fillD, fLa, fLb, sTa, sTb]; simp only [d7]
        go_wp2_with (first | (with_reducible refine lld hL ?_) | (with_reducible refine ldD hL ?_))
        exact cY
      simp only [apN, apC]
      refine' draw_guard (j := 6) rfl rfl rfl (by decide) (by simp) ?_ ?_; rotate_left
      · intro hcs; simp only [Bool.and_eq_true, beqT, beqF] at hcs; intro g w hb hdep; replace hL := hL.grow hb; clear hdep; simp only [fillD, fLa, fLb, sTa, sTb]
        go_wp2
        exact cY
      simp only [apN, apC]
      refine' draw_guard (j := 6) rfl rfl rfl (by decide) (by simp) ?_ ?_; rotate_left
      · intro hcs; simp only [Bool.and_eq_true, beqT, beqF] at hcs; intro g w hb hdep; replace hL := hL.grow hb; have d9 := yv hdep 9; simp only [hcs, beq_self_eq_true, Bool.and_self, Bool.true_and, Bool.and_true, cnd_true] at d9; clear hdep; simp only [fillD, fLa, fLb, sTa, sTb]; simp only [d9]
        go_wp2_with (first | (with_reducible refine lld hL ?_) | (with_reducible refine ldD hL ?_))
        exact cY
      simp only [apN, apC]
      refine' draw_guard (j := 6) rfl rfl rfl (by decide) (by simp) ?_ ?_; rotate_left
      · intro hcs; simp only [Bool.and_eq_true, beqT, beqF] at hcs; intro g w hb hdep; replace hL := hL.grow hb; clear hdep; simp only [fillD, fLa, fLb, sTa, sTb]
        go_wp2
        exact cY
      simp only [apN, apC]
      refine' draw_guard (j := 6) rfl rfl rfl (by decide) (by simp) ?_ ?_; rotate_left
      · intro hcs; simp only [Bool.and_eq_true, beqT, beqF] at hcs; intro g w hb hdep; replace hL := hL.grow hb; have d8 := yv hdep 8; simp only [hcs, beq_self_eq_true, Bool.and_self, Bool.true_and, Bool.and_true, cnd_true] at d8; have d10 := yv hdep 10; simp only [hcs, beq_self_eq_true, Bool.and_self, Bool.true_and, Bool.and_true, cnd_true] at d10; have d11 := yv hdep 11; simp only [hcs, beq_self_eq_true, Bool.and_self, Bool.true_and, Bool.and_true, cnd_true] at d11; clear hdep; simp only [fillD, fLa, fLb, sTa, sTb]; simp only [d8, d10, d11]
        go_wp2_with (go_at_call 73; refine (HFF.out _ hL.below).mono ?_; rintro e w3 ⟨rfl, hb3⟩; dsimp only)
        exact ⟨rfl, _, rfl, hb3, rfl⟩
      simp only [apN, apC]
      apply draw_val
      · intro g w hb hdep; replace hL := hL.grow hb; have d6 := yv hdep 6; have d12 := yv hdep 12; clear hdep; simp only [fillD, fLa, fLb, sTa, sTb]; simp only [d6, d12]
        first | refine wp_pick_and rfl rfl ?_ | go_wp2
        exact cY
      simp only [apN, apC]
      apply draw_val
      · intro g w hb hdep; replace hL := hL.grow hb; have d13 := yv hdep 13; clear hdep; simp only [fillD, fLa, fLb, sTa, sTb]; simp only [d13]
        go_wp2
        exact cY
      simp only [apN, apC]
      refine seq_end hL (by kernel_rfl) ?_
      intro g w2 hb hR; simp only [List.length_cons, List.length_nil, Nat.reduceAdd] at hR
      have e0 := yv hR 0
      have e1 := yv hR 1
      have e2 := yv hR 2
      have e3 := yv hR 3
      have e4 := yv hR 4
      have e5 := yv hR 5
      have e6 := yv hR 6
      have e7 := yv hR 7
      have e8 := yv hR 8
      have e9 := yv hR 9
      have e10 := yv hR 10
      have e11 := yv hR 11
      have e12 := yv hR 12
      have e13 := yv hR 13
      have e14 := yv hR 14
      clear hR; simp only [fillD, fLa, fLb, sTa, sTb]
      simp only [e0, e1, e2, e3, e4, e5, e6, e7, e8, e9, e10, e11, e12, e13, e14]
      clear e0 e1 e2 e3 e4 e5 e6 e7 e8 e9 e10 e11 e12 e13 e14
      replace hL := hL.grow hb
      clear hb
      go_wp2_with (first | (with_reducible refine lld hL ?_) | ((with_reducible first | refine lbx hL ?_ | refine lal hL ?_ | refine lbs hL ?_); clear hL; intro bl w1 hL) | ((with_reducible refine lst' hL ?_); clear hL; intro w1 hL))
      (try simp only [Exit.inBlock, Exit.then]); refine' ret1 rfl ?_ rfl ?_; (case refine'_2 => exact cRes)
      exact ⟨by rw [HX.out]; rfl, hL.below⟩
end Go.Proofs.YtmbiooaeglpaiaaGreat
set_option linter.unusedSimpArgs false
set_option linter.unusedVariables false
namespace Go.Proofs.YtmbiooaeglpaiaaGreat
open Go.RowKit

set_option maxRecDepth 100000 in
set_option maxHeartbeats 1600000 in
theorem pWithin_err (p : Pg) (is : Nat → Ins) (x y : Pv) (d e : Pd) (w : World) (hn : p.n ≤ 9223372036854775807) (hc : CodeAt w p is) (hx : PicIs w x d) (hy : PicIs w y e) (h0 : cp2 p is d e ≠ 0) :
    Calls Tryz.prog 13 #[p.v, x.v, y.v] w fun q w' => q = .returned (.tuple #[.bool false, .int .i64 (cp2 p is d e)]) ∧ Below w.heap.size w w' := by
  have HR := Lib.hid (fun (b : Nat) (w' : World) (hb : Below w.heap.size w w') (hh : w'.heap[b]? = some (.cells (x.cells ++ y.cells).toArray 28 (0, 0))) => (show Calls Tryz.prog 20 #[p.v, .slice (some ⟨b, 0, none⟩) 2 2] w' fun q w2 => q = .returned (.int .i64 (cp2 p is d e)) ∧ Below w'.heap.size w' w2 from pready_any p is (some ⟨b, 0, none⟩) 2 2 (pick2 x y) (pick2 d e) w' hn (hc.grow hb) (pics2 hh (hx.grow hb) (hy.grow hb))))
  generalize cp2 p is d e = c at HR h0 ⊢
  have k0 : (c != 0) = true := by simpa using h0
  clear h0 hc hx hy
  have hL := Loc.start w
  go_enter Tryz.func13, Tryz.ntmps13
  go_wp2_with (first | (with_reducible refine lld hL ?_) | ((with_reducible first | refine lbx hL ?_ | refine lal hL ?_ | refine lbs hL ?_); clear hL; intro bl w1 hL) | ((with_reducible refine lst' hL ?_); clear hL; intro w1 hL) | (go_at_call 20; refine (HR.out bl _ hL.below (hL.heap (by repeat (first | exact InL.head | apply InL.tail)))).mono ?_; rintro e w1 ⟨rfl, hb⟩; replace hL := hL.grow hb; clear hb; dsimp only))
  (try simp only [Exit.inBlock, Exit.then]); refine' ret2 rfl ?_ ?_ rfl ?_; (case refine'_3 => exact cRes); (case refine'_4 => exact cRes)
  exact ⟨rfl, hL.below⟩

set_option maxRecDepth 100000 in
set_option maxHeartbeats 1600000 in
theorem pWithin_ok (p : Pg) (is : Nat → Ins) (x y : Pv) (d e : Pd) (w : World) (hn : p.n ≤ 9223372036854775807) (hc : CodeAt w p is) (hx : PicIs w x d) (hy : PicIs w y e) (h0 : cp2 p is d e = 0) :
    Calls Tryz.prog 13 #[p.v, x.v, y.v] w fun q w' => q = .returned (.tuple #[.bool (insideP d e), .int .i64 0]) ∧ Below w.heap.size w w' := by
  have HR := Lib.hid (fun (b : Nat) (w' : World) (hb : Below w.heap.size w w') (hh : w'.heap[b]? = some (.cells (x.cells ++ y.cells).toArray 28 (0, 0))) => (show Calls Tryz.prog 20 #[p.v, .slice (some ⟨b, 0, none⟩) 2 2] w' fun q w2 => q = .returned (.int .i64 (cp2 p is d e)) ∧ Below w'.heap.size w' w2 from pready_any p is (some ⟨b, 0, none⟩) 2 2 (pick2 x y) (pick2 d e) w' hn (hc.grow hb) (pics2 hh (hx.grow hb) (hy.grow hb))))
  rw [h0] at HR
  have HB := Lib.hid (fun w' (hb : Below w.heap.size w w') => pinside_any x y d e w' (hx.grow hb) (hy.grow hb))
  generalize insideP d e = q0 at HB ⊢
  clear hc hx hy h0
  have hL := Loc.start w
  go_enter Tryz.func13, Tryz.ntmps13
  go_wp2_with (first | (with_reducible refine lld hL ?_) | ((with_reducible first | refine lbx hL ?_ | refine lal hL ?_ | refine lbs hL ?_); clear hL; intro bl w1 hL) | ((with_reducible refine lst' hL ?_); clear hL; intro w1 hL) | (go_at_call 20; refine (HR.out bl _ hL.below (hL.heap (by repeat (first | exact InL.head | apply InL.tail)))).mono ?_; rintro e w1 ⟨rfl, hb⟩; replace hL := hL.grow hb; clear hb; dsimp only) | (go_at_call 36; refine (HB.out _ hL.below).mono ?_; rintro e w1 ⟨rfl, hb⟩; replace hL := hL.grow hb; clear hb; dsimp only))
  (try simp only [Exit.inBlock, Exit.then]); refine' ret2 rfl ?_ ?_ rfl ?_; (case refine'_3 => exact cRes); (case refine'_4 => exact cRes)
  exact ⟨rfl, hL.below⟩
end Go.Proofs.YtmbiooaeglpaiaaGreat
set_option linter.unusedSimpArgs false
set_option linter.unusedVariables false
namespace Go.Proofs.YtmbiooaeglpaiaaGreat
open Go.RowKit

set_option maxRecDepth 100000 in
set_option maxHeartbeats 1600000 in
theorem sameGs_any (a b : Sl) (ds : List Res) (w : World) (ha : RowIs w a ds) (hb : RowIs w b ds) :
    Calls Tryz.prog 82 #[a.v, b.v] w fun q w' => q = .returned (.bool true) ∧ Below w.heap.size w w' := by
  obtain ⟨sa, hal, hai⟩ := ha.ex
  obtain ⟨sb, hbl, hbi⟩ := hb.ex
  have hna := ha.n
  have hnb := hb.n
  have hma := ha.m
  obtain ⟨ba, oa, hpa, hca⟩ := hal.ex
  obtain ⟨bb, ob, hpb, hcb⟩ := hbl.ex
  obtain ⟨ap, an, ac⟩ := a
  obtain ⟨bp, bn, bc⟩ := b
  dsimp only at hna hnb hpa hca hpb hcb hai hbi hma
  subst hna hnb
  have HS := Lib.hid (fun k (hk : k < ds.length) w' (hb : Below w.heap.size w w') => rSameGuess_any (ds.getD k zeroD) (sa k) (sb k) w' ((hai k hk).grow hb) ((hbi k hk).grow hb))
  have HPA := Lib.hid hpa
  have HPB := Lib.hid hpb
  have HCA := Lib.hid hca
  have HCB := Lib.hid hcb
  clear ha hb hal hbl hai hbi hpa hpb hca hcb
  dsimp only [Sl.v]
  have hL := Loc.start w
  go_enter Tryz.func82, Tryz.ntmps82
  go_wp2_with (first | (with_reducible refine lld hL ?_) | ((with_reducible first | refine lbx hL ?_ | refine lal hL ?_ | refine lbs hL ?_); clear hL; intro bl w1 hL) | ((with_reducible refine lst' hL ?_); clear hL; intro w1 hL))
  go_loopw [5] (fun c wr => ∃ k : Nat, k ≤ ds.length ∧ c = .int .i64 k ∧ Loc w wr [] []) (fun c _ => ds.length - (intOf c).toNat)
  case atStart => exact ⟨0, Nat.zero_le _, rfl, hL⟩
  case round =>
    obtain ⟨k, hk, rfl, hL⟩ := hrel
    by_cases hlt : k < ds.length
    · obtain rfl := HPA.out (by omega)
      obtain rfl := HPB.out (by omega)
      clear HPA HPB
      have hr1 := ReadsAt.agg (P := Tryz.prog) tGuess (HCA.out k hlt).1 (HCA.out k hlt).2 rfl
      have hr2 := ReadsAt.agg (P := Tryz.prog) tGuess (HCB.out k hlt).1 (HCB.out k hlt).2 rfl
      have hs := HS.out k hlt
      generalize ds.getD k zeroD = d at hr1 hr2 hs
      generalize sa k = s at hr1 hs
      generalize sb k = t at hr2 hs
      obtain ⟨dn, ⟨ds', dlo, dhi⟩, dt, df, dl⟩ := d
      obtain ⟨sp, sc, scap⟩ := s
      obtain ⟨tp, tc, tcap⟩ := t
      dsimp only [Res.gu] at hr1 hr2 hs
      have HR1 := Lib.hid hr1
      have HR2 := Lib.hid hr2
      have HSK := Lib.hid hs
      clear hr1 hr2 hs
      go_upto_region 6 with (first | (with_reducible refine lld hL ?_) | ((with_reducible first | refine lbx hL ?_ | refine lal hL ?_ | refine lbs hL ?_); clear hL; intro bl w1 hL) | ((with_reducible refine lst' hL ?_); clear hL; intro w1 hL))
      refine draw_begin [17, 18, 19, 20, 21, 22, 23, 24, 25, 26] ?_
      apply draw_val
      · intro g w hb hdep; replace hL := hL.grow hb; clear hdep; simp only [fillD, fLa, fLb, sTa, sTb]
        go_wp2
        exact cY
      simp only [apN, apC]
      apply draw_val
      · intro g w hb hdep; replace hL := hL.grow hb; clear hdep; simp only [fillD, fLa, fLb, sTa, sTb]
        go_wp2
        exact cY
      simp only [apN, apC]
      apply draw_val
      · intro g w hb hdep; replace hL := hL.grow hb; have d0 := yv hdep 0; have d1 := yv hdep 1; clear hdep; simp only [fillD, fLa, fLb, sTa, sTb]; simp only [d0, d1]
        go_wp2
        exact cY
      simp only [apN, apC]
      apply draw_val
      · intro g w hb hdep; replace hL := hL.grow hb; have d2 := yv hdep 2; clear hdep; simp only [fillD, fLa, fLb, sTa, sTb]; simp only [d2]
        refine loc_loadB HR1.out hL rfl rfl ?_
        exact cY
      simp only [apN, apC]
      apply draw_val
      · intro g w hb hdep; replace hL := hL.grow hb; clear hdep; simp only [fillD, fLa, fLb, sTa, sTb]
        go_wp2
        exact cY
      simp only [apN, apC]
      apply draw_val
      · intro g w hb hdep; replace hL := hL.grow hb; clear hdep; simp only [fillD, fLa, fLb, sTa, sTb]
        go_wp2
        exact cY
      simp only [apN, apC]
      apply draw_val
      · intro g w hb hdep; replace hL := hL.grow hb; have d4 := yv hdep 4; have d5 := yv hdep 5; clear hdep; simp only [fillD, fLa, fLb, sTa, sTb]; simp only [d4, d5]
        go_wp2
        exact cY
      simp only [apN, apC]
      apply draw_val
      · intro g w hb hdep; replace hL := hL.grow hb; have d6 := yv hdep 6; clear hdep; simp only [fillD, fLa, fLb, sTa, sTb]; simp only [d6]
        refine loc_loadB HR2.out hL rfl rfl ?_
        exact cY
      simp only [apN, apC]
      apply draw_val
      · intro g w hb hdep; replace hL := hL.grow hb; have d3 := yv hdep 3; have d7 := yv hdep 7; clear hdep; simp only [fillD, fLa, fLb, sTa, sTb]; simp only [d3, d7]
        go_wp2_with (go_at_call 106; refine (HSK.out _ hL.below).mono ?_; rintro e w3 ⟨rfl, hb3⟩; dsimp only)
        exact ⟨rfl, _, rfl, hb3, rfl⟩
      simp only [apN, apC]
      apply draw_val
      · intro g w hb hdep; replace hL := hL.grow hb; have d8 := yv hdep 8; clear hdep; simp only [fillD, fLa, fLb, sTa, sTb]; simp only [d8]
        go_wp2
        exact cY
      simp only [apN, apC]
      refine draw_end hL (by kernel_rfl) (by kernel_rfl) ?_
      intro g w2 hb hR; simp only [List.length_cons, List.length_nil, Nat.reduceAdd] at hR
      have e0 := yv hR 0
      have e1 := yv hR 1
      have e2 := yv hR 2
      have e3 := yv hR 3
      have e4 := yv hR 4
      have e5 := yv hR 5
      have e6 := yv hR 6
      have e7 := yv hR 7
      have e8 := yv hR 8
      have e9 := yv hR 9
      clear hR; simp only [fillD, fLa, fLb, sTa, sTb]
      simp only [e0, e1, e2, e3, e4, e5, e6, e7, e8, e9]
      clear e0 e1 e2 e3 e4 e5 e6 e7 e8 e9
      replace hL := hL.grow hb
      clear hb
      go_wp2_with (first | (with_reducible refine lld hL ?_) | ((with_reducible first | refine lbx hL ?_ | refine lal hL ?_ | refine lbs hL ?_); clear hL; intro bl w1 hL) | ((with_reducible refine lst' hL ?_); clear hL; intro w1 hL))
      go_roundw
      case rel => exact ⟨k + 1, by omega, by go_num, hL⟩
      case measure => simp [intOf]; omega
    · obtain rfl : k = ds.length := by omega
      clear hlt
      go_wp2_with (first | (with_reducible refine lld hL ?_) | ((with_reducible first | refine lbx hL ?_ | refine lal hL ?_ | refine lbs hL ?_); clear hL; intro bl w1 hL) | ((with_reducible refine lst' hL ?_); clear hL; intro w1 hL))
      (try simp only [Exit.inBlock, Exit.then]); refine' ret1 rfl ?_ rfl ?_; (case refine'_2 => exact cRes)
      exact ⟨rfl, hL.below⟩

set_option maxRecDepth 100000 in
set_option maxHeartbeats 1600000 in
theorem samePic_any (x y : Pv) (d : Pd) (w : World) (hx : PicIs w x d) (hy : PicIs w y d) :
    Calls Tryz.prog 41 #[x.v, y.v] w fun q w' => q = .returned (.bool true) ∧ Below w.heap.size w w' := by
  have HV := Lib.hid (fun w' (hb : Below w.heap.size w w') => sameGs_any x.vars y.vars d.vars w' (hx.vars.grow hb) (hy.vars.grow hb))
  obtain ⟨rx, hrx, hrx2⟩ := hx.fields.ex
  obtain ⟨ry, hry, hry2⟩ := hy.fields.ex
  have hnx := hx.fields.n
  have hny := hy.fields.n
  have hmx := hx.fields.m
  rw [hnx] at hrx hrx2
  rw [hny] at hry hry2
  have HE := Lib.hid (fun k (hk : k < d.fields.length) w' (hb : Below w.heap.size w w') => sameGs_any (rx k) (ry k) (d.fields.getD k []) w' ((hrx2 k hk).grow hb) ((hry2 k hk).grow hb))
  obtain ⟨bx, ox, hpx, hcx⟩ := (rows_list hrx).ex
  obtain ⟨by', oy, hpy, hcy⟩ := (rows_list hry).ex
  have hxe := hx.e
  have hye := hy.e
  obtain ⟨xn, ⟨xp, xvn, xc⟩, ⟨xfp, xfn, xfc⟩⟩ := x
  obtain ⟨yn, ⟨yp, yvn, yc⟩, ⟨yfp, yfn, yfc⟩⟩ := y
  dsimp only [Sl.v] at hnx hny hpx hcx hpy hcy hxe hye hmx HV
  subst hxe hye hnx hny
  have HPX := Lib.hid hpx
  have HPY := Lib.hid hpy
  have HCX := Lib.hid hcx
  have HCY := Lib.hid hcy
  clear hx hy hrx hrx2 hry hry2 hpx hcx hpy hcy
  generalize d.none = dn
  have hL := Loc.start w
  go_enter Tryz.func41, Tryz.ntmps41
  cases dn
  all_goals
    go_step
    go_step
    go_step
    ((with_reducible refine lbx hL ?_); clear hL; intro b2 w1 hL)
    ((with_reducible refine lbx hL ?_); clear hL; intro b3 w1 hL)
    go_wp2_with (first | (with_reducible refine lld hL ?_) | ((with_reducible first | refine lbx hL ?_ | refine lal hL ?_ | refine lbs hL ?_); clear hL; intro bl w1 hL) | ((with_reducible refine lst' hL ?_); clear hL; intro w1 hL) | (go_at_call 82; refine (HV.out _ hL.below).mono ?_; rintro e w1 ⟨rfl, hb⟩; replace hL := hL.grow hb; clear hb; dsimp only))
    go_loopw [5] (fun c wr => ∃ k : Nat, k ≤ d.fields.length ∧ c = .int .i64 k ∧ Loc w wr [(b3, 28, [_, .slice yp yvn yc, .slice yfp d.fields.length yfc]), (b2, 28, [_, .slice xp xvn xc, .slice xfp d.fields.length xfc])] []) (fun c _ => d.fields.length - (intOf c).toNat)
    case atStart => exact ⟨0, Nat.zero_le _, rfl, hL⟩
    case round =>
      obtain ⟨k, hk, rfl, hL⟩ := hrel
      by_cases hlt : k < d.fields.length
      · obtain rfl := HPX.out (by omega)
        obtain rfl := HPY.out (by omega)
        clear HPX HPY
        have hr1 := HCX.out k hlt
        have hr2 := HCY.out k hlt
        rw [Nat.mul_one] at hr1 hr2
        have hs := HE.out k hlt
        generalize rx k = s at hr1 hs
        generalize ry k = t at hr2 hs
        obtain ⟨sp, sc, scap⟩ := s
        obtain ⟨tp, tc, tcap⟩ := t
        dsimp only [Sl.v] at hr1 hr2 hs
        have HR1 := Lib.hid hr1
        have HR2 := Lib.hid hr2
        have HSK := Lib.hid hs
        clear hr1 hr2 hs
        go_upto_region 6 with (first | (with_reducible refine lld hL ?_) | ((with_reducible first | refine lbx hL ?_ | refine lal hL ?_ | refine lbs hL ?_); clear hL; intro bl w1 hL) | ((with_reducible refine lst' hL ?_); clear hL; intro w1 hL))
        refine draw_begin [35, 36, 37, 38, 39, 40, 41, 42, 43, 44, 45, 46] ?_
        apply draw_val
        · intro g w hb hdep; replace hL := hL.grow hb; clear hdep; simp only [fillD, fLa, fLb, sTa, sTb]
          go_wp2
          exact cY
        simp only [apN, apC]
        apply draw_val
        · intro g w hb hdep; replace hL := hL.grow hb; have d0 := yv hdep 0; clear hdep; simp only [fillD, fLa, fLb, sTa, sTb]; simp only [d0]
          go_wp2_with (first | (with_reducible refine lld hL ?_) | (with_reducible refine ldD hL ?_))
          exact cY
        simp only [apN, apC]
        apply draw_val
        · intro g w hb hdep; replace hL := hL.grow hb; clear hdep; simp only [fillD, fLa, fLb, sTa, sTb]
          go_wp2
          exact cY
        simp only [apN, apC]
        apply draw_val
        · intro g w hb hdep; replace hL := hL.grow hb; have d1 := yv hdep 1; have d2 := yv hdep 2; clear hdep; simp only [fillD, fLa, fLb, sTa, sTb]; simp only [d1, d2]
          go_wp2
          exact cY
        simp only [apN, apC]
        apply draw_val
        · intro g w hb hdep; replace hL := hL.grow hb; have d3 := yv hdep 3; clear hdep; simp only [fillD, fLa, fLb, sTa, sTb]; simp only [d3]
          refine loc_loadB HR1.out hL rfl rfl ?_
          exact cY
        simp only [apN, apC]
        apply draw_val
        · intro g w hb hdep; replace hL := hL.grow hb; clear hdep; simp only [fillD, fLa, fLb, sTa, sTb]
          go_wp2
          exact cY
        simp only [apN, apC]
        apply draw_val
        · intro g w hb hdep; replace hL := hL.grow hb; have d5 := yv hdep 5; clear hdep; simp only [fillD, fLa, fLb, sTa, sTb]; simp only [d5]
          go_wp2_with (first | (with_reducible refine lld hL ?_) | (with_reducible refine ldD hL ?_))
          exact cY
        simp only [apN, apC]
        apply draw_val
        · intro g w hb hdep; replace hL := hL.grow hb; clear hdep; simp only [fillD, fLa, fLb, sTa, sTb]
          go_wp2
          exact cY
        simp only [apN, apC]
        apply draw_val
        · intro g w hb hdep; replace hL := hL.grow hb; have d6 := yv hdep 6; have d7 := yv hdep 7; clear hdep; simp only [fillD, fLa, fLb, sTa, sTb]; simp only [d6, d7]
          go_wp2
          exact cY
        simp only [apN, apC]
        apply draw_val
        · intro g w hb hdep; replace hL := hL.grow hb; have d8 := yv hdep 8; clear hdep; simp only [fillD, fLa, fLb, sTa, sTb]; simp only [d8]
          refine loc_loadB HR2.out hL rfl rfl ?_
          exact cY
        simp only [apN, apC]
        apply draw_val
        · intro g w hb hdep; replace hL := hL.grow hb; have d4 := yv hdep 4; have d9 := yv hdep 9; clear hdep; simp only [fillD, fLa, fLb, sTa, sTb]; simp only [d4, d9]
          go_wp2_with (go_at_call 82; refine (HSK.out _ hL.below).mono ?_; rintro e w3 ⟨rfl, hb3⟩; dsimp only)
          exact ⟨rfl, _, rfl, hb3, rfl⟩
        simp only [apN, apC]
        apply draw_val
        · intro g w hb hdep; replace hL := hL.grow hb; have d10 := yv hdep 10; clear hdep; simp only [fillD, fLa, fLb, sTa, sTb]; simp only [d10]
          go_wp2
          exact cY
        simp only [apN, apC]
        refine draw_end hL (by kernel_rfl) (by kernel_rfl) ?_
        intro g w2 hb hR; simp only [List.length_cons, List.length_nil, Nat.reduceAdd] at hR
        have e0 := yv hR 0
        have e1 := yv hR 1
        have e2 := yv hR 2
        have e3 := yv hR 3
        have e4 := yv hR 4
        have e5 := yv hR 5
        have e6 := yv hR 6
        have e7 := yv hR 7
        have e8 := yv hR 8
        have e9 := yv hR 9
        have e10 := yv hR 10
        have e11 := yv hR 11
        clear hR; simp only [fillD, fLa, fLb, sTa, sTb]
        simp only [e0, e1, e2, e3, e4, e5, e6, e7, e8, e9, e10, e11]
        clear e0 e1 e2 e3 e4 e5 e6 e7 e8 e9 e10 e11
        replace hL := hL.grow hb
        clear hb
        go_wp2_with (first | (with_reducible refine lld hL ?_) | ((with_reducible first | refine lbx hL ?_ | refine lal hL ?_ | refine lbs hL ?_); clear hL; intro bl w1 hL) | ((with_reducible refine lst' hL ?_); clear hL; intro w1 hL))
        go_roundw
        case rel => exact ⟨k + 1, by omega, by go_num, hL⟩
        case measure => simp [intOf]; omega
      · obtain rfl : k = d.fields.length := by omega
        clear hlt
        go_wp2_with (first | (with_reducible refine lld hL ?_) | ((with_reducible first | refine lbx hL ?_ | refine lal hL ?_ | refine lbs hL ?_); clear hL; intro bl w1 hL) | ((with_reducible refine lst' hL ?_); clear hL; intro w1 hL))
        (try simp only [Exit.inBlock, Exit.then]); refine' ret1 rfl ?_ rfl ?_; (case refine'_2 => exact cRes)
        exact ⟨rfl, hL.below⟩
end Go.Proofs.YtmbiooaeglpaiaaGreat
set_option linter.unusedSimpArgs false
set_option linter.unusedVariables false
namespace Go.Proofs.YtmbiooaeglpaiaaGreat
open Go.RowKit

set_option maxRecDepth 100000 in
set_option maxHeartbeats 1600000 in
theorem pictureIs_ok (x y : Pv) (d : Pd) (w : World) (hx : PicIs w x d) (hy : PicIs w y d) :
    Calls Tryz.prog 19 #[x.v, .int .i64 0, .int .i64 0, y.v] w fun q w' => q = .returned (.bool true) ∧ Below w.heap.size w w' := by
  have HI := Lib.hid (fun w' (hb : Below w.heap.size w w') => samePic_any x y d w' (hx.grow hb) (hy.grow hb))
  clear hx hy
  obtain ⟨xn, ⟨xp, xvn, xc⟩, ⟨xfp, xfn, xfc⟩⟩ := x
  obtain ⟨yn, ⟨yp, yvn, yc⟩, ⟨yfp, yfn, yfc⟩⟩ := y
  have hL := Loc.start w
  go_enter Tryz.func19, Tryz.ntmps19
  go_wp2_with (first | (with_reducible refine lld hL ?_) | ((with_reducible first | refine lbx hL ?_ | refine lal hL ?_ | refine lbs hL ?_); clear hL; intro bl w1 hL) | ((with_reducible refine lst' hL ?_); clear hL; intro w1 hL) | (go_at_call 41; refine (HI.out _ hL.below).mono ?_; rintro e w1 ⟨rfl, hb⟩; replace hL := hL.grow hb; clear hb; dsimp only))
  (try simp only [Exit.inBlock, Exit.then]); refine' ret1 rfl ?_ rfl ?_; (case refine'_2 => exact cRes)
  exact ⟨rfl, hL.below⟩
set_option maxRecDepth 100000 in
set_option maxHeartbeats 1600000 in
theorem pictureIs_err (c : Int) (hc : c ≠ 0) (y : Pv) (w : World) :
    Calls Tryz.prog 19 #[zeroP.v, .int .i64 c, .int .i64 c, y.v] w fun q w' => q = .returned (.bool true) ∧ Below w.heap.size w w' := by
  have HI := Lib.hid (fun w' => samePic_any zeroP zeroP zeroPd w' (PicIs.zero w') (PicIs.zero w'))
  have k0 : (c != 0) = true := by simpa using hc
  clear hc
  obtain ⟨yn, ⟨yp, yvn, yc⟩, ⟨yfp, yfn, yfc⟩⟩ := y
  have hL := Loc.start w
  go_enter Tryz.func19, Tryz.ntmps19
  go_wp2_with (first | (with_reducible refine lld hL ?_) | ((with_reducible first | refine lbx hL ?_ | refine lal hL ?_ | refine lbs hL ?_); clear hL; intro bl w1 hL) | ((with_reducible refine lst' hL ?_); clear hL; intro w1 hL) | (go_at_call 41; refine (HI.out _).mono ?_; rintro e w1 ⟨rfl, hb⟩; replace hL := hL.grow hb; clear hb; dsimp only))
  (try simp only [Exit.inBlock, Exit.then]); refine' ret1 rfl ?_ rfl ?_; (case refine'_2 => exact cRes)
  exact ⟨rfl, hL.below⟩
end Go.Proofs.YtmbiooaeglpaiaaGreat
