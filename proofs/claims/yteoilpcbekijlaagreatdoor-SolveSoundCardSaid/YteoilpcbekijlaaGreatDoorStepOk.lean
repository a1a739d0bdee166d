/-  -/
import Derived.Test.YteoilpcbekijlaaGreatDoorStpb
import Derived.Test.YteoilpcbekijlaaGreatDoorPicX0
import Derived.Test.YteoilpcbekijlaaGreatDoorEnd0
import Derived.Test.YteoilpcbekijlaaGreatDoorSpn
set_option linter.unusedSimpArgs false
set_option linter.unusedVariables false
set_option maxRecDepth 100000
set_option maxHeartbeats 1000000
namespace Go.Proofs.YteoilpcbekijlaaGreatDoor
open Go.RowKit
section
variable {p : Pg} {is : Nat → Ins}
theorem span_fine {lo hi:Int}(h1:-2147483648≤lo) (h2:lo≤hi) (h3:hi≤2147483647):checkSpan ⟨false,lo,hi⟩=0:=by
 unfold checkSpan inRange
 have e1:(decide (-2147483648≤lo)&&decide (lo≤2147483647))=true:=by simp;omega
 have e2:(decide (-2147483648≤hi)&&decide (hi≤2147483647))=true:=by simp;omega
 simp[e1,e2]
 omega
theorem OkD.join {f:Span→Span→Span}(hf:Puts f) {d e:Res}(h:OkD p is d) (h' : OkD p is e):OkD p is (bothD f d e):=OkD.of (rightD_both hf h.right h'.right)
theorem OkD.noth:OkD p is nothR:=⟨rfl,(fun x hx=>by cases hx),List.Pairwise.nil⟩
theorem OkD.zero:OkD p is zeroD:=⟨rfl,(fun x hx=>by cases hx),List.Pairwise.nil⟩
theorem OkD.plain {d:Res}(h1:checkSpan d.span=0) (h2:d.l=[]):OkD p is d:=⟨h1,(fun x hx=>by rw[h2]at hx;cases hx),by rw[h2];exact List.Pairwise.nil⟩
theorem OkPd.var {d:Pd}(h:OkPd p is d) (k:Nat):OkD p is (d.var k):=by
 rcases Nat.lt_or_ge k d.vars.length with h1|h1
 ·exact h.vg _ (getD_mem h1)
 ·show OkD p is (d.vars.getD k zeroD)
  rw[List.getD_eq_getElem?_getD,List.getElem?_eq_none h1];exact OkD.zero
theorem OkPd.field {d:Pd}(h:OkPd p is d) (m n:Nat):OkD p is (d.field m n):=by
 rcases Nat.lt_or_ge m d.fields.length with h1|h1
 ·rcases Nat.lt_or_ge n (d.row m).length with h2|h2
  ·exact h.fg m (by rw[← h.fields];exact h1) _ (getD_mem (l:=d.row m) h2)
  ·show OkD p is ((d.row m).getD n zeroD)
   rw[List.getD_eq_getElem?_getD,List.getElem?_eq_none h2];exact OkD.zero
 ·show OkD p is ((d.fields.getD m []).getD n zeroD)
  rw[List.getD_eq_getElem?_getD (l:=d.fields),List.getElem?_eq_none h1];exact OkD.zero
theorem mem_set {α:Type}{l:List α}{k:Nat}{v x:α}(h:x∈l.set k v):x=v∨x∈l:=by
 rcases List.mem_or_eq_of_mem_set h with h|h
 ·exact .inr h
 ·exact .inl h
theorem OkPd.setVar {d:Pd}(h:OkPd p is d) (k:Nat) {g:Res}(hg:OkD p is g):OkPd p is (d.setVar k g):=
 ⟨h.none,by show ((d.vars.set k g).length:Int)=_;rw[List.length_set];exact h.vars,h.fields,h.rows,fun x hx=>by
  rcases mem_set hx with rfl|hx
  ·exact hg
  ·exact h.vg x hx,h.fg,h.stray⟩
theorem OkPd.setRow {d:Pd}(h:OkPd p is d) {m:Nat}(hm:m<p.n) {l:List Res}(hl:l.length=(d.row m).length) (hg:∀ g∈l,OkD p is g) (hs:isSite p is m=true):OkPd p is (d.setRow m l):=by
 have hmf:m<d.fields.length:=by rw[h.fields];exact hm
 have hrow:∀ k,(d.setRow m l).row k=if k=m then l else d.row k:=fun k=>getD_set _ _ _ _ _ hmf
 refine⟨h.none,h.vars,by show (d.fields.set m l).length=_;rw[List.length_set];exact h.fields,fun k hk=>?_,h.vg,fun k hk g hgk=>?_,fun k hk hsk g hgk=>?_⟩
 ·rw[hrow]
  split
  ·rename_i h1;rw[hl,← h1];exact h.rows k hk
  ·exact h.rows k hk
 ·rw[hrow]at hgk
  split at hgk
  ·exact hg g hgk
  ·exact h.fg k hk g hgk
 ·rw[hrow]at hgk
  split at hgk
  ·rename_i h1;rw[h1,hs]at hsk;cases hsk
  ·exact h.stray k hk hsk g hgk
theorem OkPd.setField {d:Pd}(h:OkPd p is d) {m:Nat}(hm:m<p.n) (n:Nat) {g:Res}(hg:OkD p is g) (hs:isSite p is m=true):OkPd p is (d.setField m n g):=by
 refine h.setRow hm (l:=(d.row m).set n g) (by rw[List.length_set]) (fun x hx=>?_) hs
 rcases mem_set hx with rfl|hx
 ·exact hg
 ·exact h.fg m hm x hx
theorem OkD.truly {d:Res}(h:OkD p is d):OkD p is (trulyD d):=by
 refine⟨?_,h.sites,h.asc⟩
 obtain⟨h1,h2,h3⟩:=checkSpan_zero h.span
 obtain⟨h4,h5,h6,h7⟩:=h1
 show checkSpan (trulyS d.span)=0
 obtain⟨n,⟨sn,lo,hi⟩,t,f,l⟩:=d
 dsimp only at h2 h3 h4 h5 h6 h7 ⊢
 have hsp:=h.span
 dsimp only at hsp
 unfold trulyS
 split
 ·rfl
 ·rename_i q1
  split
  ·rename_i q2
   simp only[Bool.and_eq_true,Bool.not_eq_true',beq_iff_eq]at q1 q2
   obtain⟨e1,e2⟩:=q2
   subst e1 e2
   have e3:hi≠0:=fun e=>q1 ⟨⟨rfl,rfl⟩,e⟩
   have h8:(0:Int)≤hi:=h2
   have h9:hi≤2147483647:=h7
   exact span_fine (lo:=1) (hi:=hi) (by omega) (by omega) (by omega)
  ·rename_i q2
   split
   ·rename_i q3
    simp only[Bool.and_eq_true,Bool.not_eq_true',beq_iff_eq]at q2 q3
    obtain⟨e1,e2⟩:=q3
    subst e1 e2
    have e3:lo≠0:=fun e=>q2 ⟨rfl,e⟩
    have h8:lo≤(0:Int):=h2
    have h9:-2147483648≤lo:=h4
    exact span_fine (lo:=lo) (hi:=-1) (by omega) (by omega) (by omega)
   ·exact hsp
theorem OkD.falsely {d:Res}(h:OkD p is d):OkD p is (falselyD d):=by
 refine OkD.plain ?_ rfl
 show checkSpan (common d.span ⟨false,0,0⟩)=0
 unfold common
 split
 ·rfl
 ·rename_i q
  simp only[Bool.or_eq_true,decide_eq_true_eq,not_or]at q
  have hsp:=h.span
  obtain⟨n,⟨sn,lo,hi⟩,t,f,l⟩:=d
  dsimp only at q hsp ⊢
  have e1:max lo 0=0∧min hi 0=0:=by omega
  rw[e1.1,e1.2];rfl
theorem OkD.get {d:Pd}(h:OkPd p is d) (n:Nat):∀ (l:List Int) (g:Res),OkD p is g→OkD p is (l.foldl (fun g s=>bothD both g (d.field s.toNat n)) g)
 | [],_,hg=>hg
 | s::l,_,hg=>OkD.get h n l _ (hg.join puts_both (h.field _ _))
theorem OkPd.put (n:Nat) {b:Res}(hb:OkD p is b):∀ (l:List Int) (d:Pd),OkPd p is d→(∀ x∈l,isSite p is x=true)→OkPd p is (putD d n b l)
 | [],_,h,_=>h
 | s::l,d,h,hl=>by
  have h1:=hl s List.mem_cons_self
  obtain⟨m,h2,h3,_⟩:=isSite_nat h1
  refine OkPd.put n hb l _ (h.setField (m:=s.toNat) (by omega) n ((h.field _ _).join puts_both hb) ?_) (fun x hx=>hl x (List.mem_cons_of_mem _ hx))
  rw[h2];rw[h2]at h1;exact h1
theorem made_ok {k:Int}{s t:Span}(hs:checkSpan s=0) (ht:checkSpan t=0):checkSpan (made k s t)=0:=by
 cases hsn:s.none with
 | true=>unfold made;rw[hsn];rfl
 | false=>
  cases htn:t.none with
  | true=>unfold made;rw[htn,Bool.or_true];rfl
  | false=>
   have h1:=(checkSpan_zero hs).2.1
   have h2:=(checkSpan_zero ht).2.1
   exact(made_sound hsn htn (Int.le_refl _) h1 (Int.le_refl _) h2).1
theorem madeG_ok {k:Int}{d e:Res}{s t:Sl}(hd:OkD p is d) (he:OkD p is e):OkD p is (madeG k (d.gu s) (e.gu t) d.l e.l).1:=by
 unfold madeG
 split
 ·exact OkD.noth
 split
 ·show OkD p is ⟨d.null,both d.span noSpan,d.tr,d.fa,mixS d.l []⟩
  rw[both_none hd.span,mix_nil hd.asc]
  exact⟨hd.span,hd.sites,hd.asc⟩
 split
 ·exact OkD.plain rfl rfl
 split
 ·exact OkD.plain rfl rfl
 ·refine OkD.plain ?_ rfl
  show checkSpan (twoG k (d.gu s) (e.gu t)).span=0
  unfold twoG
  split
  ·rfl
  split
  ·rfl
  ·exact made_ok hd.span he.span
end
theorem stepD_ok {p:Pg}{is:Nat→Ins}{d:Pd}{i:Nat}(hp:checkProg p is=0) (h:OkPd p is d) (hi:i<p.n):∀ e∈(stepD (is i) i d).es,(0≤e.1∧e.1≤p.n)∧OkPd p is e.2:=by
 have hr:=ready_of ((prog_right hp).2 i hi)
 have hset:∀ (k:Nat) (g:Res),OkD p is g→∀ e∈setE d i k g,(0≤e.1∧e.1≤p.n)∧OkPd p is e.2:=by
  intro k g hg e he
  unfold setE at he
  split at he
  ·cases he
  ·rw[List.mem_singleton.1 he]
   exact⟨by dsimp only;omega,h.setVar k hg⟩
 have hyes:∀ (b:Bool) (go:Int) (k:Nat) (g:Res),(0≤go∧go≤p.n)→OkD p is g→∀ e∈(if b=true then [(go,d.setVar k g)] else []),(0≤e.1∧e.1≤p.n)∧OkPd p is e.2:=by
  intro b go k g hgo hg e he
  split at he
  ·rw[List.mem_singleton.1 he]
   exact⟨hgo,h.setVar k hg⟩
  ·cases he
 have hon:(0:Int)≤(i:Int)+1∧(i:Int)+1≤p.n:=by omega
 intro e he
 unfold stepD at he
 split at he
 ·rename_i hk
  refine hset _ _ (OkD.plain ?_ ?_) e he
  ·unfold plainD
   split
   ·rename_i h1
    have h2:=hr.n1 h1
    exact span_fine h2.1 (Int.le_refl _) h2.2
   split
   ·rename_i h1
    have h2:=hr.n14 h1
    exact span_fine (by omega) (by omega) (by omega)
   split
   ·rfl
   split
   ·rfl
   ·rfl
  ·unfold plainD
   repeat (first|rfl|split)
 split at he
 ·rename_i hk
  rw[List.mem_singleton.1 he]
  have hs:isSite p is i=true:=by simp[isSite,hi,hk]
  have hself:OkD p is (newR i):=⟨rfl,(fun x hx=>by rw[List.mem_singleton.1 hx];exact hs),List.pairwise_singleton _ _⟩
  have h8:∀ g∈(d.row i).map (fun g:Res=>{ g with null:=true }),OkD p is g:=fun g hg=>by
   obtain⟨g0,h0,rfl⟩:=List.mem_map.1 hg
   have h1:=h.fg i hi g0 h0
   exact⟨h1.span,h1.sites,h1.asc⟩
  have h9:OkPd p is ((d.setVar (is i).to.toNat (newR i)).setRow i ((d.row i).map fun g=>{ g with null:=true })):=(h.setVar _ hself).setRow hi (by rw[List.length_map];rfl) h8 hs
  exact⟨hon,h9⟩
 split at he
 ·exact hset _ _ (OkD.get h (is i).n.toNat (d.var (is i).a.toNat).l nothR OkD.noth) e he
 split at he
 ·dsimp only at he
  split at he
  ·cases he
  ·rw[List.mem_singleton.1 he]
   exact⟨hon,OkPd.put _ (h.var _) _ _ h (h.var _).sites⟩
 split at he
 ·rename_i hk
  rcases List.mem_append.1 he with he|he
  ·exact hyes _ _ _ _ (hr.go (by rw[hk];decide)) (h.var _).truly e he
  ·exact hyes _ _ _ _ hon (h.var _).falsely e he
 split at he
 ·exact hyes _ _ _ _ hon (h.var _).truly e he
 split at he
 ·rename_i hk
  rw[List.mem_singleton.1 he]
  exact⟨hr.go (by rw[hk];decide),h⟩
 split at he
 ·rw[List.mem_singleton.1 he]
  exact⟨hon,h⟩
 split at he
 ·cases he
 ·exact hset _ _ (madeG_ok (h.var _) (h.var _)) e he
end Go.Proofs.YteoilpcbekijlaaGreatDoor
