/-  -/
import Derived.Test.YtplcndmdkabmeaaGreatDoorPicc
import Derived.Test.YtplcndmdkabmeaaGreatDoorDat
import Derived.Test.YtplcndmdkabmeaaGreatDoorPica
import Derived.Test.YtplcndmdkabmeaaGreatDoorStepOk
import Derived.Test.YtplcndmdkabmeaaGreatDoorStepAll0
set_option linter.unusedSimpArgs false
set_option linter.unusedVariables false
set_option maxRecDepth 100000
namespace Go.Proofs.YtplcndmdkabmeaaGreatDoor
open Go.RowKit
def siteV (s:Rs) (v:Vl):Int:=if v.kind=3 then (s.thing v.n.toNat).1 else -1
abbrev heldR (d:Res) (v:Vl) (site:Int):Bool:=held (d.gu nilSl) d.l v site
def lostV (d:Pd) (s:Rs):Bool:=anyN (fun k=>!heldR (d.var k) (s.val k) (siteV s (s.val k))) s.vars.length
def lostF (d:Pd) (s:Rs) (k:Nat):Bool:=anyN (fun j=>!heldR (d.field (s.thing k).1.toNat j) (s.field k j) (siteV s (s.field k j))) (s.thing k).2.length
def lostT (d:Pd) (s:Rs):Bool:=anyN (lostF d s) s.things.length
def showsD (d:Pd) (s:Rs):Bool:=!d.none&&(!lostV d s && !lostT d s)
structure ShowOk (d:Pd) (s:Rs):Prop where
 nv:d.vars.length=s.vars.length
 site:∀ k,k<s.things.length→∃ j:Nat,(s.thing k).1=j∧j<d.fields.length∧(d.row j).length=(s.thing k).2.length
 vals:∀ k,k<s.vars.length→isValue (s.val k) s.things.length=true
 fvals:∀ k,k<s.things.length→∀ j,j<(s.thing k).2.length→isValue (s.field k j) s.things.length=true
theorem isValue_thing {v:Vl}{n:Nat}(h:isValue v n=true) (hk:v.kind=3):∃ m:Nat,v.n=m∧m<n:=by
 unfold isValue at h
 rw[hk]at h
 simp[betw]at h
 exact⟨v.n.toNat,by omega,by omega⟩
theorem anyN_none {q:Nat→Bool}{n:Nat}(h:¬ anyN q n=true) (k:Nat) (hk:k<n):q k=false:=by
 cases hq:q k with
 | false=>rfl
 | true=>exact(h (anyN_yes hk hq)).elim
theorem held_both {p:Pg}{is:Nat→Ins}{f:Span→Span→Span}(hf:Puts f) {d e:Res}(hd:rightD p is d=0) (he:rightD p is e=0) (v:Vl) (site:Int) (h:heldR d v site=true∨heldR e v site=true):heldR (bothD f d e) v site=true:=by
 obtain⟨a1,_,_⟩:=rightD_parts hd
 obtain⟨b1,_,_⟩:=rightD_parts he
 unfold heldR held at *
 dsimp only[Res.gu]at *
 split
 ·rename_i hk
  simp only[hk,if_true]at h
  rcases h with h|h
  ·exact hf.inl _ _ _ a1 b1 h
  ·exact hf.inr _ _ _ a1 b1 h
 ·rename_i hk
  simp only[hk,if_false]at h
  split
  ·rename_i hk2
   simp only[hk2,if_true]at h
   revert h
   cases d.tr<;>cases e.tr<;>cases d.fa<;>cases e.fa<;>cases (v.n==1)<;>cases (v.n==0)<;>simp
  ·rename_i hk2
   simp only[hk2,if_false]at h
   split
   ·rename_i hk3
    simp only[hk3,if_true]at h
    rw[hasI_iff]at *
    rw[(mix_asc d.l e.l).2]
    rcases h with h|h
    ·exact .inl h
    ·exact .inr (hasI_iff.1 h)
   ·rename_i hk3
    simp only[hk3,if_false]at h
    rcases h with h|h
    ·simp[h]
    ·simp[h]
theorem shows_raw {p:Pg}{is:Nat→Ins}{f:Span→Span→Span}(hf:Puts f) {d e:Pd}{s:Rs}(hd:Rp p is d) (he:Rp p is e) (ok:ShowOk d s) (h:showsD d s=true∨showsD e s=true):showsD (bothRaw f d e) s=true:=by
 have hff:d.fields.length=e.fields.length:=by rw[hd.fields,he.fields]
 have hrl:∀ k,k<d.fields.length→(d.row k).length=(e.row k).length:=fun k hk=>by
  have h1:=hd.rows k hk
  have h2:=he.rows k (by rw[← hff];exact hk)
  omega
 have hvl:d.vars.length=e.vars.length:=by have:=hd.vars;have:=he.vars;omega
 have hrow:∀ k,k<d.fields.length→(bothRaw f d e).row k=bothRow f (d.row k) (e.row k):=fun k hk=>bothRows_at f d e k _ hk
 have hfld:∀ k j,k<d.fields.length→j<(d.row k).length→(bothRaw f d e).field k j=bothD f (d.field k j) (e.field k j):=fun k j hk hj=>by
  show ((bothRaw f d e).row k).getD j zeroD=_
  rw[hrow k hk,bothTo_at f _ _ j _ hj]
 have hV:∀ k,k<s.vars.length→heldR (d.var k) (s.val k) (siteV s (s.val k))=true∨heldR (e.var k) (s.val k) (siteV s (s.val k))=true:=fun k hk=>by
  rcases h with h|h
  ·left
   simp only[showsD,Bool.and_eq_true,Bool.not_eq_true']at h
   have:=anyN_none (by rw[show anyN _ _=lostV d s from rfl,h.2.1];decide) k hk
   simpa using this
  ·right
   simp only[showsD,Bool.and_eq_true,Bool.not_eq_true']at h
   have:=anyN_none (by rw[show anyN _ _=lostV e s from rfl,h.2.1];decide) k hk
   simpa using this
 have hF:∀ k j,k<s.things.length→j<(s.thing k).2.length→heldR (d.field (s.thing k).1.toNat j) (s.field k j) (siteV s (s.field k j))=true∨heldR (e.field (s.thing k).1.toNat j) (s.field k j) (siteV s (s.field k j))=true:=fun k j hk hj=>by
  rcases h with h|h
  ·left
   simp only[showsD,Bool.and_eq_true,Bool.not_eq_true']at h
   have h2:=anyN_none (by rw[show anyN _ _=lostT d s from rfl,h.2.2];decide) k hk
   have h3:=anyN_none (by rw[show anyN _ _=lostF d s k from rfl,h2];decide) j hj
   simpa using h3
  ·right
   simp only[showsD,Bool.and_eq_true,Bool.not_eq_true']at h
   have h2:=anyN_none (by rw[show anyN _ _=lostT e s from rfl,h.2.2];decide) k hk
   have h3:=anyN_none (by rw[show anyN _ _=lostF e s k from rfl,h2];decide) j hj
   simpa using h3
 have q1:lostV (bothRaw f d e) s=false:=by
  unfold lostV
  refine anyN_no fun k hk=>?_
  have hk' : k<d.vars.length:=by rw[ok.nv];exact hk
  have e1:(bothRaw f d e).var k=bothD f (d.var k) (e.var k):=bothTo_at f _ _ k _ hk'
  rw[e1,held_both hf (hd.vg k hk') (he.vg k (by rw[← hvl];exact hk')) _ _ (hV k hk)]
  rfl
 have q2:lostT (bothRaw f d e) s=false:=by
  unfold lostT
  refine anyN_no fun k hk=>?_
  unfold lostF
  refine anyN_no fun j hj=>?_
  obtain⟨i,e1,e2,e3⟩:=ok.site k hk
  have e4:(s.thing k).1.toNat=i:=by omega
  have h5:=hF k j hk hj
  rw[e4]at h5 ⊢
  have hj' : j<(d.row i).length:=by rw[e3];exact hj
  rw[hfld i j e2 hj',held_both hf (hd.fg i j e2 hj') (he.fg i j (by rw[← hff];exact e2) (by rw[← hrl i e2];exact hj')) _ _ h5]
  rfl
 unfold showsD
 rw[q1,q2]
 rfl
theorem shows_both' {p:Pg}{is:Nat→Ins}{f:Span→Span→Span}(hf:Puts f) {d e:Pd}{s:Rs}(hp:checkProg p is=0) (hd:rightP p is d=0) (he:rightP p is e=0) (ok:e.none=false→ShowOk e s) (h:showsD d s=true) (okd:ShowOk d s):showsD (bothP f e d) s=true:=by
 have hdn:d.none=false:=by
  cases hq:d.none with
  | false=>rfl
  | true=>simp[showsD,hq]at h
 unfold bothP
 cases hen:e.none with
 | true=>
  rw[if_pos rfl,hdn,if_neg (by decide),bothRaw_self (RightPd.of hd hp hdn) hdn]
  exact h
 | false=>
  rw[if_neg (by decide),hdn,if_neg (by decide)]
  exact shows_raw hf (Rp.of he hen) (Rp.of hd hdn) (ok hen) (.inr h)
end Go.Proofs.YtplcndmdkabmeaaGreatDoor
set_option linter.unusedSimpArgs false
set_option linter.unusedVariables false
set_option maxRecDepth 100000
namespace Go.Proofs.YtplcndmdkabmeaaGreatDoor
open Go.RowKit
structure Shows (d:Pd) (s:Rs):Prop where
 n:d.none=false
 v:∀ k,k<s.vars.length→heldR (d.var k) (s.val k) (siteV s (s.val k))=true
 f:∀ k,k<s.things.length→∀ j,j<(s.thing k).2.length→heldR (d.field (s.thing k).1.toNat j) (s.field k j) (siteV s (s.field k j))=true
theorem shows_iff {d:Pd}{s:Rs}:showsD d s=true↔Shows d s:=by
 constructor
 ·intro h
  simp only[showsD,Bool.and_eq_true,Bool.not_eq_true']at h
  obtain⟨h1,h2,h3⟩:=h
  refine⟨h1,fun k hk=>?_,fun k hk j hj=>?_⟩
  ·have:=anyN_none (by rw[show anyN _ _=lostV d s from rfl,h2];decide) k hk
   simpa using this
  ·have h4:=anyN_none (by rw[show anyN _ _=lostT d s from rfl,h3];decide) k hk
   have h5:=anyN_none (by rw[show anyN _ _=lostF d s k from rfl,h4];decide) j hj
   simpa using h5
 ·intro h
  have h2:lostV d s=false:=anyN_no fun k hk=>by rw[h.v k hk];rfl
  have h3:lostT d s=false:=anyN_no fun k hk=>anyN_no fun j hj=>by rw[h.f k hk j hj];rfl
  simp only[showsD,h.n,h2,h3];rfl
theorem held_1 {d:Res}{v:Vl}{site:Int}(hk:v.kind=1):heldR d v site=inSpan d.span v.n:=by unfold heldR held;rw[if_pos hk]
theorem held_2 {d:Res}{v:Vl}{site:Int}(hk:v.kind=2):heldR d v site=(v.n==1&&d.tr || v.n==0&&d.fa):=by unfold heldR held;rw[if_neg (by omega),if_pos hk]
theorem held_3 {d:Res}{v:Vl}{site:Int}(hk:v.kind=3):heldR d v site=hasI d.l site:=by unfold heldR held;rw[if_neg (by omega),if_neg (by omega),if_pos hk]
theorem held_0 {d:Res}{v:Vl}{site:Int}(h1:v.kind≠1) (h2:v.kind≠2) (h3:v.kind≠3):heldR d v site=d.null:=by unfold heldR held;rw[if_neg h1,if_neg h2,if_neg h3]
theorem hasI_len {l:List Int}{x:Int}(h:hasI l x=true):0<l.length:=by
 rw[hasI_iff]at h
 exact List.length_pos_of_mem h
theorem inSpan_some {s:Span}{n:Int}(h:inSpan s n=true):s.none=false:=((inSpan_iff s n).1 h).1
theorem held_full {d:Res}{v:Vl}{site:Int}(h:heldR d v site=true):emptyD d=false:=by
 cases he:emptyD d with
 | false=>rfl
 | true=>
  simp only[emptyD,Bool.and_eq_true,Bool.not_eq_true',beq_iff_eq]at he
  obtain⟨⟨⟨⟨e1,e2⟩,e3⟩,e4⟩,e5⟩:=he
  by_cases k1:v.kind=1
  ·rw[held_1 k1]at h;have:=inSpan_some h;rw[e2]at this;cases this
  by_cases k2:v.kind=2
  ·rw[held_2 k2,e3,e4]at h;simp at h
  by_cases k3:v.kind=3
  ·rw[held_3 k3]at h;have:=hasI_len h;omega
  ·rw[held_0 k1 k2 k3,e1]at h;cases h
theorem held_other {d:Res}{v:Vl}{site:Int}(h:heldR d v site=true) (hk:v.kind≠1) (s:Sl) (hs:s.n=d.l.length):otherG (d.gu s)=true:=by
 unfold otherG
 dsimp only[Res.gu]
 by_cases k2:v.kind=2
 ·rw[held_2 k2]at h
  revert h
  cases d.tr<;>cases d.fa<;>simp
 by_cases k3:v.kind=3
 ·rw[held_3 k3]at h;have:=hasI_len h;rw[hs];simp[this]
 ·rw[held_0 hk k2 k3]at h;simp[h]
theorem held_wrong {d:Res}{v:Vl}{site:Int}(h:heldR d v site=true) (hk:v.kind≠3):wrongD d=true:=by
 unfold wrongD
 by_cases k1:v.kind=1
 ·rw[held_1 k1]at h;simp[inSpan_some h]
 by_cases k2:v.kind=2
 ·rw[held_2 k2]at h
  revert h
  cases d.tr<;>cases d.fa<;>simp
 ·rw[held_0 k1 k2 hk]at h;simp[h]
theorem held_yes {d:Res}{v:Vl}{site:Int}{n:Nat}(hv:ValidV v n) (h:heldR d v site=true) (hc:countsV v=true) (s:Sl) (hs:s.n=d.l.length):yesG (d.gu s)=true:=by
 unfold yesG
 dsimp only[Res.gu]
 unfold countsV at hc
 by_cases k1:v.kind=1
 ·rw[held_1 k1]at h
  obtain⟨a,b,c⟩:=(inSpan_iff _ _).1 h
  have hn:v.n≠0:=by
   intro e;rw[k1,e]at hc;simp at hc
  have:¬ (d.span.lo=0∧d.span.hi=0):=by omega
  have h2:(d.span.lo==0&&d.span.hi==0)=false:=by
   simpa [Bool.and_eq_false_iff] using (fun e=>by omega:d.span.lo=0→¬ d.span.hi=0)
  simp[a,h2]
 by_cases k2:v.kind=2
 ·rw[held_2 k2]at h
  have hn:v.n≠0:=by
   intro e;rw[k2,e]at hc;simp at hc
  have:v.n=1:=by have:=hv.t k2;omega
  rw[this]at h
  simp at h
  simp[h]
 by_cases k3:v.kind=3
 ·rw[held_3 k3]at h;have:=hasI_len h;rw[hs];simp[this]
 ·have:v.kind=0:=by have:=hv.k;omega
  have h0:=hv.z this
  rw[this,h0]at hc;simp at hc
theorem held_no {d:Res}{v:Vl}{site:Int}(h:heldR d v site=true) (hc:countsV v=false) (s:Sl):noG (d.gu s)=true:=by
 unfold noG
 dsimp only[Res.gu]
 unfold countsV at hc
 by_cases k1:v.kind=1
 ·rw[held_1 k1]at h
  have hn:v.n=0:=by
   rw[k1]at hc;simpa using hc
  rw[hn]at h;simp[h]
 by_cases k2:v.kind=2
 ·rw[held_2 k2]at h
  have hn:v.n=0:=by
   rw[k2]at hc;simpa using hc
  rw[hn]at h
  simp at h
  simp[h]
 by_cases k3:v.kind=3
 ·rw[k3]at hc;simp at hc
 ·rw[held_0 k1 k2 k3]at h;simp[h]
theorem held_truly {d:Res}{v:Vl}{site:Int}{n:Nat}(hv:ValidV v n) (h:heldR d v site=true) (hc:countsV v=true):heldR (trulyD d) v site=true:=by
 unfold countsV at hc
 by_cases k1:v.kind=1
 ·rw[held_1 k1]at h ⊢
  obtain⟨a,b,c⟩:=(inSpan_iff _ _).1 h
  have hn:v.n≠0:=by
   intro e;rw[k1,e]at hc;simp at hc
  show inSpan (trulyS d.span) v.n=true
  unfold trulyS
  rw[a]
  split
  ·rename_i q
   simp at q
   omega
  split
  ·rename_i q
   simp at q
   rw[inSpan_iff];exact⟨rfl,by show (1:Int)≤_;omega,c⟩
  split
  ·rename_i q
   simp at q
   rw[inSpan_iff];exact⟨rfl,b,by show _≤(-1:Int);omega⟩
  ·exact h
 by_cases k2:v.kind=2
 ·rw[held_2 k2]at h ⊢
  have hn:v.n≠0:=by
   intro e;rw[k2,e]at hc;simp at hc
  have:v.n=1:=by have:=hv.t k2;omega
  rw[this]at h ⊢
  simp at h
  simp[h]
 by_cases k3:v.kind=3
 ·rw[held_3 k3]at h ⊢;exact h
 ·have:v.kind=0:=by have:=hv.k;omega
  have h0:=hv.z this
  rw[this,h0]at hc;simp at hc
theorem held_falsely {d:Res}{v:Vl}{site:Int}(h:heldR d v site=true) (hc:countsV v=false):heldR (falselyD d) v site=true:=by
 unfold countsV at hc
 by_cases k1:v.kind=1
 ·rw[held_1 k1]at h ⊢
  obtain⟨a,b,c⟩:=(inSpan_iff _ _).1 h
  have hn:v.n=0:=by
   rw[k1]at hc;simpa using hc
  show inSpan (common d.span ⟨false,0,0⟩) v.n=true
  unfold common
  rw[hn]at b c ⊢
  rw[a,if_neg (by simp;omega),inSpan_iff]
  exact⟨rfl,by show max d.span.lo 0≤0;omega,by show 0≤min d.span.hi 0;omega⟩
 by_cases k2:v.kind=2
 ·rw[held_2 k2]at h ⊢
  have hn:v.n=0:=by
   rw[k2]at hc;simpa using hc
  rw[hn]at h ⊢
  simp at h
  simp[h]
 by_cases k3:v.kind=3
 ·rw[k3]at hc;simp at hc
 ·rw[held_0 k1 k2 k3]at h ⊢;exact h
theorem one_sites {g:Gu}(h:oneG g=true):g.s.n=0∧(g.null=true→g.span.none=true∧g.tr=false∧g.fa=false)∧(g.tr=true→g.span.none=true∧g.null=false∧g.fa=false)∧(g.fa=true→g.span.none=true∧g.null=false∧g.tr=false)∧(g.span.none=false→g.null=false∧g.tr=false∧g.fa=false)∧g.span.lo=g.span.hi:=by
 obtain⟨h1,h2,h3⟩:=(one_single g).1 h
 refine⟨h1,?_⟩
 revert h2
 unfold cnt4
 cases g.null<;>cases g.span.none<;>cases g.tr<;>cases g.fa<;>simp[cntB,h3]
theorem held_same {d e:Res}{v:Vl}{site:Int}{s t:Sl}(h:heldR d v site=true) (h' : heldR e v site=true):maySame (d.gu s) (e.gu t) d.l e.l=true:=by
 unfold maySame
 dsimp only[Res.gu]
 by_cases k1:v.kind=1
 ·rw[held_1 k1]at h h'
  obtain⟨a,b,c⟩:=(inSpan_iff _ _).1 h
  obtain⟨a',b',c'⟩:=(inSpan_iff _ _).1 h'
  have:(common d.span e.span).none=false:=by
   unfold common
   rw[a,a',if_neg (by simp;omega)]
  simp[this]
 by_cases k2:v.kind=2
 ·rw[held_2 k2]at h h'
  revert h h'
  cases d.tr<;>cases e.tr<;>cases d.fa<;>cases e.fa<;>simp<;>intro a b<;>omega
 by_cases k3:v.kind=3
 ·rw[held_3 k3]at h h'
  have:commonI d.l e.l=true:=by
   rw[hasI_iff]at h
   obtain⟨k,hk,e1⟩:=List.mem_iff_getElem.1 h
   refine anyN_yes hk ?_
   rw[List.getD_eq_getElem?_getD,List.getElem?_eq_getElem hk]
   simp only[Option.getD_some,e1]
   exact h'
  simp[this]
 ·rw[held_0 k1 k2 k3]at h h'
  simp[h,h']
theorem held_notSame {d e:Res}{v u:Vl}{sv su:Int}{s t:Sl}{n:Nat}(hs:s.n=d.l.length) (ht:t.n=e.l.length) (hv:ValidV v n) (hu:ValidV u n) (h:heldR d v sv=true) (h' : heldR e u su=true) (hx:sameB v u=false):notSame (d.gu s) (e.gu t) d.l e.l=true:=by
 cases hm:(maySame (d.gu s) (e.gu t) d.l e.l&&oneG (d.gu s)&&oneG (e.gu t)) with
 | false=>unfold notSame;rw[hm];rfl
 | true=>
  exfalso
  simp only[Bool.and_eq_true]at hm
  obtain⟨⟨h1,h2⟩,h3⟩:=hm
  obtain⟨a0,a1,a2,a3,a4,a5⟩:=one_sites h2
  obtain⟨b0,b1,b2,b3,b4,b5⟩:=one_sites h3
  dsimp only[Res.gu]at a0 a1 a2 a3 a4 a5 b0 b1 b2 b3 b4 b5
  have dl:d.l=[]:=List.length_eq_zero_iff.1 (by omega)
  have el:e.l=[]:=List.length_eq_zero_iff.1 (by omega)
  have hkv:=hv.k;have hku:=hu.k
  have hsb:¬ (v.kind=u.kind∧v.n=u.n):=by
   intro ⟨q1,q2⟩
   simp[sameB,q1,q2]at hx
  unfold maySame at h1
  dsimp only[Res.gu]at h1
  have hc:commonI d.l e.l=false:=by rw[dl];rfl
  rw[hc]at h1
  have kv:v.kind=0∨v.kind=1∨v.kind=2∨v.kind=3:=by omega
  have ku:u.kind=0∨u.kind=1∨u.kind=2∨u.kind=3:=by omega
  have n3:v.kind≠3:=fun q=>by rw[held_3 q,dl]at h;simp[hasI,anyN]at h
  have m3:u.kind≠3:=fun q=>by rw[held_3 q,el]at h';simp[hasI,anyN]at h'
  have hcs:(common d.span e.span).none=false→d.span.none=false∧e.span.none=false∧max d.span.lo e.span.lo≤min d.span.hi e.span.hi:=by
   unfold common
   split
   ·intro q;cases q
   ·rename_i q
    intro _
    simp at q
    exact⟨q.1.1,q.1.2,by have:=q.2;omega⟩
  rcases kv with q|q|q|q
  ·rw[held_0 (by omega) (by omega) (by omega)]at h
   obtain⟨x1,x2,x3⟩:=a1 h
   have:(common d.span e.span).none=true:=by unfold common;rw[x1];rfl
   rw[x2,x3,this,h]at h1
   simp at h1
   obtain⟨y1,y2,y3⟩:=b1 h1
   rcases ku with r|r|r|r
   ·exact hsb ⟨by omega,by rw[hv.z q,hu.z r]⟩
   ·rw[held_1 r]at h';have:=inSpan_some h';rw[y1]at this;cases this
   ·rw[held_2 r,y2,y3]at h';simp at h'
   ·exact m3 r
  ·rw[held_1 q]at h
   obtain⟨p1,p2,p3⟩:=(inSpan_iff _ _).1 h
   obtain⟨x1,x2,x3⟩:=a4 p1
   rw[x1,x2,x3]at h1
   simp at h1
   obtain⟨y0,y1,y2⟩:=hcs h1
   obtain⟨z1,z2,z3⟩:=b4 y1
   rcases ku with r|r|r|r
   ·rw[held_0 (by omega) (by omega) (by omega),z1]at h';cases h'
   ·rw[held_1 r]at h'
    obtain⟨w1,w2,w3⟩:=(inSpan_iff _ _).1 h'
    exact hsb ⟨by omega,by omega⟩
   ·rw[held_2 r,z2,z3]at h';simp at h'
   ·exact m3 r
  ·rw[held_2 q]at h
   have vn:=hv.t q
   have vn' : v.n=0∨v.n=1:=by omega
   rcases vn' with g|g
   ·rw[g]at h
    simp at h
    obtain⟨x1,x2,x3⟩:=a3 h
    have:(common d.span e.span).none=true:=by unfold common;rw[x1];rfl
    rw[x2,x3,this,h]at h1
    simp at h1
    obtain⟨y1,y2,y3⟩:=b3 h1
    rcases ku with r|r|r|r
    ·rw[held_0 (by omega) (by omega) (by omega),y2]at h';cases h'
    ·rw[held_1 r]at h';have:=inSpan_some h';rw[y1]at this;cases this
    ·rw[held_2 r,y3]at h';simp at h';exact hsb ⟨by omega,by omega⟩
    ·exact m3 r
   ·rw[g]at h
    simp at h
    obtain⟨x1,x2,x3⟩:=a2 h
    have:(common d.span e.span).none=true:=by unfold common;rw[x1];rfl
    rw[x2,x3,this,h]at h1
    simp at h1
    obtain⟨y1,y2,y3⟩:=b2 h1
    rcases ku with r|r|r|r
    ·rw[held_0 (by omega) (by omega) (by omega),y2]at h';cases h'
    ·rw[held_1 r]at h';have:=inSpan_some h';rw[y1]at this;cases this
    ·rw[held_2 r,y3]at h';simp at h';exact hsb ⟨by omega,by omega⟩
    ·exact m3 r
  ·exact n3 q
structure SoundE (o:Outs) (s:Rs):Prop where
 w:s.ending=2→o.wr=true
 f:s.ending=3→o.fl=true
 e:s.ending=0→∃ d,(s.at',d)∈o.es∧Shows d s
theorem SoundE.go {o:Outs}{s:Rs}(he:s.ending=0) (d:Pd) (hm:(s.at',d)∈o.es) (h:Shows d s):SoundE o s:=⟨fun h=>by omega,fun h=>by omega,fun _=>⟨d,hm,h⟩⟩
theorem SoundE.done {o:Outs}{s:Rs}(he:s.ending=1∨s.ending=5):SoundE o s:=⟨fun h=>by omega,fun h=>by omega,fun h=>by omega⟩
theorem SoundE.wrong {o:Outs}{s:Rs}(he:s.ending=2) (h:o.wr=true):SoundE o s:=⟨fun _=>h,fun h=>by omega,fun h=>by omega⟩
theorem SoundE.fails {o:Outs}{s:Rs}(he:s.ending=3) (h:o.fl=true):SoundE o s:=⟨fun h=>by omega,fun _=>h,fun h=>by omega⟩
theorem Shows.like {d:Pd}{s t:Rs}(h:Shows d s) (h1:t.vars=s.vars) (h2:t.things=s.things):Shows d t:=by
 obtain⟨a,v,th,k,l,e⟩:=s
 obtain⟨a',v',th',k',l',e'⟩:=t
 dsimp only at h1 h2
 subst h1 h2
 exact⟨h.n,h.v,h.f⟩
theorem var_set {d:Pd}{t k:Nat}{g:Res}(ht:t<d.vars.length):(d.setVar t g).var k=if k=t then g else d.var k:=getD_set _ _ _ _ _ ht
theorem Shows.setv {d:Pd}{s:Rs}{t:Nat}{g:Res}{v:Vl}(h:Shows d s) (hv:d.vars.length=s.vars.length) (ht:t<s.vars.length) (hg:heldR g v (siteV s v)=true):Shows (d.setVar t g) (s.set t v):=by
 refine⟨h.n,fun k hk=>?_,h.f⟩
 have hk' : k<s.vars.length:=by simpa [Rs.set] using hk
 have e:(s.set t v).val k=if k=t then v else s.val k:=getD_set _ _ _ _ _ ht
 rw[e,var_set (by omega)]
 show heldR _ _ (siteV s _)=true
 split
 ·exact hg
 ·exact h.v k hk'
theorem Shows.narrow {d:Pd}{s:Rs}{t:Nat}{g:Res}(h:Shows d s) (hv:d.vars.length=s.vars.length) (ht:t<s.vars.length) (hg:heldR g (s.val t) (siteV s (s.val t))=true):Shows (d.setVar t g) s:=by
 refine⟨h.n,fun k hk=>?_,h.f⟩
 rw[var_set (by omega)]
 split
 ·rename_i e;rw[e];exact hg
 ·exact h.v k hk
theorem setE_in {d:Pd}{m t:Nat}{g:Res}(h:emptyD g=false):((m:Int)+1,d.setVar t g)∈setE d m t g:=by
 unfold setE
 rw[h,if_neg (by decide)]
 exact List.mem_singleton_self _
theorem sound_set {d:Pd}{s:Rs}{t m:Nat}{g:Res}{v:Vl}{wr:Bool}(he:s.ending=0) (hm:s.at'=m) (h:Shows d s) (hv:d.vars.length=s.vars.length) (ht:t<s.vars.length) (hg:heldR g v (siteV s v)=true):SoundE ⟨setE d m t g,wr,false⟩ (s.set t v):=
 .go he (d.setVar t g) (by show (s.at' + 1,_)∈_;rw[hm];exact setE_in (held_full hg)) (h.setv hv ht hg)
abbrev fulG (d:Res):Gu:=d.gu ⟨none,d.l.length,0⟩
theorem full_g {d:Res}{v:Vl}{site:Int}(h:heldR d v site=true):emptyG (fulG d)=false:=(emptyD_gu rfl).trans (held_full h)
theorem madeS_one {k:Int}{d e:Res}(hk:k=4∨k=10) (h:emptyG (fulG d)=false):madeG k (fulG d) (fulG e) d.l e.l=if k=4 then (⟨d.null,both d.span noSpan,d.tr,d.fa,mixS d.l []⟩,false) else (⟨false,noSpan,noG (fulG d),yesG (fulG d),[]⟩,false):=by
 unfold madeG
 rw[h]
 rcases hk with rfl|rfl<;>rfl
theorem madeS_two {k:Int}{d e:Res}(hk:k=5∨k=6∨k=7∨k=8) (h:emptyG (fulG d)=false) (h' : emptyG (fulG e)=false):madeG k (fulG d) (fulG e) d.l e.l=((twoG k (fulG d) (fulG e)).res [],otherG (fulG d) || otherG (fulG e)):=by
 unfold madeG
 rw[h,h']
 rcases hk with rfl|rfl|rfl|rfl<;>rfl
theorem madeS_same {d e:Res}(h:emptyG (fulG d)=false) (h' : emptyG (fulG e)=false):madeG 9 (fulG d) (fulG e) d.l e.l=(⟨false,noSpan,maySame (fulG d) (fulG e) d.l e.l,notSame (fulG d) (fulG e) d.l e.l,[]⟩,false):=by
 unfold madeG
 rw[h,h']
 rfl
theorem wrap_is (x:Int):wrap32 x=wrapped x:=by unfold wrap32 wrapped;split<;>omega
theorem arith_is {k x y:Int}(hk:k=5∨k=6∨k=7):arith k x y=opOf k x y:=by
 rcases hk with rfl|rfl|rfl<;>rfl
theorem held_truth {g:Res}{b:Bool}{site:Int}(h1:b=true→g.tr=true) (h2:b=false→g.fa=true):heldR g (truthV b) site=true:=by
 rw[held_2 (rfl:(truthV b).kind=2)]
 cases b with
 | true=>simp[truthV,h1 rfl]
 | false=>simp[truthV,h2 rfl]
theorem count_sound {d:Pd}{s:Rs}{t a b m:Nat}{k:Int}(hk:k=5∨k=6∨k=7∨k=8) (he:s.ending=0) (hm:s.at'=m) (h:Shows d s) (hv:d.vars.length=s.vars.length) (ht:t<s.vars.length) (ha:a<s.vars.length) (hb:b<s.vars.length):
  SoundE ⟨setE d m t (madeG k (fulG (d.var a)) (fulG (d.var b)) (d.var a).l (d.var b).l).1,(madeG k (fulG (d.var a)) (fulG (d.var b)) (d.var a).l (d.var b).l).2,false⟩ (countS k t a b s):=by
 have h1:=h.v a ha
 have h2:=h.v b hb
 rw[madeS_two hk (full_g h1) (full_g h2)]
 unfold countS
 split
 ·rename_i hq
  obtain⟨q1,q2⟩:=hq
  rw[held_1 q1]at h1
  rw[held_1 q2]at h2
  obtain⟨a1,a2,a3⟩:=(inSpan_iff _ _).1 h1
  obtain⟨b1,b2,b3⟩:=(inSpan_iff _ _).1 h2
  have hz:((fulG (d.var a)).span.none || (fulG (d.var b)).span.none)=false:=by show ((d.var a).span.none || (d.var b).span.none)=false;rw[a1,b1];rfl
  split
  ·rename_i h8
   refine sound_set he hm h hv ht ?_
   subst h8
   have e:twoG 8 (fulG (d.var a)) (fulG (d.var b))=⟨false,noSpan,decide ((d.var a).span.lo<(d.var b).span.hi),decide ((d.var b).span.lo≤(d.var a).span.hi),nilSl⟩:=by
    unfold twoG;rw[hz];rfl
   rw[e]
   refine held_truth (fun q=>?_) (fun q=>?_)
   ·have:(s.val a).n<(s.val b).n:=by simpa using q
    show decide (_<_)=true
    exact decide_eq_true (by omega)
   ·have:¬ (s.val a).n<(s.val b).n:=by simpa using q
    show decide (_≤_)=true
    exact decide_eq_true (by omega)
  ·rename_i h8
   refine sound_set he hm h hv ht ?_
   have e:twoG k (fulG (d.var a)) (fulG (d.var b))=⟨false,made k (d.var a).span (d.var b).span,false,false,nilSl⟩:=by
    unfold twoG;rw[hz,if_neg h8];rfl
   rw[e,held_1 rfl,wrap_is,arith_is (by omega)]
   exact(made_sound a1 b1 a2 a3 b2 b3).2
 ·rename_i hq
  refine .wrong rfl ?_
  show (otherG _ || otherG _)=true
  by_cases q1:(s.val a).kind=1
  ·rw[held_other h2 (fun q2=>hq ⟨q1,q2⟩) _ rfl,Bool.or_true]
  ·rw[held_other h1 q1 _ rfl,Bool.true_or]
theorem held_get {p:Pg}{is:Nat→Ins}{d:Pd}(hd:OkPd p is d) (n:Nat) {v:Vl}{site:Int}:∀ (l:List Int) (g:Res),OkD p is g→(heldR g v site=true∨∃ x∈l,heldR (d.field x.toNat n) v site=true)→heldR (l.foldl (fun g s=>bothD both g (d.field s.toNat n)) g) v site=true
 | [],_,_,h=>by
  rcases h with h|⟨x,hx,_⟩
  ·exact h
  ·cases hx
 | y::l,g,hg,h=>by
  refine held_get hd n l _ (hg.join puts_both (hd.field _ _)) ?_
  rcases h with h|⟨x,hx,h⟩
  ·exact .inl (held_both puts_both hg.right (hd.field _ _).right v site (.inl h))
  ·rcases List.mem_cons.1 hx with rfl|hx
   ·exact .inl (held_both puts_both hg.right (hd.field _ _).right v site (.inr h))
   ·exact .inr ⟨x,hx,h⟩
theorem site_row {p:Pg}{is:Nat→Ins}{d:Pd}(hd:OkPd p is d) {x:Int}(hx:isSite p is x=true) {n:Nat}(hn:(n:Int)<p.fields):x.toNat<p.n∧x.toNat<d.fields.length∧n<(d.row x.toNat).length:=by
 obtain⟨m,h2,h3,_⟩:=isSite_nat hx
 have hm:x.toNat=m:=by omega
 have h4:=hd.rows m h3
 rw[hm]
 exact⟨h3,by rw[hd.fields];exact h3,by omega⟩
theorem held_put {p:Pg}{is:Nat→Ins}{n:Nat}{b:Res}(hn:(n:Int)<p.fields) (hb:OkD p is b) {v:Vl}{site:Int}(m j:Nat):∀ (l:List Int) (d:Pd),OkPd p is d→(∀ x∈l,isSite p is x=true)→
  (heldR (d.field m j) v site=true∨(heldR b v site=true∧j=n∧∃ x∈l,x.toNat=m))→heldR ((putD d n b l).field m j) v site=true
 | [],_,_,_,h=>by
  rcases h with h|⟨_,_,x,hx,_⟩
  ·exact h
  ·cases hx
 | y::l,d,hd,hl,h=>by
  have hy:=hl y List.mem_cons_self
  obtain⟨r1,r2,r3⟩:=site_row hd hy hn
  obtain⟨m0,y2,y3,_⟩:=isSite_nat hy
  have hy' : isSite p is (y.toNat:Int)=true:=by rw[show ((y.toNat:Nat):Int)=y by omega];exact hy
  have hset:OkPd p is (d.setField y.toNat n (bothD both (d.field y.toNat n) b)):=hd.setField r1 n ((hd.field _ _).join puts_both hb) hy'
  refine held_put hn hb m j l _ hset (fun x hx=>hl x (List.mem_cons_of_mem _ hx)) ?_
  rw[field_set d y.toNat n m j _ r2 r3]
  rcases h with h|⟨h,h1,x,hx,h3⟩
  ·left
   split
   ·rename_i q
    rw[q.1,q.2]at h
    exact held_both puts_both (hd.field _ _).right hb.right v site (.inl h)
   ·exact h
  ·rcases List.mem_cons.1 hx with rfl|hx
   ·left
    rw[if_pos ⟨h3.symm,h1⟩]
    exact held_both puts_both (hd.field _ _).right hb.right v site (.inr h)
   ·exact .inr ⟨h,h1,x,hx,h3⟩
theorem putD_rest (n:Nat) (b:Res):∀ (l:List Int) (d:Pd),(putD d n b l).none=d.none∧(putD d n b l).vars=d.vars
 | [],_=>⟨rfl,rfl⟩
 | x::l,d=>putD_rest n b l (d.setField x.toNat n (bothD both (d.field x.toNat n) b))
theorem held_null {d:Res} {v:Vl} {site:Int} (h:heldR d v site=true):heldR { d with null:=true } v site=true:=by
 by_cases k1:v.kind=1
 ·rw[held_1 k1]at h ⊢;exact h
 by_cases k2:v.kind=2
 ·rw[held_2 k2]at h ⊢;exact h
 by_cases k3:v.kind=3
 ·rw[held_3 k3]at h ⊢;exact h
 ·rw[held_0 k1 k2 k3]
theorem row_set {d:Pd}{m k:Nat}{l:List Res}(hm:m<d.fields.length):(d.setRow m l).row k=if k=m then l else d.row k:=getD_set _ _ _ _ _ hm
theorem create_sound {p:Pg}{is:Nat→Ins}{d:Pd}{s:Rs}{t m:Nat}(hd:OkPd p is d) (hR:RightS p s) (he:s.ending=0) (hm:s.at'=m) (hmn:m<p.n) (hf:0≤p.fields) (h:Shows d s) (hv:d.vars.length=s.vars.length) (ht:t<s.vars.length):
  SoundE ⟨[((m:Int)+1,newD d m t)],false,false⟩ (createS t p.fields.toNat s):=by
 unfold createS
 split
 ·exact .done (.inr rfl)
 have hmf:m<d.fields.length:=by rw[hd.fields];exact hmn
 have hmr:((d.row m).length:Int)=p.fields:=hd.rows m hmn
 obtain⟨s1,hs1⟩:∃ s1:Rs,s1={ s with things:=s.things++[(s.at',List.replicate p.fields.toNat dV)] }:=⟨_,rfl⟩
 have e1:∀ k,s1.thing k=if k<s.things.length then s.thing k else if k=s.things.length then (s.at',List.replicate p.fields.toNat dV) else dT:=fun k=>by
  rw[hs1]
  show (s.things++[(s.at',List.replicate p.fields.toNat dV)]).getD k dT=_
  split
  ·rename_i hk;simp[Rs.thing,List.getD_eq_getElem?_getD,List.getElem?_append_left hk]
  ·split
   ·rename_i hk hk2;subst hk2;simp[List.getD_eq_getElem?_getD]
   ·rename_i hk hk2;simp only[List.getD_eq_getElem?_getD];rw[List.getElem?_eq_none (by simp;omega)];rfl
 have e2:∀ v:Vl,isValue v s.things.length=true→siteV s1 v=siteV s v:=fun v hv=>by
  unfold siteV
  split
  ·rename_i hk
   obtain⟨j,hj,hlt⟩:=isValue_thing hv hk
   rw[e1,if_pos (by omega)]
  ·rfl
 have hs:Shows (d.setRow m ((d.row m).map fun g=>{ g with null:=true })) s1:=by
  refine⟨h.n,fun k hk=>?_,fun k hk j hj=>?_⟩
  ·have hk' : k<s.vars.length:=by rw[hs1]at hk;exact hk
   have e3:s1.val k=s.val k:=by rw[hs1]
   rw[e3,e2 _ (hR.vals k hk')]
   exact h.v k hk'
  ·have e3:s1.field k j=(s1.thing k).2.getD j dV:=rfl
   have e4:∀ i:Nat,(d.setRow m ((d.row m).map fun g=>{ g with null:=true })).field i j=if i=m then ((d.row m).map fun g:Res=>{ g with null:=true }).getD j zeroD else d.field i j:=fun i=>by
    show ((d.setRow m _).row i).getD j zeroD=_
    rw[row_set hmf]
    split
    ·rfl
    ·rfl
   have e5:(j:Int)<p.fields→((d.row m).map fun g:Res=>{ g with null:=true }).getD j zeroD={ d.field m j with null:=true }:=fun hjf=>by
    have:j<(d.row m).length:=by omega
    simp[Pd.field,Pd.row,List.getD_eq_getElem?_getD]at this ⊢
    simp[this]
   rw[e3]
   rw[e1]at hj ⊢
   split
   ·rename_i hk2
    rw[if_pos hk2]at hj
    have hjf:(j:Int)<p.fields:=by have:=hR.nf k hk2;omega
    have h5:=h.f k hk2 j hj
    show heldR _ (s.field k j) (siteV s1 (s.field k j))=true
    rw[e2 _ (hR.fvals k hk2 j hj),e4]
    split
    ·rename_i q
     rw[e5 hjf]
     rw[q]at h5
     exact held_null h5
    ·exact h5
   ·rename_i hk2
    rw[if_neg hk2]at hj
    have hkl:k=s.things.length:=by
     have:k<s.things.length+1:=by rw[hs1]at hk;simpa using hk
     omega
    rw[if_pos hkl]at hj ⊢
    have hj' : j<p.fields.toNat:=by simpa using hj
    rw[e4,if_pos (by show s.at'.toNat=m;omega),e5 (by omega)]
    have e6:(List.replicate p.fields.toNat dV).getD j dV=dV:=by simp[List.getD_eq_getElem?_getD,hj']
    show heldR _ ((List.replicate p.fields.toNat dV).getD j dV) _=true
    rw[e6]
    rfl
 have hg:heldR ⟨false,noSpan,false,false,[(m:Int)]⟩ ⟨3,s.things.length⟩ (siteV s1 ⟨3,s.things.length⟩)=true:=by
  rw[held_3 rfl,hasI_iff]
  have:siteV s1 ⟨3,s.things.length⟩=m:=by
   show (s1.thing ((s.things.length:Nat):Int).toNat).1=_
   rw[Int.toNat_natCast,e1,if_neg (by omega),if_pos rfl]
   exact hm
  rw[this]
  exact List.mem_singleton_self _
 have hv1:(d.setRow m ((d.row m).map fun g=>{ g with null:=true })).vars.length=s1.vars.length:=by rw[hs1];exact hv
 have hq:=hs.setv (t:=t) hv1 (by rw[hs1];exact ht) hg
 rw[hs1]at hq
 exact .go he (newD d m t) (by show (s.at' + 1,newD d m t)∈_;rw[hm];exact List.mem_singleton_self _) hq
theorem put_sound {p:Pg}{is:Nat→Ins}{d:Pd}{s:Rs}{a b m n:Nat}(hd:OkPd p is d) (hR:RightS p s) (he:s.ending=0) (hm:s.at'=m) (hn:(n:Int)<p.fields) (h:Shows d s) (ha:a<s.vars.length) (hb:b<s.vars.length) (h3:(s.val a).kind=3):
  SoundE ⟨if (d.var a).l=[] then [] else [((m:Int)+1,putD d n (d.var b) (d.var a).l)],wrongD (d.var a),false⟩ (putS (s.val a).n.toNat n (s.val b) s):=by
 have hva:=(valid_of (hR.vals a ha)).th h3
 obtain⟨kk,hkk⟩:∃ kk:Nat,kk=(s.val a).n.toNat:=⟨_,rfl⟩
 have hlk:kk<s.things.length:=by omega
 rw[← hkk]
 have h1:=h.v a ha
 rw[held_3 h3]at h1
 have hsv:siteV s (s.val a)=(s.thing kk).1:=by unfold siteV;rw[if_pos h3,hkk]
 rw[hsv]at h1
 have hne:(d.var a).l≠[]:=fun q=>by rw[q]at h1;simp[hasI,anyN]at h1
 have hvb:=h.v b hb
 have e:∀ k,(putS kk n (s.val b) s).thing k=if k=kk then ((s.thing kk).1,(s.thing kk).2.set n (s.val b)) else s.thing k:=fun k=>getD_set _ _ _ _ _ hlk
 have e0:∀ k,((putS kk n (s.val b) s).thing k).1=(s.thing k).1:=fun k=>by rw[e];split<;>simp_all
 have e2:∀ v:Vl,siteV (putS kk n (s.val b) s) v=siteV s v:=fun v=>by unfold siteV;rw[e0]
 have hnl:n<(s.thing kk).2.length:=by have:=hR.nf kk hlk;omega
 have hsites:=(hd.var a).sites
 obtain⟨p1,p2⟩:=putD_rest n (d.var b) (d.var a).l d
 refine .go he (putD d n (d.var b) (d.var a).l) (by show (s.at' + 1,_)∈_;rw[hm,if_neg hne];exact List.mem_singleton_self _) ⟨by rw[p1];exact h.n,fun k hk=>?_,fun k hk j hj=>?_⟩
 ·rw[e2,show (putD d n (d.var b) (d.var a).l).var k=d.var k by show (putD _ _ _ _).vars.getD k _=_;rw[p2]]
  exact h.v k hk
 ·have hk' : k<s.things.length:=by simpa [putS] using hk
  rw[e2,e0]
  have e3:(putS kk n (s.val b) s).field k j=((putS kk n (s.val b) s).thing k).2.getD j dV:=rfl
  rw[e3]
  rw[e]at hj ⊢
  split
  ·rename_i q
   rw[if_pos q]at hj
   have hj' : j<(s.thing kk).2.length:=by simpa using hj
   show heldR _ (((s.thing kk).2.set n (s.val b)).getD j dV) (siteV s (((s.thing kk).2.set n (s.val b)).getD j dV))=true
   rw[getD_set _ _ _ _ _ hnl]
   split
   ·rename_i q2
    refine held_put hn (hd.var b) _ _ _ _ hd hsites (.inr ⟨hvb,q2,_,hasI_iff.1 h1,by rw[q]⟩)
   ·refine held_put hn (hd.var b) _ _ _ _ hd hsites (.inl ?_)
    have:=h.f kk hlk j hj'
    rw[q]
    exact this
  ·rename_i q
   rw[if_neg q]at hj
   exact held_put hn (hd.var b) _ _ _ _ hd hsites (.inl (h.f k hk' j hj))
theorem step_sound {p:Pg}{is:Nat→Ins}{ins:Sl}{xs:Nat→Int}{d:Pd}{s:Rs}(hP:checkProg p is=0) (hd:OkPd p is d) (hR:RightS p s) (h:Shows d s) (he:s.ending=0) {m:Nat}(hm:s.at'=m) (hmn:m<p.n):
  SoundE (stepD (is m) m d) (stepI p ins xs (is m) s):=by
 obtain⟨hsm,hone⟩:=prog_right hP
 have hrd:=ready_of (hone m hmn)
 have hv:d.vars.length=s.vars.length:=by have:=hd.vars;have:=hR.nv;omega
 generalize is m=i at hrd ⊢
 obtain⟨kind,dst,ia,ib,num,goto⟩:=i
 obtain⟨kd,r1,r2,r3,r4,r5,r6,r7,r8⟩:=hrd
 dsimp only at kd r1 r2 r3 r4 r5 r6 r7 r8
 have nv:=hR.nv
 have hto:nTo kind=true→dst.toNat<s.vars.length:=fun h=>by have:=r1 h;omega
 have hia:nA kind=true→ia.toNat<s.vars.length:=fun h=>by have:=r2 h;omega
 have hib:nB kind=true→ib.toNat<s.vars.length:=fun h=>by have:=r3 h;omega
 rcases kinds_of kd with rfl|rfl|rfl|rfl|rfl|rfl|rfl|rfl|rfl|rfl|rfl|rfl|rfl|rfl|rfl|rfl|rfl|rfl|rfl
 ·refine sound_set (g:=⟨false,⟨false,num,num⟩,false,false,[]⟩) (v:=⟨1,num⟩) he hm h hv (hto rfl) ?_
  rw[held_1 rfl,inSpan_iff];exact⟨rfl,Int.le_refl _,Int.le_refl _⟩
 ·refine sound_set (g:=⟨false,noSpan,num==1,num==0,[]⟩) (v:=truthV (num==1)) he hm h hv (hto rfl) ?_
  have h7:=r7 rfl
  refine held_truth (fun q=>q) (fun q=>?_)
  have:num≠1:=by simpa using q
  have:num=0:=by omega
  simp[this]
 ·exact sound_set (g:=⟨true,noSpan,false,false,[]⟩) (v:=dV) he hm h hv (hto rfl) rfl
 ·have h1:=h.v _ (hia rfl)
  have e:=madeS_one (k:=4) (e:=d.var ib.toNat) (.inl rfl) (full_g h1)
  rw[if_pos rfl]at e
  show SoundE ⟨setE d m dst.toNat (madeG 4 (fulG (d.var ia.toNat)) (fulG (d.var ib.toNat)) (d.var ia.toNat).l (d.var ib.toNat).l).1,(madeG 4 (fulG (d.var ia.toNat)) (fulG (d.var ib.toNat)) (d.var ia.toNat).l (d.var ib.toNat).l).2,false⟩ (s.set dst.toNat (s.val ia.toNat))
  rw[e]
  refine sound_set he hm h hv (hto rfl) ?_
  have:=held_both puts_both (hd.var ia.toNat).right (OkD.noth (p:=p) (is:=is)).right _ _ (.inl h1)
  simpa only[bothD,Bool.or_false] using this
 ·exact count_sound (k:=5) (.inl rfl) he hm h hv (hto rfl) (hia rfl) (hib rfl)
 ·exact count_sound (k:=6) (.inr (.inl rfl)) he hm h hv (hto rfl) (hia rfl) (hib rfl)
 ·exact count_sound (k:=7) (.inr (.inr (.inl rfl))) he hm h hv (hto rfl) (hia rfl) (hib rfl)
 ·exact count_sound (k:=8) (.inr (.inr (.inr rfl))) he hm h hv (hto rfl) (hia rfl) (hib rfl)
 ·have h1:=h.v _ (hia rfl)
  have h2:=h.v _ (hib rfl)
  show SoundE ⟨setE d m dst.toNat (madeG 9 (fulG (d.var ia.toNat)) (fulG (d.var ib.toNat)) (d.var ia.toNat).l (d.var ib.toNat).l).1,(madeG 9 (fulG (d.var ia.toNat)) (fulG (d.var ib.toNat)) (d.var ia.toNat).l (d.var ib.toNat).l).2,false⟩ (s.set dst.toNat (truthV (sameB (s.val ia.toNat) (s.val ib.toNat))))
  rw[madeS_same (full_g h1) (full_g h2)]
  refine sound_set he hm h hv (hto rfl) (held_truth (fun q=>?_) (fun q=>?_))
  ·simp only[sameB,Bool.and_eq_true,beq_iff_eq]at q
   have:s.val ib.toNat=s.val ia.toNat:=by
    generalize s.val ib.toNat=u at q
    generalize s.val ia.toNat=v at q
    obtain⟨k1,n1⟩:=u
    obtain⟨k2,n2⟩:=v
    obtain⟨q1,q2⟩:=q
    dsimp only at q1 q2
    rw[q1,q2]
   rw[this]at h2
   exact held_same h1 h2
  ·exact held_notSame rfl rfl (valid_of (hR.vals _ (hia rfl))) (valid_of (hR.vals _ (hib rfl))) h1 h2 q
 ·have h1:=h.v _ (hia rfl)
  have e:=madeS_one (k:=10) (e:=d.var ib.toNat) (.inr rfl) (full_g h1)
  rw[if_neg (by decide)]at e
  show SoundE ⟨setE d m dst.toNat (madeG 10 (fulG (d.var ia.toNat)) (fulG (d.var ib.toNat)) (d.var ia.toNat).l (d.var ib.toNat).l).1,(madeG 10 (fulG (d.var ia.toNat)) (fulG (d.var ib.toNat)) (d.var ia.toNat).l (d.var ib.toNat).l).2,false⟩ (s.set dst.toNat (truthV (!countsV (s.val ia.toNat))))
  rw[e]
  have hva:=valid_of (hR.vals _ (hia rfl))
  refine sound_set he hm h hv (hto rfl) (held_truth (fun q=>?_) (fun q=>?_))
  ·exact held_no h1 (by simpa using q) _
  ·exact held_yes hva h1 (by simpa using q) _ rfl
 ·exact create_sound hd hR he hm hmn (by have:=hsm.f1;omega) h hv (hto rfl)
 ·have h1:=h.v _ (hia rfl)
  show SoundE ⟨setE d m dst.toNat (getD' d num.toNat (d.var ia.toNat).l),wrongD (d.var ia.toNat),false⟩ (if (s.val ia.toNat).kind=3 then s.set dst.toNat (s.field (s.val ia.toNat).n.toNat num.toNat) else { s with ending:=2 })
  by_cases h3:(s.val ia.toNat).kind=3
  ·rw[if_pos h3]
   have hva:=(valid_of (hR.vals _ (hia rfl))).th h3
   have hf:=r4 (.inl rfl)
   have hlk:(s.val ia.toNat).n.toNat<s.things.length:=by omega
   have hnl:num.toNat<(s.thing (s.val ia.toNat).n.toNat).2.length:=by have:=hR.nf _ hlk;omega
   refine sound_set he hm h hv (hto rfl) ?_
   have h2:=h.f _ hlk _ hnl
   rw[held_3 h3,hasI_iff]at h1
   have hsv:siteV s (s.val ia.toNat)=(s.thing (s.val ia.toNat).n.toNat).1:=by unfold siteV;rw[if_pos h3]
   rw[hsv]at h1
   exact held_get hd num.toNat _ nothR OkD.noth (.inr ⟨_,h1,h2⟩)
  ·rw[if_neg h3]
   exact .wrong rfl (held_wrong h1 h3)
 ·have h1:=h.v _ (hia rfl)
  show SoundE ⟨if (d.var ia.toNat).l=[] then [] else [((m:Int)+1,putD d num.toNat (d.var ib.toNat) (d.var ia.toNat).l)],wrongD (d.var ia.toNat),false⟩ (if (s.val ia.toNat).kind=3 then putS (s.val ia.toNat).n.toNat num.toNat (s.val ib.toNat) s else { s with ending:=2 })
  by_cases h3:(s.val ia.toNat).kind=3
  ·rw[if_pos h3]
   exact put_sound hd hR he hm (by have:=r4 (.inr rfl);omega) h (hia rfl) (hib rfl) h3
  ·rw[if_neg h3]
   exact .wrong rfl (held_wrong h1 h3)
 ·have h8:=r8 rfl
  show SoundE ⟨setE d m dst.toNat ⟨false,⟨false,-num,num⟩,false,false,[]⟩,false,false⟩ (Rs.set { s with taken:=wrap64 (s.taken+1) } dst.toNat ⟨1,inputV ⟨14,dst,ia,ib,num,goto⟩ ins xs s⟩)
  refine sound_set (s:={ s with taken:=wrap64 (s.taken+1) }) he hm (h.like rfl rfl) hv (hto rfl) ?_
  rw[held_1 rfl,inSpan_iff]
  have:-num≤inputV ⟨14,dst,ia,ib,num,goto⟩ ins xs s∧inputV ⟨14,dst,ia,ib,num,goto⟩ ins xs s≤num:=by
   unfold inputV
   dsimp only
   split<;>omega
  exact⟨rfl,this.1,this.2⟩
 ·have h1:=h.v _ (hia rfl)
  have hva:=valid_of (hR.vals _ (hia rfl))
  show SoundE ⟨(if yesG (fulG (d.var ia.toNat))=true then [(goto,d.setVar ia.toNat (trulyD (d.var ia.toNat)))] else [])++(if noG ((d.var ia.toNat).gu nilSl)=true then [((m:Int)+1,d.setVar ia.toNat (falselyD (d.var ia.toNat)))] else []),false,false⟩ (if countsV (s.val ia.toNat) then { s with at':=goto } else { s with at':=s.at' + 1 })
  by_cases hc:countsV (s.val ia.toNat)=true
  ·rw[if_pos hc]
   exact .go he _ (List.mem_append_left _ (by rw[if_pos (held_yes hva h1 hc _ rfl)];exact List.mem_singleton_self _)) ((h.narrow hv (hia rfl) (held_truly hva h1 hc)).like rfl rfl)
  ·rw[if_neg hc]
   have hc' : countsV (s.val ia.toNat)=false:=by simpa using hc
   refine .go he _ (List.mem_append_right _ (by rw[if_pos (held_no h1 hc' _)];show (s.at' + 1,_)∈_;rw[hm];exact List.mem_singleton_self _)) ((h.narrow hv (hia rfl) (held_falsely h1 hc')).like rfl rfl)
 ·exact .go (s:={ s with at':=goto }) he d (List.mem_singleton_self _) (h.like rfl rfl)
 ·have h1:=h.v _ (hia rfl)
  have hva:=valid_of (hR.vals _ (hia rfl))
  show SoundE ⟨if yesG (fulG (d.var ia.toNat))=true then [((m:Int)+1,d.setVar ia.toNat (trulyD (d.var ia.toNat)))] else [],false,noG ((d.var ia.toNat).gu nilSl)⟩ (if countsV (s.val ia.toNat) then { s with at':=s.at' + 1 } else { s with ending:=3 })
  by_cases hc:countsV (s.val ia.toNat)=true
  ·rw[if_pos hc]
   exact .go he _ (by rw[if_pos (held_yes hva h1 hc _ rfl)];show (s.at' + 1,_)∈_;rw[hm];exact List.mem_singleton_self _) ((h.narrow hv (hia rfl) (held_truly hva h1 hc)).like rfl rfl)
  ·rw[if_neg hc]
   exact .fails rfl (held_no h1 (by simpa using hc) _)
 ·exact .go (s:={ s with lines:=s.lines++[lineV (s.val ia.toNat)],at':=s.at' + 1 }) he d (by show (s.at' + 1,d)∈_;rw[hm];exact List.mem_singleton_self _) (h.like rfl rfl)
 ·exact .done (.inl rfl)
end Go.Proofs.YtplcndmdkabmeaaGreatDoor
