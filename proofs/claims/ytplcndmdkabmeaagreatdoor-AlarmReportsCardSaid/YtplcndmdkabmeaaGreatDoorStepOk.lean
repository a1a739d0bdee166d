/- What is joined of right pictures is right. Plain. Conditions: those of each law. | What a step makes of a right picture is right. Plain. Conditions: a right program. -/
import Derived.Test.YtplcndmdkabmeaaGreatDoorPil
import Derived.Test.YtplcndmdkabmeaaGreatDoorStpb
import Derived.Test.YtplcndmdkabmeaaGreatDoorPicc
import Derived.Test.YtplcndmdkabmeaaGreatDoorSpn
set_option linter.unusedSimpArgs false
set_option linter.unusedVariables false
set_option maxRecDepth 100000
namespace Go.Proofs.YtplcndmdkabmeaaGreatDoor
open Go.RowKit
theorem Zj {q:Nat→Bool}{n:Nat}(h:¬ j7 q n=true) (k:Nat) (hk:k<n):q k=false:=by
 cases hq:q k with
 | false=>rfl
 | true=>exact absurd (qY hk hq) h
structure Gt (f:zq→zq→zq):Prop where
 ok:∀ s t,zm s=0→zm t=0→zm (f s t)=0
 no:f zC zC=zC
 inl:∀ s t a,zm s=0→zm t=0→jT s a=true→jT (f s t) a=true
 inr:∀ s t a,zm s=0→zm t=0→jT t a=true→jT (f s t) a=true
theorem qv (s:zq) (a:Int):jT s a=true↔s.none=false∧s.lo≤a∧a≤s.hi:=by
 simp[jT,Bool.and_eq_true]
theorem Jg:Gt both:=by
 refine⟨fun s t hs ht=>Gd hs ht,rfl,fun s t a _ _ h=>?_,fun s t a _ _ h=>?_⟩
 ·obtain⟨h1,h2,h3⟩:=(qv s a).1 h
  unfold both
  rw[if_neg (by simp[h1])]
  split
  ·exact h
  ·rw[qv];exact⟨rfl,Int.le_trans (Int.min_le_left _ _) h2,Int.le_trans h3 (Int.le_max_left _ _)⟩
 ·obtain⟨h1,h2,h3⟩:=(qv t a).1 h
  unfold both
  split
  ·exact h
  ·rw[if_neg (by simp[h1]),qv];exact⟨rfl,Int.le_trans (Int.min_le_right _ _) h2,Int.le_trans h3 (Int.le_max_right _ _)⟩
theorem VS:Gt jA:=by
 refine⟨fun s t hs ht=>(zer hs ht).1,rfl,fun s t a hs ht h=>?_,fun s t a hs ht h=>?_⟩
 ·unfold jA
  split
  ·exact Jg.inl s t a hs ht h
  ·obtain⟨h1,h2,h3⟩:=(qv s a).1 h
   have e:=(zu hs).1
   obtain⟨e1,e2,e3,e4⟩:=e
   rw[qv]
   refine⟨rfl,?_,?_⟩
   ·show (if t.lo<s.lo then (-2147483648:Int) else min s.lo t.lo)≤a
    split
    ·omega
    ·omega
   ·show a≤(if s.hi<t.hi then (2147483647:Int) else max s.hi t.hi)
    split
    ·omega
    ·omega
 ·unfold jA
  split
  ·exact Jg.inr s t a hs ht h
  ·obtain⟨h1,h2,h3⟩:=(qv t a).1 h
   have e:=(zu ht).1
   obtain⟨e1,e2,e3,e4⟩:=e
   rw[qv]
   refine⟨rfl,?_,?_⟩
   ·show (if t.lo<s.lo then (-2147483648:Int) else min s.lo t.lo)≤a
    split
    ·omega
    ·omega
   ·show a≤(if s.hi<t.hi then (2147483647:Int) else max s.hi t.hi)
    split
    ·omega
    ·omega
theorem VT {p:Pg}{is:Nat→Ins}{l:List Int}:yw p is l=false↔∀ x∈l,jc p is x=true:=by
 unfold yw
 constructor
 ·intro h x hx
  obtain⟨k,hk,rfl⟩:=List.mem_iff_getElem.1 hx
  have:=Zj (q:=fun k=>!jc p is (l.getD k 0)) (by rw[h];decide) k hk
  simpa [List.getD_eq_getElem?_getD,List.getElem?_eq_getElem hk] using this
 ·intro h
  refine jx fun k hk=>?_
  rw[h _ (qX hk)]
  rfl
theorem Gv {l:List Int}(h:ZL l):Yd l=false:=by
 unfold Yd
 refine jx fun k hk=>?_
 have h1:k<l.length:=by omega
 have h2:k+1<l.length:=by omega
 have h3:=List.pairwise_iff_getElem.1 h k (k+1) h1 h2 (by omega)
 simp only[List.getD_eq_getElem?_getD,List.getElem?_eq_getElem h1,List.getElem?_eq_getElem h2,Option.getD_some,decide_eq_false_iff_not]
 omega
theorem Jb {p:Pg}{is:Nat→Ins}{d:Res}(h:jX p is d=0):zm d.span=0∧yw p is d.l=false∧Yd d.l=false:=by
 unfold jX Jp at h
 dsimp only[Res.gu]at h
 split at h
 ·rename_i h1;exact absurd h h1
 rename_i h1
 split at h
 ·cases h
 rename_i h2
 split at h
 ·cases h
 rename_i h3
 exact⟨by omega,by simpa using h2,by simpa using h3⟩
theorem zdy {p:Pg}{is:Nat→Ins}{d:Res}(h1:zm d.span=0) (h2:yw p is d.l=false) (h3:Yd d.l=false):jX p is d=0:=by
 unfold jX Jp
 dsimp only[Res.gu]
 rw[if_neg (by omega),if_neg (by rw[h2];decide),if_neg (by rw[h3];decide)]
theorem Yg {p:Pg}{is:Nat→Ins}{f:zq→zq→zq}(hf:Gt f) {d e:Res}(hd:jX p is d=0) (he:jX p is e=0):jX p is (qB f d e)=0:=by
 obtain⟨a1,a2,_⟩:=Jb hd
 obtain⟨b1,b2,_⟩:=Jb he
 refine zdy (hf.ok _ _ a1 b1) ?_ (Gv (QJ _ _).1)
 rw[VT]at *
 intro x hx
 rcases ((QJ d.l e.l).2 x).1 hx with h|h
 ·exact a2 x h
 ·exact b2 x h
structure Rp (p:Pg) (is:Nat→Ins) (d:Pd):Prop where
 vars:(d.vars.length:Int)=p.vars
 fields:d.fields.length=p.n
 rows:∀ k,k<d.fields.length→((d.row k).length:Int)=p.fields
 vg:∀ k,k<d.vars.length→jX p is (d.var k)=0
 fg:∀ k j,k<d.fields.length→j<(d.row k).length→jX p is (d.field k j)=0
 stray:∀ k j,k<d.fields.length→jc p is k=false→j<(d.row k).length→qP (d.field k j)=true
theorem zaL {α:Type}{f:α→Int}{l:List α}(h:∀ x∈l,f x=0):jI (l.map f)=0:=by
 induction l with
 | nil=>rfl
 | cons a l ih=>
  have h1:=h a List.mem_cons_self
  simp only[List.map_cons,jI,h1,if_true]
  exact ih fun x hx=>h x (List.mem_cons_of_mem _ hx)
theorem Rp.of {p:Pg}{is:Nat→Ins}{d:Pd}(h:qd p is d=0) (hn:d.none=false):Rp p is d:=by
 obtain⟨dn,vs,fs⟩:=d
 dsimp only at hn
 subst hn
 rw[JC]at h
 split at h
 ·cases h
 rename_i h1
 split at h
 ·rename_i h2;exact absurd h h2
 rename_i h2
 split at h
 ·cases h
 rename_i hst
 have h3:YK p is (vs::fs)=0:=by omega
 rw[Jq]at h3
 have h4:=Y4 h3
 have h5:ZF p ⟨false,vs,fs⟩=false:=by simpa using h1
 unfold ZF at h5
 simp only[Bool.or_eq_false_iff,bne_eq_false_iff_eq]at h5
 obtain⟨⟨h6,h7⟩,h8⟩:=h5
 have h9:∀ k,k<fs.length→((fs.getD k []).length:Int)=p.fields:=fun k hk=>by
  have:=Zj (q:=fun i=>((Pd.row ⟨false,vs,fs⟩ i).length:Int) != p.fields) (by rw[h8];decide) k hk
  simpa using this
 refine⟨h6,by dsimp only;omega,h9,fun k hk=>h4 _ ?_,fun k j hk hj=>h4 _ ?_,fun k j hk hs hj=>?_⟩
 ·exact List.mem_flatten.2 ⟨vs,List.mem_cons_self,qX hk⟩
 ·exact List.mem_flatten.2 ⟨fs.getD k [],List.mem_cons_of_mem _ (qX hk),qX hj⟩
 ·unfold ZU at hst
  have h10:=Zj hst k hk
  rw[hs]at h10
  have h11:YL (fs.getD k [])=false:=by simpa using h10
  unfold YL at h11
  have h12:=Zj (q:=fun k'=>!qP ((fs.getD k []).getD k' zy)) (by rw[h11];decide) j hj
  simpa using h12
theorem Rp.right {p:Pg}{is:Nat→Ins}{d:Pd}(h:Rp p is d) (hn:d.none=false):qd p is d=0:=by
 obtain⟨dn,vs,fs⟩:=d
 dsimp only at hn
 subst hn
 rw[JC]
 have h5:ZF p ⟨false,vs,fs⟩=false:=by
  unfold ZF
  simp only[Bool.or_eq_false_iff,bne_eq_false_iff_eq]
  refine⟨⟨h.vars,by have h7:fs.length=p.n:=h.fields;show (fs.length:Int)=p.n;omega⟩,jx fun k hk=>?_⟩
  have:=h.rows k hk
  simpa using this
 have h3:YK p is (vs::fs)=0:=by
  rw[Jq]
  refine zaL fun x hx=>?_
  obtain⟨l,hl,hxl⟩:=List.mem_flatten.1 hx
  obtain⟨j,hj,rfl⟩:=List.mem_iff_getElem.1 hxl
  rcases List.mem_cons.1 hl with rfl|hl
  ·have:=h.vg j hj
   simpa [List.getD_eq_getElem?_getD,List.getElem?_eq_getElem hj] using this
  ·obtain⟨k,hk,rfl⟩:=List.mem_iff_getElem.1 hl
   have e:fs.getD k []=fs[k]:=by simp[List.getD_eq_getElem?_getD,List.getElem?_eq_getElem hk]
   have h2:jX p is ((fs.getD k []).getD j zy)=0:=h.fg k j hk (show j<(fs.getD k []).length by rw[e];exact hj)
   rw[e]at h2
   simpa [List.getD_eq_getElem?_getD,List.getElem?_eq_getElem hj] using h2
 have h6:ZU p is fs=false:=by
  unfold ZU
  refine jx fun k hk=>?_
  cases hs:jc p is k with
  | true=>rfl
  | false=>
   have:YL (fs.getD k [])=false:=by
    unfold YL
    refine jx fun j hj=>?_
    rw[h.stray k j hk hs hj]
    rfl
   rw[this];rfl
 rw[if_neg (by rw[h5];decide),if_neg (by omega),if_neg (by rw[h6];decide)]
theorem Rp.pd {p:Pg}{is:Nat→Ins}{d:Pd}(h:Rp p is d) (hn:d.none=false) (hp:zl p is=0):qk p d:=qk.of (h.right hn) hp hn
theorem K5 (f:zq→zq→zq) (ds es:List Res) (k n:Nat) (hk:k<n):(yi f ds es n).getD k zy=qB f (ds.getD k zy) (es.getD k zy):=Qu _ _ _ _ hk
theorem Yh (f:zq→zq→zq) (d e:Pd) (k n:Nat) (hk:k<n):(qG f d e n).getD k []=qF f (d.row k) (e.row k):=Qu _ _ _ _ hk
theorem zaM {f:zq→zq→zq}(hf:Gt f) {p:Pg}{is:Nat→Ins}{d e:Res}(hd:jX p is d=0) (he:jX p is e=0) (h1:qP d=true) (h2:qP e=true):qP (qB f d e)=true:=by
 obtain⟨dn,⟨dsn,dlo,dhi⟩,dt,df,dl⟩:=d
 obtain⟨en,⟨esn,elo,ehi⟩,et,ef,el⟩:=e
 have a:=(zu (Jb hd).1).2.2
 have b:=(zu (Jb he).1).2.2
 simp only[qP,Bool.and_eq_true,Bool.not_eq_true',beq_iff_eq]at h1 h2
 obtain⟨⟨⟨⟨h1a,h1b⟩,h1c⟩,h1d⟩,h1e⟩:=h1
 obtain⟨⟨⟨⟨h2a,h2b⟩,h2c⟩,h2d⟩,h2e⟩:=h2
 obtain rfl:dl=[]:=List.eq_nil_of_length_eq_zero (by omega)
 obtain rfl:el=[]:=List.eq_nil_of_length_eq_zero (by omega)
 obtain⟨rfl,rfl⟩:=a h1b
 obtain⟨rfl,rfl⟩:=b h2b
 subst h1a h1b h1c h1d h2a h2b h2c h2d
 have e0:y7 ([]:List Int) []=[]:=zag List.Pairwise.nil
 have e1:=hf.no
 simp only[qP,qB,e0]
 rw[show (⟨true,0,0⟩:zq)=zC from rfl,e1]
 rfl
theorem Rp.both {p:Pg}{is:Nat→Ins}{f:zq→zq→zq}(hf:Gt f) {d e:Pd}(hd:Rp p is d) (he:Rp p is e):Rp p is (qb f d e):=by
 have hff:d.fields.length=e.fields.length:=by rw[hd.fields,he.fields]
 have hrl:∀ k,k<d.fields.length→(d.row k).length=(e.row k).length:=fun k hk=>by
  have h1:=hd.rows k hk
  have h2:=he.rows k (by rw[← hff];exact hk)
  omega
 have hvl:d.vars.length=e.vars.length:=by have:=hd.vars;have:=he.vars;omega
 have hfl:(qb f d e).fields.length=d.fields.length:=by simp[qb,qG]
 have hv' : (qb f d e).vars.length=d.vars.length:=Y3 _ _ _ _
 have hrow:∀ k,k<d.fields.length→(qb f d e).row k=qF f (d.row k) (e.row k):=fun k hk=>Yh f d e k _ hk
 have hfld:∀ k j,k<d.fields.length→j<(d.row k).length→(qb f d e).field k j=qB f (d.field k j) (e.field k j):=fun k j hk hj=>by
  show ((qb f d e).row k).getD j zy=_
  rw[hrow k hk,K5 f _ _ j _ hj]
 have hlen:∀ k,k<d.fields.length→((qb f d e).row k).length=(d.row k).length:=fun k hk=>by rw[hrow k hk,Y3]
 refine⟨by rw[hv'];exact hd.vars,by rw[hfl];exact hd.fields,fun k hk=>?_,fun k hk=>?_,fun k j hk hj=>?_,fun k j hk hs hj=>?_⟩
 ·rw[hfl]at hk
  rw[hlen k hk];exact hd.rows k hk
 ·rw[hv']at hk
  have e1:(qb f d e).var k=qB f (d.var k) (e.var k):=K5 f _ _ k _ hk
  rw[e1]
  exact Yg hf (hd.vg k hk) (he.vg k (by rw[← hvl];exact hk))
 ·rw[hfl]at hk
  rw[hlen k hk]at hj
  rw[hfld k j hk hj]
  exact Yg hf (hd.fg k j hk hj) (he.fg k j (by rw[← hff];exact hk) (by rw[← hrl k hk];exact hj))
 ·rw[hfl]at hk
  rw[hlen k hk]at hj
  rw[hfld k j hk hj]
  have hj' : j<(e.row k).length:=by rw[← hrl k hk];exact hj
  have hk' : k<e.fields.length:=by rw[← hff];exact hk
  exact zaM hf (hd.fg k j hk hj) (he.fg k j hk' hj') (hd.stray k j hk hs hj) (he.stray k j hk' hs hj')
theorem VU {p:Pg}{is:Nat→Ins}{f:zq→zq→zq}(hf:Gt f) {d e:Pd}(hp:zl p is=0) (hd:qd p is d=0) (he:qd p is e=0):qd p is (yl f d e)=0:=by
 unfold yl
 cases hdn:d.none with
 | true=>
  rw[if_pos rfl]
  cases hen:e.none with
  | true=>rfl
  | false=>
   rw[if_neg (by decide),Qm (qk.of he hp hen) hen]
   exact he
 | false=>
  rw[if_neg (by decide)]
  cases hen:e.none with
  | true=>
   rw[if_pos rfl,Qm (qk.of hd hp hdn) hdn]
   exact hd
  | false=>
   rw[if_neg (by decide)]
   exact((Rp.of hd hdn).both hf (Rp.of he hen)).right rfl
set_option maxHeartbeats 1000000
section
variable {p : Pg} {is : Nat → Ins}
theorem Yw {lo hi:Int}(h1:-2147483648≤lo) (h2:lo≤hi) (h3:hi≤2147483647):zm ⟨false,lo,hi⟩=0:=by
 unfold zm jm
 have e1:(decide (-2147483648≤lo)&&decide (lo≤2147483647))=true:=by simp;omega
 have e2:(decide (-2147483648≤hi)&&decide (hi≤2147483647))=true:=by simp;omega
 simp[e1,e2]
 omega
theorem OkD.join {f:zq→zq→zq}(hf:Gt f) {d e:Res}(h:OkD p is d) (h' : OkD p is e):OkD p is (qB f d e):=OkD.of (Yg hf h.right h'.right)
theorem OkD.noth:OkD p is Ko:=⟨rfl,(fun x hx=>by cases hx),List.Pairwise.nil⟩
theorem OkD.zero:OkD p is zy:=⟨rfl,(fun x hx=>by cases hx),List.Pairwise.nil⟩
theorem OkD.plain {d:Res}(h1:zm d.span=0) (h2:d.l=[]):OkD p is d:=⟨h1,(fun x hx=>by rw[h2]at hx;cases hx),by rw[h2];exact List.Pairwise.nil⟩
theorem jh.var {d:Pd}(h:jh p is d) (k:Nat):OkD p is (d.var k):=by
 rcases Nat.lt_or_ge k d.vars.length with h1|h1
 ·exact h.vg _ (qX h1)
 ·show OkD p is (d.vars.getD k zy)
  rw[List.getD_eq_getElem?_getD,List.getElem?_eq_none h1];exact OkD.zero
theorem jh.field {d:Pd}(h:jh p is d) (m n:Nat):OkD p is (d.field m n):=by
 rcases Nat.lt_or_ge m d.fields.length with h1|h1
 ·rcases Nat.lt_or_ge n (d.row m).length with h2|h2
  ·exact h.fg m (by rw[← h.fields];exact h1) _ (qX (l:=d.row m) h2)
  ·show OkD p is ((d.row m).getD n zy)
   rw[List.getD_eq_getElem?_getD,List.getElem?_eq_none h2];exact OkD.zero
 ·show OkD p is ((d.fields.getD m []).getD n zy)
  rw[List.getD_eq_getElem?_getD (l:=d.fields),List.getElem?_eq_none h1];exact OkD.zero
theorem zcs {α:Type}{l:List α}{k:Nat}{v x:α}(h:x∈l.set k v):x=v∨x∈l:=by
 rcases List.mem_or_eq_of_mem_set h with h|h
 ·exact .inr h
 ·exact .inl h
theorem jh.setVar {d:Pd}(h:jh p is d) (k:Nat) {g:Res}(hg:OkD p is g):jh p is (d.setVar k g):=
 ⟨h.none,by show ((d.vars.set k g).length:Int)=_;rw[List.length_set];exact h.vars,h.fields,h.rows,fun x hx=>by
  rcases zcs hx with rfl|hx
  ·exact hg
  ·exact h.vg x hx,h.fg,h.stray⟩
theorem jh.setRow {d:Pd}(h:jh p is d) {m:Nat}(hm:m<p.n) {l:List Res}(hl:l.length=(d.row m).length) (hg:∀ g∈l,OkD p is g) (hs:jc p is m=true):jh p is (d.setRow m l):=by
 have hmf:m<d.fields.length:=by rw[h.fields];exact hm
 have hrow:∀ k,(d.setRow m l).row k=if k=m then l else d.row k:=fun k=>qy _ _ _ _ _ hmf
 refine⟨h.none,h.vars,by show (d.fields.set m l).length=_;rw[List.length_set];exact h.fields,fun k hk=>?_,h.vg,fun k hk g hgk=>?_,fun k hk hsk g hgk=>?_⟩
 ·rw[hrow]
  split
  ·rename_i h1;rw[hl,← h1];exact h.rows k hk
  ·exact h.rows k hk
 ·rw[hrow]at hgk
  split at hgk
  ·exact hg g hgk
  ·exact h.fg k hk g hgk
 ·rw[hrow]at hgk
  split at hgk
  ·rename_i h1;rw[h1,hs]at hsk;cases hsk
  ·exact h.stray k hk hsk g hgk
theorem jh.setField {d:Pd}(h:jh p is d) {m:Nat}(hm:m<p.n) (n:Nat) {g:Res}(hg:OkD p is g) (hs:jc p is m=true):jh p is (d.setField m n g):=by
 refine h.setRow hm (l:=(d.row m).set n g) (by rw[List.length_set]) (fun x hx=>?_) hs
 rcases zcs hx with rfl|hx
 ·exact hg
 ·exact h.fg m hm x hx
theorem OkD.truly {d:Res}(h:OkD p is d):OkD p is (ya d):=by
 refine⟨?_,h.sites,h.asc⟩
 obtain⟨h1,h2,h3⟩:=zu h.span
 obtain⟨h4,h5,h6,h7⟩:=h1
 show zm (jt d.span)=0
 obtain⟨n,⟨sn,lo,hi⟩,t,f,l⟩:=d
 dsimp only at h2 h3 h4 h5 h6 h7 ⊢
 have hsp:=h.span
 dsimp only at hsp
 unfold jt
 split
 ·rfl
 ·rename_i q1
  split
  ·rename_i q2
   simp only[Bool.and_eq_true,Bool.not_eq_true',beq_iff_eq]at q1 q2
   obtain⟨e1,e2⟩:=q2
   subst e1 e2
   have e3:hi≠0:=fun e=>q1 ⟨⟨rfl,rfl⟩,e⟩
   have h8:(0:Int)≤hi:=h2
   have h9:hi≤2147483647:=h7
   exact Yw (lo:=1) (hi:=hi) (by omega) (by omega) (by omega)
  ·rename_i q2
   split
   ·rename_i q3
    simp only[Bool.and_eq_true,Bool.not_eq_true',beq_iff_eq]at q2 q3
    obtain⟨e1,e2⟩:=q3
    subst e1 e2
    have e3:lo≠0:=fun e=>q2 ⟨rfl,e⟩
    have h8:lo≤(0:Int):=h2
    have h9:-2147483648≤lo:=h4
    exact Yw (lo:=lo) (hi:=-1) (by omega) (by omega) (by omega)
   ·exact hsp
theorem OkD.falsely {d:Res}(h:OkD p is d):OkD p is (yu d):=by
 refine OkD.plain ?_ rfl
 show zm (ji d.span ⟨false,0,0⟩)=0
 unfold ji
 split
 ·rfl
 ·rename_i q
  simp only[Bool.or_eq_true,decide_eq_true_eq,not_or]at q
  have hsp:=h.span
  obtain⟨n,⟨sn,lo,hi⟩,t,f,l⟩:=d
  dsimp only at q hsp ⊢
  have e1:max lo 0=0∧min hi 0=0:=by omega
  rw[e1.1,e1.2];rfl
theorem OkD.get {d:Pd}(h:jh p is d) (n:Nat):∀ (l:List Int) (g:Res),OkD p is g→OkD p is (l.foldl (fun g s=>qB both g (d.field s.toNat n)) g)
 | [],_,hg=>hg
 | s::l,_,hg=>OkD.get h n l _ (hg.join Jg (h.field _ _))
theorem jh.put (n:Nat) {b:Res}(hb:OkD p is b):∀ (l:List Int) (d:Pd),jh p is d→(∀ x∈l,jc p is x=true)→jh p is (yZ d n b l)
 | [],_,h,_=>h
 | s::l,d,h,hl=>by
  have h1:=hl s List.mem_cons_self
  obtain⟨m,h2,h3,_⟩:=Vw h1
  refine jh.put n hb l _ (h.setField (m:=s.toNat) (by omega) n ((h.field _ _).join Jg hb) ?_) (fun x hx=>hl x (List.mem_cons_of_mem _ hx))
  rw[h2];rw[h2]at h1;exact h1
theorem zfK {k:Int}{s t:zq}(hs:zm s=0) (ht:zm t=0):zm (QK k s t)=0:=by
 cases hsn:s.none with
 | true=>unfold QK;rw[hsn];rfl
 | false=>
  cases htn:t.none with
  | true=>unfold QK;rw[htn,Bool.or_true];rfl
  | false=>
   have h1:=(zu hs).2.1
   have h2:=(zu ht).2.1
   exact(zbu hsn htn (Int.le_refl _) h1 (Int.le_refl _) h2).1
theorem zeU {k:Int}{d e:Res}{s t:Sl}(hd:OkD p is d) (he:OkD p is e):OkD p is (qK k (d.gu s) (e.gu t) d.l e.l).1:=by
 unfold qK
 split
 ·exact OkD.noth
 split
 ·show OkD p is ⟨d.null,both d.span zC,d.tr,d.fa,y7 d.l []⟩
  rw[Xs hd.span,UG hd.asc]
  exact⟨hd.span,hd.sites,hd.asc⟩
 split
 ·exact OkD.plain rfl rfl
 split
 ·exact OkD.plain rfl rfl
 ·refine OkD.plain ?_ rfl
  show zm (Yz k (d.gu s) (e.gu t)).span=0
  unfold Yz
  split
  ·rfl
  split
  ·rfl
  ·exact zfK hd.span he.span
end
theorem zaN {p:Pg}{is:Nat→Ins}{d:Pd}{i:Nat}(hp:zl p is=0) (h:jh p is d) (hi:i<p.n):∀ e∈(zU (is i) i d).es,(0≤e.1∧e.1≤p.n)∧jh p is e.2:=by
 have hr:=qN ((zx hp).2 i hi)
 have hset:∀ (k:Nat) (g:Res),OkD p is g→∀ e∈jV d i k g,(0≤e.1∧e.1≤p.n)∧jh p is e.2:=by
  intro k g hg e he
  unfold jV at he
  split at he
  ·cases he
  ·rw[List.mem_singleton.1 he]
   exact⟨by dsimp only;omega,h.setVar k hg⟩
 have hyes:∀ (b:Bool) (go:Int) (k:Nat) (g:Res),(0≤go∧go≤p.n)→OkD p is g→∀ e∈(if b=true then [(go,d.setVar k g)] else []),(0≤e.1∧e.1≤p.n)∧jh p is e.2:=by
  intro b go k g hgo hg e he
  split at he
  ·rw[List.mem_singleton.1 he]
   exact⟨hgo,h.setVar k hg⟩
  ·cases he
 have hon:(0:Int)≤(i:Int)+1∧(i:Int)+1≤p.n:=by omega
 intro e he
 unfold zU at he
 split at he
 ·rename_i hk
  refine hset _ _ (OkD.plain ?_ ?_) e he
  ·unfold jb
   split
   ·rename_i h1
    have h2:=hr.n1 h1
    exact Yw h2.1 (Int.le_refl _) h2.2
   split
   ·rename_i h1
    have h2:=hr.n14 h1
    exact Yw (by omega) (by omega) (by omega)
   split
   ·rfl
   split
   ·rfl
   ·rfl
  ·unfold jb
   repeat (first|rfl|split)
 split at he
 ·rename_i hk
  rw[List.mem_singleton.1 he]
  have hs:jc p is i=true:=by simp[jc,hi,hk]
  have hself:OkD p is (Yy i):=⟨rfl,(fun x hx=>by rw[List.mem_singleton.1 hx];exact hs),List.pairwise_singleton _ _⟩
  have h8:∀ g∈(d.row i).map (fun g:Res=>{ g with null:=true }),OkD p is g:=fun g hg=>by
   obtain⟨g0,h0,rfl⟩:=List.mem_map.1 hg
   have h1:=h.fg i hi g0 h0
   exact⟨h1.span,h1.sites,h1.asc⟩
  have h9:jh p is ((d.setVar (is i).to.toNat (Yy i)).setRow i ((d.row i).map fun g=>{ g with null:=true })):=(h.setVar _ hself).setRow hi (by rw[List.length_map];rfl) h8 hs
  exact⟨hon,h9⟩
 split at he
 ·exact hset _ _ (OkD.get h (is i).n.toNat (d.var (is i).a.toNat).l Ko OkD.noth) e he
 split at he
 ·dsimp only at he
  split at he
  ·cases he
  ·rw[List.mem_singleton.1 he]
   exact⟨hon,jh.put _ (h.var _) _ _ h (h.var _).sites⟩
 split at he
 ·rename_i hk
  rcases List.mem_append.1 he with he|he
  ·exact hyes _ _ _ _ (hr.go (by rw[hk];decide)) (h.var _).truly e he
  ·exact hyes _ _ _ _ hon (h.var _).falsely e he
 split at he
 ·exact hyes _ _ _ _ hon (h.var _).truly e he
 split at he
 ·rename_i hk
  rw[List.mem_singleton.1 he]
  exact⟨hr.go (by rw[hk];decide),h⟩
 split at he
 ·rw[List.mem_singleton.1 he]
  exact⟨hon,h⟩
 split at he
 ·cases he
 ·exact hset _ _ (zeU (h.var _) (h.var _)) e he
end Go.Proofs.YtplcndmdkabmeaaGreatDoor
