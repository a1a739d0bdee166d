import Derived.Test.YteoilpcbekijlaaGreatDoorSolB
set_option linter.unusedSimpArgs false
set_option linter.unusedVariables false
set_option maxRecDepth 100000
namespace Go.Proofs.YteoilpcbekijlaaGreatDoor
open Go.RowKit
def sumN (f:Nat→Nat):Nat→Nat
 | 0=>0
 | n+1=>sumN f n+f n
theorem sumN_le {f g:Nat→Nat}:∀ {n:Nat},(∀ k,k<n→f k≤g k)→sumN f n≤sumN g n
 | 0,_=>Nat.le_refl _
 | n+1,h=>Nat.add_le_add (sumN_le fun k hk=>h k (by omega)) (h n (by omega))
theorem sumN_lt {f g:Nat→Nat}{j:Nat}(hs:f j<g j):∀ {n:Nat},(∀ k,k<n→f k≤g k)→j<n→sumN f n<sumN g n
 | 0,_,hj=>absurd hj (Nat.not_lt_zero j)
 | n+1,h,hj=>by
  show sumN f n+f n<sumN g n+g n
  have h1:=h n (by omega)
  by_cases e:j=n
  ·subst e
   have h2:=sumN_le (f:=f) (g:=g) (n:=j) fun k hk=>h k (by omega)
   omega
  ·have h2:=sumN_lt hs (n:=n) (fun k hk=>h k (by omega)) (by omega)
   omega
theorem sumN_top {f:Nat→Nat}{m:Nat}:∀ {n:Nat},(∀ k,k<n→f k≤m)→sumN f n≤n*m
 | 0,_=>by simp[sumN]
 | n+1,h=>by
  have h1:=h n (by omega)
  have h2:=sumN_top (f:=f) (m:=m) (n:=n) fun k hk=>h k (by omega)
  show sumN f n+f n≤_
  rw[Nat.add_mul]
  omega
theorem sumN_eq {f g:Nat→Nat}{n:Nat}(h:∀ k,k<n→f k=g k):sumN f n=sumN g n:=
 Nat.le_antisymm (sumN_le fun k hk=>Nat.le_of_eq (h k hk)) (sumN_le fun k hk=>Nat.le_of_eq (h k hk).symm)
def bitN (b:Bool):Nat:=if b=true then 1 else 0
def highS (s:Span):Nat:=if s.none=true then 0 else (s.hi - s.lo+1).toNat
def highD (d:Res):Nat:=bitN d.null+bitN d.tr+bitN d.fa+d.l.length+highS d.span
def highRow (ds:List Res):Nat:=sumN (fun k=>highD (ds.getD k zeroD)) ds.length
def highP (d:Pd):Nat:=if d.none=true then 0 else 1+(highRow d.vars+sumN (fun k=>highRow (d.row k)) d.fields.length)
def highL (l:List Pd):Nat:=sumN (fun k=>highP (l.getD k nonePd)) l.length
theorem bitN_or (a b:Bool):bitN a≤bitN (a || b):=by cases a<;>cases b<;>decide
theorem bitN_lt {a b:Bool}(h:(!b || a)=false):bitN a<bitN (a || b):=by revert h;cases a<;>cases b<;>decide
theorem bitN_top (a:Bool):bitN a≤1:=by cases a<;>decide
structure Stays (f:Span→Span→Span):Prop extends Puts f where
 stay:∀ s t,checkSpan s=0→checkSpan t=0→inside t s=true→f s t=s
theorem inside_iff {s t:Span}:inside s t=true↔s.none=true∨(t.none=false∧t.lo≤s.lo∧s.hi≤t.hi):=by
 simp[inside,Bool.or_eq_true,Bool.and_eq_true,and_assoc]
theorem stays_both:Stays both:=by
 refine⟨puts_both,fun s t hs ht h=>?_⟩
 obtain⟨-,h2,h3⟩:=checkSpan_zero hs
 obtain⟨-,h5,h6⟩:=checkSpan_zero ht
 obtain⟨sn,sl,sh⟩:=s
 obtain⟨tn,tl,th⟩:=t
 dsimp only at *
 rw[inside_iff]at h
 dsimp only at h
 unfold both
 cases tn with
 | true=>
  obtain⟨rfl,rfl⟩:=h6 rfl
  cases sn with
  | true=>obtain⟨rfl,rfl⟩:=h3 rfl;rfl
  | false=>rfl
 | false=>
  obtain⟨rfl,h7,h8⟩:sn=false∧sl≤tl∧th≤sh:=by simpa using h
  simp only[Bool.false_eq_true,if_false,Span.mk.injEq,true_and]
  omega
theorem stays_wider:Stays wider:=by
 refine⟨puts_wider,fun s t hs ht h=>?_⟩
 have hb:=stays_both.stay s t hs ht h
 unfold wider
 split
 ·exact hb
 ·rename_i hn
  obtain⟨sn,sl,sh⟩:=s
  obtain⟨tn,tl,th⟩:=t
  dsimp only at *
  obtain⟨rfl,rfl⟩:sn=false∧tn=false:=by simpa using hn
  rw[inside_iff]at h
  obtain⟨-,h7,h8⟩:false=false∧sl≤tl∧th≤sh:=by simpa using h
  simp only[Span.mk.injEq,true_and]
  rw[if_neg (by omega),if_neg (by omega)]
  omega
theorem highS_of {s t:Span}(hs:checkSpan s=0) (h:∀ a,inSpan s a=true→inSpan t a=true):highS s≤highS t:=by
 obtain⟨-,h2,-⟩:=checkSpan_zero hs
 unfold highS
 cases hn:s.none with
 | true=>simp
 | false=>
  have h3:=(inSpan_iff t s.lo).1 (h s.lo ((inSpan_iff _ _).2 ⟨hn,Int.le_refl _,h2⟩))
  have h4:=(inSpan_iff t s.hi).1 (h s.hi ((inSpan_iff _ _).2 ⟨hn,h2,Int.le_refl _⟩))
  rw[h3.1]
  simp only[Bool.false_eq_true,if_false]
  omega
theorem highS_lt {f:Span→Span→Span}(hf:Puts f) {s t:Span}(hs:checkSpan s=0) (ht:checkSpan t=0) (h:inside t s=false):highS s<highS (f s t):=by
 obtain⟨-,h2,-⟩:=checkSpan_zero hs
 obtain⟨-,h5,-⟩:=checkSpan_zero ht
 have h6:¬ (t.none=true∨(s.none=false∧s.lo≤t.lo∧t.hi≤s.hi)):=fun e=>by rw[inside_iff.2 e]at h;cases h
 have htn:t.none=false:=by cases e:t.none with
  | false=>rfl
  | true=>exact absurd (.inl e) h6
 have h3:=(inSpan_iff (f s t) t.lo).1 (hf.inr s t t.lo hs ht ((inSpan_iff _ _).2 ⟨htn,Int.le_refl _,h5⟩))
 have h4:=(inSpan_iff (f s t) t.hi).1 (hf.inr s t t.hi hs ht ((inSpan_iff _ _).2 ⟨htn,h5,Int.le_refl _⟩))
 unfold highS
 rw[h3.1]
 simp only[Bool.false_eq_true,if_false]
 cases hn:s.none with
 | true=>simp only[if_true];omega
 | false=>
  have h7:=(inSpan_iff (f s t) s.lo).1 (hf.inl s t s.lo hs ht ((inSpan_iff _ _).2 ⟨hn,Int.le_refl _,h2⟩))
  have h8:=(inSpan_iff (f s t) s.hi).1 (hf.inl s t s.hi hs ht ((inSpan_iff _ _).2 ⟨hn,h2,Int.le_refl _⟩))
  have h9:¬ (s.lo≤t.lo∧t.hi≤s.hi):=fun e=>h6 (.inr ⟨hn,e⟩)
  simp only[Bool.false_eq_true,if_false]
  omega
theorem highS_top {s:Span}(hs:checkSpan s=0):highS s≤4294967296:=by
 obtain⟨⟨e1,e2,e3,e4⟩,h2,-⟩:=checkSpan_zero hs
 unfold highS
 split<;>omega
theorem filter_len {α:Type}{p q:α→Bool}:∀ {l:List α},(∀ x∈l,p x=true→q x=true)→(l.filter p).length≤(l.filter q).length
 | [],_=>Nat.le_refl _
 | x::l,h=>by
  have ih:=filter_len (p:=p) (q:=q) (l:=l) fun y hy=>h y (List.mem_cons_of_mem _ hy)
  have hx:=h x List.mem_cons_self
  rw[List.filter_cons,List.filter_cons]
  cases hp:p x with
  | true=>rw[hx hp];simpa using ih
  | false=>
   cases hq:q x with
   | true=>simp only[Bool.false_eq_true,if_false,if_true,List.length_cons];omega
   | false=>simpa using ih
theorem filter_more {α:Type}{p q:α→Bool}{y:α}(hy1:p y=false) (hy2:q y=true):∀ {l:List α},(∀ x∈l,p x=true→q x=true)→y∈l→(l.filter p).length<(l.filter q).length
 | [],_,hy=>by cases hy
 | x::l,h,hy=>by
  have h0:∀ z∈l,p z=true→q z=true:=fun z hz=>h z (List.mem_cons_of_mem _ hz)
  have hx:=h x List.mem_cons_self
  rw[List.filter_cons,List.filter_cons]
  rcases List.mem_cons.1 hy with rfl|hy
  ·rw[hy1,hy2]
   have:=filter_len h0
   simp only[Bool.false_eq_true,if_false,if_true,List.length_cons]
   omega
  ·have ih:=filter_more hy1 hy2 h0 hy
   cases hp:p x with
   | true=>rw[hx hp];simpa using ih
   | false=>
    cases hq:q x with
    | true=>simp only[Bool.false_eq_true,if_false,if_true,List.length_cons];omega
    | false=>simpa using ih
theorem asc_union {l:List Int}(h:ascS l) (hi:inS l):l=unionS l []:=by rw[← mix_union hi (fun x hx=>by cases hx),mix_nil h]
theorem mix_len {l m:List Int}(h:ascS l) (hl:inS l) (hm:inS m):l.length≤(mixS l m).length∧(lostI m l=true→l.length<(mixS l m).length):=by
 have e1:l.length=(unionS l []).length:=congrArg List.length (asc_union h hl)
 rw[mix_union hl hm,e1]
 have h0:∀ x∈(List.range 60).map (fun k:Nat=>(k:Int)),(hasI l x || hasI [] x)=true→(hasI l x || hasI m x)=true:=fun x _ hx=>by
  rw[Bool.or_eq_true]at hx ⊢
  exact .inl (hx.elim id (fun h=>by rw[hasI_iff]at h;cases h))
 refine⟨filter_len h0,fun hlost=>?_⟩
 obtain⟨k,hk,h2⟩:=anyN_iff.1 (show anyN _ _=true from hlost)
 have h3:m.getD k 0∈m:=getD_mem hk
 have h4:hasI l (m.getD k 0)=false:=by simpa using h2
 have h5:=hm _ h3
 refine filter_more (y:=m.getD k 0) ?_ ?_ h0 ?_
 ·rw[h4,Bool.false_or]
  cases e:hasI [] (m.getD k 0) with
  | false=>rfl
  | true=>rw[hasI_iff]at e;cases e
 ·rw[Bool.or_eq_true];exact .inr (hasI_iff.2 h3)
 ·rw[List.mem_map];exact⟨(m.getD k 0).toNat,List.mem_range.2 (by omega),by omega⟩
theorem mix_in {l m:List Int}(h:ascS l) (hlost:lostI m l=false):mixS l m=l:=by
 refine asc_ext (mix_asc l m).1 h fun x=>?_
 rw[(mix_asc l m).2]
 refine⟨fun hx=>hx.elim id fun hx=>?_,.inl⟩
 obtain⟨k,hk,rfl⟩:=List.mem_iff_getElem.1 hx
 cases e:hasI l (m.getD k 0) with
 | true=>
  have:=hasI_iff.1 e
  rwa [List.getD_eq_getElem?_getD,List.getElem?_eq_getElem hk]at this
 | false=>rw[lostI,anyN_yes hk (by rw[e];rfl)]at hlost;cases hlost
theorem insideD_iff {d e:Res}:insideD e d=true↔(!e.null || d.null)=true∧(!e.tr || d.tr)=true∧(!e.fa || d.fa)=true∧inside e.span d.span=true∧lostI e.l d.l=false:=by
 show ((!e.null || d.null)&&(!e.tr || d.tr)&&(!e.fa || d.fa)&&inside e.span d.span && !lostI e.l d.l)=true↔_
 simp only[Bool.and_eq_true,Bool.not_eq_true',and_assoc]
theorem highD_both {f:Span→Span→Span}(hf:Stays f) {d e:Res}(hd:RightD d) (he:RightD e):highD d≤highD (bothD f d e)∧(insideD e d=false→highD d<highD (bothD f d e))∧(insideD e d=true→bothD f d e=d):=by
 have h1:=bitN_or d.null e.null
 have h2:=bitN_or d.tr e.tr
 have h3:=bitN_or d.fa e.fa
 obtain⟨h4,h4'⟩:=mix_len hd.asc hd.ins he.ins
 have h5:highS d.span≤highS (f d.span e.span):=highS_of hd.span fun a ha=>hf.inl _ _ a hd.span he.span ha
 refine⟨?_,fun hin=>?_,fun hin=>?_⟩
 ·show highD d≤bitN (d.null || e.null)+bitN (d.tr || e.tr)+bitN (d.fa || e.fa)+(mixS d.l e.l).length+highS (f d.span e.span)
  unfold highD
  omega
 ·show highD d<bitN (d.null || e.null)+bitN (d.tr || e.tr)+bitN (d.fa || e.fa)+(mixS d.l e.l).length+highS (f d.span e.span)
  unfold highD
  by_cases g1:(!e.null || d.null)=true
  ·by_cases g2:(!e.tr || d.tr)=true
   ·by_cases g3:(!e.fa || d.fa)=true
    ·by_cases g4:inside e.span d.span=true
     ·by_cases g5:lostI e.l d.l=true
      ·have:=h4' g5;omega
      ·rw[insideD_iff.2 ⟨g1,g2,g3,g4,by simpa using g5⟩]at hin;cases hin
     ·have:=highS_lt hf.toPuts hd.span he.span (by simpa using g4);omega
    ·have:=bitN_lt (a:=d.fa) (b:=e.fa) (by simpa using g3);omega
   ·have:=bitN_lt (a:=d.tr) (b:=e.tr) (by simpa using g2);omega
  ·have:=bitN_lt (a:=d.null) (b:=e.null) (by simpa using g1);omega
 ·obtain⟨g1,g2,g3,g4,g5⟩:=insideD_iff.1 hin
  have e1:=hf.stay _ _ hd.span he.span g4
  have e2:=mix_in hd.asc g5
  have e3:∀ a b:Bool,(!b || a)=true→(a || b)=a:=by decide
  show (⟨d.null || e.null,f d.span e.span,d.tr || e.tr,d.fa || e.fa,mixS d.l e.l⟩:Res)=d
  rw[e1,e2,e3 _ _ g1,e3 _ _ g2,e3 _ _ g3]
theorem highD_top {d:Res}(h:RightD d):highD d≤4294967359:=by
 have h1:=bitN_top d.null
 have h2:=bitN_top d.tr
 have h3:=bitN_top d.fa
 have h4:=h.le
 have h5:=highS_top h.span
 unfold highD
 omega
theorem bothTo_getD (f:Span→Span→Span) (ds es:List Res) {k n:Nat}(hk:k<n):(bothTo f ds es n).getD k zeroD=bothD f (ds.getD k zeroD) (es.getD k zeroD):=bothTo_at f ds es k n hk
theorem equalN_own {a:Nat}(q:Nat→Bool):equalN a a q=!anyN (fun k=>!q k) a:=by simp[equalN]
theorem highRow_both {f:Span→Span→Span}(hf:Stays f) {ds es:List Res}(hn:es.length=ds.length) (hd:∀ k,k<ds.length→RightD (ds.getD k zeroD)) (he:∀ k,k<ds.length→RightD (es.getD k zeroD)):
  highRow ds≤highRow (bothRow f ds es)∧(insideRow es ds=false→highRow ds<highRow (bothRow f ds es))∧(insideRow es ds=true→bothRow f ds es=ds):=by
 have hl:(bothRow f ds es).length=ds.length:=bothTo_len _ _ _ _
 have hr:highRow (bothRow f ds es)=sumN (fun k=>highD (bothD f (ds.getD k zeroD) (es.getD k zeroD))) ds.length:=by
  unfold highRow
  rw[hl]
  exact sumN_eq fun k hk=>by rw[bothTo_getD f ds es hk]
 have h0:∀ k,k<ds.length→highD (ds.getD k zeroD)≤highD (bothD f (ds.getD k zeroD) (es.getD k zeroD)):=fun k hk=>(highD_both hf (hd k hk) (he k hk)).1
 rw[hr]
 refine⟨sumN_le h0,fun hin=>?_,fun hin=>?_⟩
 ·have h1:¬ ∀ k,k<ds.length→insideD (es.getD k zeroD) (ds.getD k zeroD)=true:=fun hall=>by
   unfold insideRow at hin
   rw[hn,equalN_all hall]at hin;cases hin
  obtain⟨j,hj⟩:=Classical.not_forall.1 h1
  obtain⟨hj1,hj2⟩:=Classical.not_imp.1 hj
  exact sumN_lt ((highD_both hf (hd j hj1) (he j hj1)).2.1 (by simpa using hj2)) h0 hj1
 ·unfold insideRow at hin
  rw[hn,equalN_own]at hin
  have h1:∀ k,k<ds.length→insideD (es.getD k zeroD) (ds.getD k zeroD)=true:=fun k hk=>by
   have:=anyN_nay (q:=fun k=>!insideD (es.getD k zeroD) (ds.getD k zeroD)) (by simpa using hin) k hk
   simpa using this
  apply List.ext_getElem hl
  intro k hk1 hk2
  have h2:=bothTo_getD f ds es hk2
  rw[(highD_both hf (hd k hk2) (he k hk2)).2.2 (h1 k hk2)]at h2
  rw[List.getD_eq_getElem?_getD,List.getD_eq_getElem?_getD,List.getElem?_eq_getElem hk2,List.getElem?_eq_getElem (show k<(bothTo f ds es ds.length).length from hk1)]at h2
  simpa using h2
theorem highRow_top {ds:List Res}{n:Nat}(hn:ds.length≤n) (hd:∀ k,k<ds.length→RightD (ds.getD k zeroD)):highRow ds≤n*4294967359:=by
 have h1:=sumN_top (f:=fun k=>highD (ds.getD k zeroD)) (m:=4294967359) (n:=ds.length) fun k hk=>highD_top (hd k hk)
 have h2:ds.length*4294967359≤n*4294967359:=Nat.mul_le_mul_right _ hn
 exact Nat.le_trans h1 h2
theorem highP_raw {p:Pg}{f:Span→Span→Span}(hf:Stays f) {d e:Pd}(hd:RightPd p d) (he:RightPd p e) (hdn:d.none=false) (hen:e.none=false):
  highP d≤highP (bothRaw f d e)∧(insideP e d=false→highP d<highP (bothRaw f d e))∧(insideP e d=true→bothRaw f d e=d):=by
 obtain⟨dn,vs,fs⟩:=d
 obtain⟨en,us,gs⟩:=e
 dsimp only at hdn hen
 subst hdn hen
 have hv1:=hd.vars
 have hv2:=he.vars
 have hf1:=hd.fields
 have hf2:=he.fields
 dsimp only at hv1 hv2 hf1 hf2
 have hfl:gs.length=fs.length:=by omega
 obtain⟨a1,a2,a3⟩:=highRow_both hf (ds:=vs) (es:=us) (by omega) hd.vg (fun k hk=>he.vg k (by show k<us.length;omega))
 have hrow:∀ k,k<fs.length→highRow (fs.getD k [])≤highRow (bothRow f (fs.getD k []) (gs.getD k []))∧(insideRow (gs.getD k []) (fs.getD k [])=false→highRow (fs.getD k [])<highRow (bothRow f (fs.getD k []) (gs.getD k [])))∧(insideRow (gs.getD k []) (fs.getD k [])=true→bothRow f (fs.getD k []) (gs.getD k [])=fs.getD k []):=fun k hk=>by
  have e1:((fs.getD k []).length:Int)=p.fields:=hd.rows k hk
  have e2:((gs.getD k []).length:Int)=p.fields:=he.rows k (by show k<gs.length;omega)
  exact highRow_both hf (by omega) (fun j hj=>hd.fg k j hk hj) (fun j hj=>he.fg k j (by show k<gs.length;omega) (by show j<(gs.getD k []).length;omega))
 have hlen:(bothRows f ⟨false,vs,fs⟩ ⟨false,us,gs⟩ fs.length).length=fs.length:=by simp[bothRows]
 have hsum:sumN (fun k=>highRow ((bothRaw f ⟨false,vs,fs⟩ ⟨false,us,gs⟩).row k)) (bothRaw f ⟨false,vs,fs⟩ ⟨false,us,gs⟩).fields.length=sumN (fun k=>highRow (bothRow f (fs.getD k []) (gs.getD k []))) fs.length:=by
  show sumN (fun k=>highRow ((bothRows f ⟨false,vs,fs⟩ ⟨false,us,gs⟩ fs.length).getD k [])) (bothRows f ⟨false,vs,fs⟩ ⟨false,us,gs⟩ fs.length).length=_
  rw[hlen]
  exact sumN_eq fun k hk=>by rw[bothRows_at _ _ _ _ _ hk]
 have hq:highP (bothRaw f ⟨false,vs,fs⟩ ⟨false,us,gs⟩)=1+(highRow (bothRow f vs us)+sumN (fun k=>highRow (bothRow f (fs.getD k []) (gs.getD k []))) fs.length):=by
  rw[← hsum];rfl
 have hq0:highP ⟨false,vs,fs⟩=1+(highRow vs+sumN (fun k=>highRow (fs.getD k [])) fs.length):=rfl
 rw[hq,hq0]
 have hs:=sumN_le (f:=fun k=>highRow (fs.getD k [])) (g:=fun k=>highRow (bothRow f (fs.getD k []) (gs.getD k []))) (n:=fs.length) fun k hk=>(hrow k hk).1
 have hin:insideP ⟨false,us,gs⟩ ⟨false,vs,fs⟩=(insideRow us vs&&insideRows gs fs):=rfl
 refine⟨by omega,fun h=>?_,fun h=>?_⟩
 ·rw[hin,Bool.and_eq_false_iff]at h
  rcases h with h|h
  ·have:=a2 h;omega
  ·have h1:¬ ∀ k,k<fs.length→insideRow (gs.getD k []) (fs.getD k [])=true:=fun hall=>by
    unfold insideRows at h
    rw[hfl,equalN_all hall]at h;cases h
   obtain⟨j,hj⟩:=Classical.not_forall.1 h1
   obtain⟨hj1,hj2⟩:=Classical.not_imp.1 hj
   have:=sumN_lt (f:=fun k=>highRow (fs.getD k [])) (g:=fun k=>highRow (bothRow f (fs.getD k []) (gs.getD k []))) ((hrow j hj1).2.1 (by simpa using hj2)) (n:=fs.length) (fun k hk=>(hrow k hk).1) hj1
   omega
 ·rw[hin,Bool.and_eq_true]at h
  have h1:=a3 h.1
  have h2:bothRows f ⟨false,vs,fs⟩ ⟨false,us,gs⟩ fs.length=fs:=by
   have h3:=h.2
   unfold insideRows at h3
   rw[hfl,equalN_own]at h3
   have h4:∀ k,k<fs.length→insideRow (gs.getD k []) (fs.getD k [])=true:=fun k hk=>by
    have:=anyN_nay (q:=fun k=>!insideRow (gs.getD k []) (fs.getD k [])) (by simpa using h3) k hk
    simpa using this
   apply List.ext_getElem hlen
   intro k hk1 hk2
   have h5:=bothRows_at f ⟨false,vs,fs⟩ ⟨false,us,gs⟩ k _ hk2
   rw[show bothRow f (Pd.row ⟨false,vs,fs⟩ k) (Pd.row ⟨false,us,gs⟩ k)=fs.getD k [] from (hrow k hk2).2.2 (h4 k hk2)]at h5
   rw[List.getD_eq_getElem?_getD,List.getD_eq_getElem?_getD,List.getElem?_eq_getElem hk2,List.getElem?_eq_getElem hk1]at h5
   simpa using h5
  show (⟨false,bothRow f vs us,bothRows f ⟨false,vs,fs⟩ ⟨false,us,gs⟩ fs.length⟩:Pd)=_
  rw[h1,h2]
theorem highP_both {p:Pg}{is:Nat→Ins}(hp:checkProg p is=0) {f:Span→Span→Span}(hf:Stays f) {d e:Pd}(hd:rightP p is d=0) (he:rightP p is e=0):
  (insideP e d=false→highP d<highP (bothP f d e))∧(insideP e d=true→bothP f d e=d):=by
 rw[bothP_joinP hp hd he]
 unfold joinP
 cases hdn:d.none with
 | true=>
  rw[if_pos rfl]
  have h1:=RightPd.none hd hdn
  have h2:insideP e d=e.none:=by unfold insideP;rw[hdn,Bool.or_true,if_pos rfl]
  rw[h2]
  refine⟨fun h=>?_,fun h=>?_⟩
  ·rw[h1]
   show 0<highP e
   unfold highP
   rw[if_neg (by rw[h];decide)]
   omega
  ·rw[h1];exact RightPd.none he h
 | false=>
  rw[if_neg (by decide)]
  cases hen:e.none with
  | true=>
   have h2:insideP e d=true:=by unfold insideP;rw[hdn,hen];rfl
   rw[if_pos rfl,h2]
   exact⟨fun h=>(by cases h),fun _=>rfl⟩
  | false=>
   rw[if_neg (by decide)]
   exact(highP_raw hf (RightPd.of hd hp hdn) (RightPd.of he hp hen) hdn hen).2
theorem highP_top {p:Pg}{is:Nat→Ins}(hp:checkProg p is=0) {d:Pd}(hd:rightP p is d=0):highP d≤188*4294967359+1:=by
 unfold highP
 cases hdn:d.none with
 | true=>simp
 | false=>
  rw[if_neg (by decide)]
  have h:=RightPd.of hd hp hdn
  have hs:=(prog_right hp).1
  have h1:=hs.v2
  have h2:=hs.n1
  have h3:=hs.f2
  have h4:=h.vars
  have h5:=h.fields
  have a1:=highRow_top (ds:=d.vars) (n:=8) (by omega) h.vg
  have a2:sumN (fun k=>highRow (d.row k)) d.fields.length≤d.fields.length*(3*4294967359):=sumN_top fun k hk=>highRow_top (by have:=h.rows k hk;omega) (fun j hj=>h.fg k j hk hj)
  have a3:d.fields.length*(3*4294967359)≤60*(3*4294967359):=Nat.mul_le_mul_right _ (by omega)
  exact Nat.le_trans (Nat.add_le_add_left (Nat.add_le_add a1 (Nat.le_trans a2 a3)) 1) (by decide)
theorem highL_top {p:Pg}{is:Nat→Ins}(hp:checkProg p is=0) {l:List Pd}(h:PicsOk p is l):highL l≤61*(188*4294967359+1):=by
 have h2:=(prog_right hp).1.n1
 have h3:=h.len
 have a1:=sumN_top (f:=fun k=>highP (l.getD k nonePd)) (m:=188*4294967359+1) (n:=l.length) fun k hk=>highP_top hp (h.r k (by omega))
 have a3:l.length*(188*4294967359+1)≤61*(188*4294967359+1):=Nat.mul_le_mul_right _ (by omega)
 exact Nat.le_trans a1 a3
theorem nxtS_high {p:Pg}{is:Nat→Ins}(hp:checkProg p is=0) {nb:Bool}{i:Nat}{x:Int × Pd}{s:List Pd × Bool}(h:PicsOk p is s.1) (h1:rightP p is x.2=0) (h2:0≤x.1∧x.1≤p.n):
  nxtS nb i x s=s∨((nxtS nb i x s).2=true∧highL s.1<highL (nxtS nb i x s).1):=by
 unfold nxtS
 by_cases hi:insideP x.2 (s.1.getD x.1.toNat nonePd)=true
 ·exact .inl (if_pos hi)
 ·rw[if_neg hi]
  refine .inr ⟨rfl,?_⟩
  have hlen:=h.len
  have hst:Stays (if (nb&&decide (x.1≤i))=true then wider else both):=by
   split
   ·exact stays_wider
   ·exact stays_both
  have hlt:=(highP_both hp hst (h.r x.1.toNat (by omega)) h1).1 (by simpa using hi)
  dsimp only
  generalize bothP (if (nb&&decide (x.1≤i))=true then wider else both) (s.1.getD x.1.toNat nonePd) x.2=r at hlt
  unfold highL
  rw[List.length_set]
  refine sumN_lt (j:=x.1.toNat) ?_ (fun k hk=>?_) (by omega)
  ·rw[getD_set _ _ _ _ _ (by omega),if_pos rfl]
   exact hlt
  ·rw[getD_set _ _ _ _ _ (by omega)]
   split
   ·rename_i e;rw[e];omega
   ·exact Nat.le_refl _
theorem fold_high {p:Pg}{is:Nat→Ins}(hp:checkProg p is=0) {nb:Bool}{i:Nat}:∀ (es:List (Int × Pd)) (s:List Pd × Bool),PicsOk p is s.1→(∀ x∈es,(0≤x.1∧x.1≤p.n)∧rightP p is x.2=0)→
  PicsOk p is (es.foldl (fun s d=>nxtS nb i d s) s).1∧(es.foldl (fun s d=>nxtS nb i d s) s=s∨((es.foldl (fun s d=>nxtS nb i d s) s).2=true∧highL s.1<highL (es.foldl (fun s d=>nxtS nb i d s) s).1))
 | [],s,h,_=>⟨h,.inl rfl⟩
 | x::es,s,h,he=>by
  obtain⟨h2,h1⟩:=he x List.mem_cons_self
  have hk:=PicsOk.next hp (nb:=nb) (i:=i) h h1 h2
  obtain⟨i1,i2⟩:=fold_high hp es (nxtS nb i x s) hk fun y hy=>he y (List.mem_cons_of_mem _ hy)
  rw[List.foldl_cons]
  refine⟨i1,?_⟩
  rcases nxtS_high hp (nb:=nb) (i:=i) h h1 h2 with e|⟨e1,e2⟩
  ·rw[e]at i2 ⊢;exact i2
  ·rcases i2 with e|⟨e3,e4⟩
   ·rw[e];exact .inr ⟨e1,e2⟩
   ·exact .inr ⟨e3,Nat.lt_trans e2 e4⟩
theorem rawD_fits {p:Pg}{is:Nat→Ins}(hp:checkProg p is=0) {d:Pd}(hr:rightP p is d=0) {i:Nat}(hi:i<p.n):∀ x∈(rawD is i d).es,(0≤x.1∧x.1≤p.n)∧rightP p is x.2=0:=by
 intro x hx
 unfold rawD at hx
 by_cases hn:d.none=true
 ·rw[if_pos hn]at hx;cases hx
 ·rw[if_neg hn]at hx
  obtain⟨h1,h2⟩:=stepD_ok hp (OkPd.of hr (by simpa using hn)) hi _ hx
  exact⟨h1,h2.right⟩
theorem round_high {p:Pg}{is:Nat→Ins}(hp:checkProg p is=0) {nb:Bool}{s:List Pd × Bool}(h:PicsOk p is s.1):∀ k,k≤p.n→
  PicsOk p is (allEdges is (nxtS nb) Prod.fst k s).1∧(allEdges is (nxtS nb) Prod.fst k s=s∨((allEdges is (nxtS nb) Prod.fst k s).2=true∧highL s.1<highL (allEdges is (nxtS nb) Prod.fst k s).1))
 | 0,_=>⟨h,.inl rfl⟩
 | k+1,hk=>by
  obtain⟨i1,i2⟩:=round_high hp h k (by omega)
  rw[allEdges_next]
  unfold stepAt edgesOf
  obtain⟨j1,j2⟩:=fold_high hp (nb:=nb) (i:=k) (rawD is k ((allEdges is (nxtS nb) Prod.fst k s).1.getD k nonePd)).es (allEdges is (nxtS nb) Prod.fst k s) i1 (rawD_fits hp (i1.r k (by omega)) (by omega))
  refine⟨j1,?_⟩
  rcases i2 with e|⟨e1,e2⟩
  ·rw[e]at j2 ⊢;exact j2
  ·rcases j2 with e|⟨e3,e4⟩
   ·rw[e];exact .inr ⟨e1,e2⟩
   ·exact .inr ⟨e3,Nat.lt_trans e2 e4⟩
def roundS (is:Nat→Ins) (pn n:Nat) (l:List Pd):List Pd × Bool:=allEdges is (nxtS (decide (3<n))) Prod.fst pn (l,false)
def solN (is:Nat→Ins) (pn:Nat) (l:List Pd):Nat→List Pd
 | 0=>l
 | k+1=>(roundS is pn (k+1) (solN is pn l k)).1
def chgN (is:Nat→Ins) (pn:Nat) (l:List Pd) (k:Nat):Bool:=(roundS is pn (k+1) (solN is pn l k)).2
def EndsN (is:Nat→Ins) (pn:Nat) (l:List Pd) (k:Nat):Prop:=chgN is pn l k=false∧∀ j,j<k→chgN is pn l j=true
theorem EndsN.one {is:Nat→Ins}{pn:Nat}{l:List Pd}{k m:Nat}(h:EndsN is pn l k) (h' : EndsN is pn l m):k=m:=by
 rcases Nat.lt_trichotomy k m with e|e|e
 ·have:=h'.2 k e;rw[h.1]at this;cases this
 ·exact e
 ·have:=h.2 m e;rw[h'.1]at this;cases this
theorem solN_ok {p:Pg}{is:Nat→Ins}(hp:checkProg p is=0) {l:List Pd}(h:PicsOk p is l):∀ k,PicsOk p is (solN is p.n l k)
 | 0=>h
 | k+1=>(round_high hp (nb:=decide (3<k+1)) (s:=(solN is p.n l k,false)) (solN_ok hp h k) p.n (Nat.le_refl _)).1
theorem solN_high {p:Pg}{is:Nat→Ins}(hp:checkProg p is=0) {l:List Pd}(h:PicsOk p is l):∀ k,(∀ j,j<k→chgN is p.n l j=true)→k≤highL (solN is p.n l k)
 | 0,_=>Nat.zero_le _
 | k+1,hc=>by
  have ih:=solN_high hp h k fun j hj=>hc j (by omega)
  have h1:=hc k (by omega)
  rcases (round_high hp (nb:=decide (3<k+1)) (s:=(solN is p.n l k,false)) (solN_ok hp h k) p.n (Nat.le_refl _)).2 with e|⟨_,e⟩
  ·unfold chgN roundS at h1
   rw[e]at h1;cases h1
  ·exact Nat.lt_of_le_of_lt ih e
theorem solN_top {p:Pg}{is:Nat→Ins}(hp:checkProg p is=0) {l:List Pd}(h:PicsOk p is l) {k:Nat}(hc:∀ j,j<k→chgN is p.n l j=true):k≤50000000000000:=
 Nat.le_trans (Nat.le_trans (solN_high hp h k hc) (highL_top hp (solN_ok hp h k))) (by decide)
theorem solN_same {p:Pg}{is:Nat→Ins}(hp:checkProg p is=0) {l:List Pd}(h:PicsOk p is l) {k:Nat}(hc:chgN is p.n l k=false):solN is p.n l (k+1)=solN is p.n l k:=by
 rcases (round_high hp (nb:=decide (3<k+1)) (s:=(solN is p.n l k,false)) (solN_ok hp h k) p.n (Nat.le_refl _)).2 with e|⟨e,_⟩
 ·show (roundS is p.n (k+1) (solN is p.n l k)).1=_
  unfold roundS
  rw[e]
 ·unfold chgN roundS at hc
  rw[e]at hc;cases hc
end Go.Proofs.YteoilpcbekijlaaGreatDoor
