/- What Check says of a run is what a step asks of it: plain. Conditions: none. -/
import Derived.Test.YtplcndmdkabmeaaGreatDoorRbs
set_option linter.unusedSimpArgs false
set_option linter.unusedVariables false
set_option maxRecDepth 100000
namespace Go.Proofs.YtplcndmdkabmeaaGreatDoor
open Go.Proofs.Tryz
open Go.RowKit
theorem zeF {v:Vl}{n:Nat}(h:V1 v n):zM v n=true:=by
 obtain⟨k,m⟩:=v;have C:=h.k;have j:=h.z;have g:=h.i;have o:=h.t;have p:=h.th;dsimp only at C j g o p;unfold yA at g;have:k=0∨k=1∨k=2∨k=3:=by omega
 rcases this with rfl|rfl|rfl|rfl
 ·have:=j rfl;subst this;rfl
 ·have:=g rfl;simp[zM,zU];omega
 ·have:=o rfl;simp[zM,zU];omega
 ·have:=p rfl;simp[zM,zU];omega
theorem Y3 {v:Vl}{n m:Nat}(h:zM v n=true) (g:n<=m):zM v m=true:=by
 have:=KJ h;exact zeF ⟨this.k,this.z,this.i,this.t,fun e=>by have:=this.th e;omega⟩
theorem KS {g:Type}(l:List g) (t k:Nat) (v d:g) (ht:t<l.length):(l.set t v).getD k d=if k=t then v else l.getD k d:=by
 by_cases h:k=t
 ·subst h;simp[List.getD_eq_getElem?_getD,ht]
 ·simp[List.getD_eq_getElem?_getD,List.getElem?_set,Ne.symm h,h]
theorem qe.setv {p:Pg}{s:Rs}(h:qe p s) {t:Nat}{v:Vl}(ht:t<s.vars.length) (hv:zM v s.things.length=true) (i:s.at' < p.n):qe p (s.set t v):=by
 refine⟨by have:=h.a;show 0<=s.at' + 1∧s.at' + 1<=p.n;omega,by show ((s.vars.set t v).length:Int)=_;rw[List.length_set];exact h.nv,h.nt,h.nf,fun k g=>?_,h.fvals,h.tk⟩;show zM ((s.vars.set t v).getD k dV) s.things.length=true
 rw[KS _ _ _ _ _ ht];split
 ·exact hv
 ·exact h.vals k (by simpa [Rs.set] using g)
theorem qe.ended {p:Pg} {s:Rs} (h:qe p s) (e:Int):qe p { s with ending:=e }:=⟨h.a,h.nv,h.nt,h.nf,h.vals,h.fvals,h.tk⟩
theorem qe.went {p:Pg} {s:Rs} (h:qe p s) {a:Int} (ha:0<=a∧a<=p.n):qe p { s with at':=a }:=⟨ha,h.nv,h.nt,h.nf,h.vals,h.fvals,h.tk⟩
theorem qe.took {p:Pg} {s:Rs} (h:qe p s) {a:Int} (ha:0<=a∧a<=9223372036854775807):qe p { s with taken:=a }:=⟨h.a,h.nv,h.nt,h.nf,h.vals,h.fvals,ha⟩
theorem qe.said {p:Pg} {s:Rs} (h:qe p s) {l:List ByteArray} {a:Int} (ha:0<=a∧a<=p.n):qe p { s with lines:=l,at':=a }:=⟨ha,h.nv,h.nt,h.nf,h.vals,h.fvals,h.tk⟩
theorem Jh (b:Bool) (n:Nat):zM (jW b) n=true:=by cases b<;>rfl
theorem KT {m:Int}{n:Nat}(h:yA m):zM ⟨1,m⟩ n=true:=by unfold yA at h;simp[zM,zU];omega
theorem zbw (m:Int):yA (wrap32 m):=by unfold yA wrap32;omega
theorem qe.put {p:Pg}{s:Rs}(h:qe p s) {kk f:Nat}{v:Vl}(hk:kk<s.things.length) (hf:f<(s.thing kk).2.length) (hv:zM v s.things.length=true) (C:s.at' < p.n):qe p (UO kk f v s):=by
 have e:∀ k,(UO kk f v s).thing k=if k=kk then ((s.thing kk).1,(s.thing kk).2.set f v) else s.thing k:=fun k=>KS _ _ _ _ _ hk
 have i:(UO kk f v s).things.length=s.things.length:=by simp[UO]
 refine⟨by have:=h.a;show 0<=s.at' + 1∧s.at' + 1<=p.n;omega,h.nv,by rw[i];exact h.nt,fun k g=>?_,fun k g=>by rw[i];exact h.vals k g,fun k g o j=>?_,h.tk⟩
 ·rw[e]
  split
  ·show (((s.thing kk).2.set f v).length:Int)=_;rw[List.length_set];exact h.nf kk hk
  ·exact h.nf k (by rw[i]at g;exact g)
 ·rw[i]
  show zM (((UO kk f v s).thing k).2.getD o dV) _=true
  rw[e]at j ⊢;split at j
  ·rename_i t
   rw[if_pos t];show zM (((s.thing kk).2.set f v).getD o dV) _=true
   rw[KS _ _ _ _ _ hf];split
   ·exact hv
   ·exact h.fvals kk hk o (by simpa using j)
  ·rename_i t
   rw[if_neg t];exact h.fvals k (by rw[i]at g;exact g) o j
theorem qe.made {p:Pg} {s:Rs} (h:qe p s) {m:Nat} (P:p.fields=m) {o:Int} (R:s.things.length<100):qe p { s with things:=s.things++[(o,List.replicate m dV)] }:=by
 have e:∀ k,({ s with things:=s.things++[(o,List.replicate m dV)] }:Rs).thing k=if k<s.things.length then s.thing k else if k=s.things.length then (o,List.replicate m dV) else dT:=fun k=>by
  show (s.things++[(o,List.replicate m dV)]).getD k dT=_
  split
  ·rename_i g;simp[Rs.thing,List.getD_eq_getElem?_getD,List.getElem?_append_left g]
  ·split
   ·rename_i g i;subst i;simp[List.getD_eq_getElem?_getD]
   ·rename_i g i;simp only[List.getD_eq_getElem?_getD];rw[List.getElem?_eq_none (by simp;omega)];rfl
 have j:({ s with things:=s.things++[(o,List.replicate m dV)] }:Rs).things.length=s.things.length+1:=by simp
 refine⟨h.a,h.nv,by rw[j];omega,fun k g=>?_,fun k g=>by rw[j];exact Y3 (h.vals k g) (by omega),fun k g C t=>?_,h.tk⟩
 ·rw[e]
  split
  ·rename_i i;exact h.nf k i
  ·rw[if_pos (by rw[j]at g;omega)];simp[P]
 ·rw[j]
  show zM ((({ s with things:=s.things++[(o,List.replicate m dV)] }:Rs).thing k).2.getD C dV) _=true
  rw[e]at t ⊢;split
  ·rename_i i
   rw[if_pos i]at t;exact Y3 (h.fvals k i C t) (by omega)
  ·rename_i i
   rw[if_neg i,if_pos (by rw[j]at g;omega)]at t;rw[if_pos (by rw[j]at g;omega)];have I:C<m:=by simpa using t
   simp[List.getD_eq_getElem?_getD,I,dV,zM]
theorem qe.count {p:Pg}{s:Rs}(h:qe p s) (kind:Int) {t a b:Nat}(ht:t<s.vars.length) (g:s.at' < p.n):qe p (jU kind t a b s):=by
 unfold jU;split
 ·split
  ·exact h.setv ht (Jh _ _) g
  ·exact h.setv ht (KT (zbw _)) g
 ·exact h.ended 2
theorem qe.create {p:Pg}{s:Rs}(h:qe p s) {m t:Nat}(i:p.fields=m) (ht:t<s.vars.length) (g:s.at' < p.n):qe p (yJ t m s):=by
 unfold yJ;split
 ·exact h.ended 5
 ·rename_i j
  have:=h.nt;refine(h.made i (by omega)).setv ht ?_ g;simp[zM,zU]
theorem qe.take {p:Pg}{s:Rs}(h:qe p s) {i:Ins}{t:Nat}{ins:Sl}{xs:Nat->Int}(ht:t<s.vars.length) (g:s.at' < p.n) (o:s.taken<9223372036854775807) (hv:yA (V2 i ins xs s)):qe p (Zo i t ins xs s):=by
 unfold Zo;have j:=h.tk;have e:wrap64 (s.taken+1)=s.taken+1:=by unfold wrap64;omega
 rw[e];exact(h.took (by omega)).setv ht (KT hv) g
theorem qe.onward {p:Pg}{s:Rs}(h:qe p s) (kind:Int) {g:Int}{a:Nat}(j:(kind=15∨kind=16)->0<=g∧g<=p.n) (t:s.at' < p.n):qe p (qA kind g a s):=by
 have o:=h.a;have i:0<=s.at' + 1∧s.at' + 1<=p.n:=by omega
 unfold qA;split
 ·exact h.went (j (Or.inr (by assumption)))
 split
 ·split
  ·exact h.went (j (Or.inl (by assumption)))
  ·exact h.went i
 split
 ·split
  ·exact h.went i
  ·exact h.ended 3
 split
 ·exact h.said i
 ·exact h.ended 1
theorem qe.step {p:Pg}{is:Nat->Ins}{ins:Sl}{xs:Nat->Int}{s:Rs}(hR:qe p s) (ah:zf p is=0) (aq:s.taken<9223372036854775807):qe p (Jx p is ins xs s):=by
 obtain⟨ao,an⟩:=zp ah;unfold Jx;split
 ·exact hR.ended 1
 rename_i az;have ay:=hR.a;have o:s.at' < p.n:=by omega
 obtain⟨k,aj⟩:∃ k:Nat,s.at'=k:=⟨s.at'.toNat,by omega⟩;have ak:k<p.n:=by omega
 have aa:=qG (an k ak);rw[aj,Int.toNat_natCast];generalize is k=i at aa ⊢;obtain⟨kind,to,j,t,num,goto⟩:=i;obtain⟨ab,ac,ad,ae,T,U,af,aw,ag⟩:=aa;dsimp only at ab ac ad ae T U af aw ag;have a0:=hR.nv;have C:nTo kind=true->to.toNat<s.vars.length:=fun h=>by have:=ac h;omega
 have R:nA kind=true->zM (s.val j.toNat) s.things.length=true:=fun h=>hR.vals _ (by have:=ad h;omega)
 have au:nB kind=true->zM (s.val t.toNat) s.things.length=true:=fun h=>hR.vals _ (by have:=ae h;omega)
 rcases yf ab with rfl|rfl|rfl|rfl|rfl|rfl|rfl|rfl|rfl|rfl|rfl|rfl|rfl|rfl|rfl|rfl|rfl|rfl|rfl
 ·rw[show jg p ins xs ⟨1,to,j,t,num,goto⟩ s=s.set to.toNat ⟨1,num⟩ from rfl]
  exact hR.setv (C rfl) (KT (af rfl)) o
 ·rw[show jg p ins xs ⟨2,to,j,t,num,goto⟩ s=s.set to.toNat (jW (num==1)) from rfl]
  exact hR.setv (C rfl) (Jh _ _) o
 ·rw[show jg p ins xs ⟨3,to,j,t,num,goto⟩ s=s.set to.toNat dV from rfl]
  exact hR.setv (C rfl) rfl o
 ·rw[show jg p ins xs ⟨4,to,j,t,num,goto⟩ s=s.set to.toNat (s.val j.toNat) from rfl]
  exact hR.setv (C rfl) (R rfl) o
 ·exact hR.count 5 (C rfl) o
 ·exact hR.count 6 (C rfl) o
 ·exact hR.count 7 (C rfl) o
 ·exact hR.count 8 (C rfl) o
 ·rw[show jg p ins xs ⟨9,to,j,t,num,goto⟩ s=s.set to.toNat (jW (XE (s.val j.toNat) (s.val t.toNat))) from rfl]
  exact hR.setv (C rfl) (Jh _ _) o
 ·rw[show jg p ins xs ⟨10,to,j,t,num,goto⟩ s=s.set to.toNat (jW (!yF (s.val j.toNat))) from rfl]
  exact hR.setv (C rfl) (Jh _ _) o
 ·rw[show jg p ins xs ⟨11,to,j,t,num,goto⟩ s=yJ to.toNat p.fields.toNat s from rfl]
  exact hR.create (by have:=ao.f1;omega) (C rfl) o
 ·rw[show jg p ins xs ⟨12,to,j,t,num,goto⟩ s=(if (s.val j.toNat).kind=3 then s.set to.toNat (s.field (s.val j.toNat).n.toNat num.toNat) else { s with ending:=2 }) from rfl]
  split
  ·rename_i P
   have ar:=(KJ (R rfl)).th P;have I:(s.val j.toNat).n.toNat<s.things.length:=by omega
   have ai:=T (Or.inl rfl);have al:=hR.nf _ I;exact hR.setv (C rfl) (hR.fvals _ I _ (by omega)) o
  ·exact hR.ended 2
 ·rw[show jg p ins xs ⟨13,to,j,t,num,goto⟩ s=(if (s.val j.toNat).kind=3 then UO (s.val j.toNat).n.toNat num.toNat (s.val t.toNat) s else { s with ending:=2 }) from rfl]
  split
  ·rename_i P
   have ar:=(KJ (R rfl)).th P;have I:(s.val j.toNat).n.toNat<s.things.length:=by omega
   have ai:=T (Or.inr rfl);have al:=hR.nf _ I;exact hR.put I (by omega) (au rfl) o
  ·exact hR.ended 2
 ·rw[show jg p ins xs ⟨14,to,j,t,num,goto⟩ s=Zo ⟨14,to,j,t,num,goto⟩ to.toNat ins xs s from rfl]
  refine hR.take (C rfl) o aq ?_;have ax:=ag rfl;unfold V2 yA;dsimp only;split<;>omega
 ·exact hR.onward 15 (a:=j.toNat) (g:=goto) (fun _=>U rfl) o
 ·exact hR.onward 16 (a:=j.toNat) (g:=goto) (fun _=>U rfl) o
 ·exact hR.onward 17 (a:=j.toNat) (g:=goto) (fun h=>by omega) o
 ·exact hR.onward 18 (a:=j.toNat) (g:=goto) (fun h=>by omega) o
 ·exact hR.onward 19 (a:=j.toNat) (g:=goto) (fun h=>by omega) o
structure Un (s t:Rs):Prop where
 l:t.lines.length<=s.lines.length+1
 k:0<=s.taken->s.taken<9223372036854775807->s.taken<=t.taken∧t.taken<=s.taken+1
theorem Un.same {s t:Rs}(g:t.lines=s.lines) (i:t.taken=s.taken):Un s t:=⟨by rw[g];omega,fun _ _=>by rw[i];omega⟩
theorem Un.cond {s a b:Rs}{c:Prop} [Decidable c] (g:Un s a) (i:Un s b):Un s (if c then a else b):=by
 split<;>assumption
theorem zbx (p:Pg) (is:Nat->Ins) (ins:Sl) (xs:Nat->Int) (s:Rs):Un s (Jx p is ins xs s):=by
 unfold Jx;refine .cond (.same rfl rfl) ?_;unfold jg jU yJ Zo qA UO
 repeat' first
  | exact .same rfl rfl
  | refine Un.cond ?_ ?_
 ·refine⟨Nat.le_succ _,fun g i=>?_⟩
  show s.taken<=wrap64 (s.taken+1)∧wrap64 (s.taken+1)<=s.taken+1
  unfold wrap64;omega
 ·refine⟨?_,fun g i=>⟨Int.le_refl _,Int.le_of_lt (Int.lt_succ _)⟩⟩
  show (s.lines++[_]).length<=_
  simp
def YB (p:Pg) (is:Nat->Ins) (ins:Sl) (xs:Nat->Int):Nat->Rs->Nat->Rs × Nat
 | 0,s,n=>(s,n)
 | f+1,s,n=>if s.ending=0 then YB p is ins xs f (Jx p is ins xs s) (n+1) else (s,n)
def zhw (s:Rs):Rs:=if s.ending=0 then { s with ending:=4 } else s
theorem zdm {p:Pg}{is:Nat->Ins}{ins:Sl}{xs:Nat->Int}(f:Nat) {s:Rs}(n:Nat) (h:s.ending≠0):YB p is ins xs f s n=(s,n):=by
 cases f with
 | zero=>rfl
 | succ f=>rw[YB,if_neg h]
theorem zdn {p:Pg}{is:Nat->Ins}{ins:Sl}{xs:Nat->Int}{f m:Nat}{s:Rs}(n:Nat) (hf:m=f+1) (h:s.ending=0):YB p is ins xs m s n=YB p is ins xs f (Jx p is ins xs s) (n+1):=by
 subst hf;rw[YB,if_pos h]
structure Xh (p:Pg) (s:Rs) (n:Nat):Prop where
 r:qe p s
 k:0<=s.taken∧s.taken<=n
 l:s.lines.length<=n
theorem Xh.next {p:Pg}{is:Nat->Ins}{ins:Sl}{xs:Nat->Int}{s:Rs}{n:Nat}(h:Xh p s n) (j:zf p is=0) (hn:n<=5000):Xh p (Jx p is ins xs s) (n+1):=by
 have g:=zbx p is ins xs s;have i:=h.k;have o:=h.l;have t:=g.k i.1 (by omega);have C:=g.l;exact⟨h.r.step j (by omega),by omega,by omega⟩
theorem Xh.begin {p:Pg}{n:Nat}(hn:p.vars=n) (j:0<=(p.n:Int)):Xh p (qc n) 0:=by
 refine⟨⟨⟨Int.le_refl _,j⟩,by simp[qc,hn],by simp[qc],fun k g=>by simp[qc]at g,fun k g=>?_,fun k g=>by simp[qc]at g,by simp[qc]⟩,by simp[qc],by simp[qc]⟩;have i : k<n:=by simpa [qc] using g
 simp[qc,List.getD_eq_getElem?_getD,i,dV,zM]
theorem Y4 {q:Nat->Bool}{n:Nat}(h:¬ qa q n=true) (k:Nat) (hk:k<n):q k=false:=by
 cases g:q k with
 | false=>rfl
 | true=>exact(h (qg hk g)).elim
theorem zeG {p:Pg}{is:Nat->Ins}{r:Rn}{s:Rs}{i:Nat->Th}(h:yB p is r s.val i s.field=0) (ha:r.at'=s.at') (ht:r.taken=s.taken) (hv:r.vars.n=s.vars.length) (hn:r.things.n=s.things.length)
  (o:∀ k,k<s.things.length->(i k).fs.n=(s.thing k).2.length) (hk:s.taken<=9223372036854775807):qe p s:=by
 unfold yB at h;split at h
 ·cases h
 rename_i t;split at h
 ·cases h
 rename_i C;split at h
 ·cases h
 rename_i ad;split at h
 ·cases h
 split at h
 ·cases h
 rename_i I;split at h
 ·cases h
 rename_i P;split at h
 ·cases h
 rename_i R;simp only[yW,Bool.or_eq_true,decide_eq_true_eq,not_or]at t;have ac : (r.vars.n:Int)=p.vars:=by simpa using C
 refine⟨by omega,by omega,by omega,fun k g=>?_,fun k g=>?_,fun k g j aa=>?_,by omega⟩
 ·have:=Y4 I k (by omega)
  have e:=o k g;have ab:((i k).fs.n:Int)=p.fields:=by simpa using this
  omega
 ·have:=Y4 P k (by omega)
  rw[hn]at this;simpa using this
 ·have T:=Y4 R k (by omega)
  have U:¬ qa (fun j=>!zM (s.field k j) r.things.n) (i k).fs.n=true:=by rw[T];decide
  have:=Y4 U j (by rw[o k g];exact aa);rw[hn]at this;simpa using this
end Go.Proofs.YtplcndmdkabmeaaGreatDoor
