/- A run's step as a plain function. Conditions: none. | The machine's step answers the plain step. Conditions: the program is right, and the run's values are. | The walk over run.Begin. Conditions: what it reads lies in memory that was there. -/
import Derived.Test.YtplcndmdkabmeaaGreatDoorReady
import Derived.Test.YtplcndmdkabmeaaGreatDoorRunP
import Derived.Test.YtplcndmdkabmeaaGreatDoorRunG
import Derived.Test.YtplcndmdkabmeaaGreatDoorVal
set_option linter.unusedSimpArgs false
set_option linter.unusedVariables false
set_option maxRecDepth 100000
namespace Go.Proofs.YtplcndmdkabmeaaGreatDoor
open Go.Proofs.Tryz
open Go.RowKit
def jg (p:Pg) (ins:Sl) (xs:Nat->Int) (i:Ins) (s:Rs):Rs:=
 if i.kind=1 then s.set i.to.toNat ⟨1,i.n⟩
 else if i.kind=2 then s.set i.to.toNat (jW (i.n==1))
 else if i.kind=3 then s.set i.to.toNat dV
 else if i.kind=4 then s.set i.to.toNat (s.val i.a.toNat)
 else if i.kind<=8 then jU i.kind i.to.toNat i.a.toNat i.b.toNat s
 else if i.kind=9 then s.set i.to.toNat (jW (XE (s.val i.a.toNat) (s.val i.b.toNat)))
 else if i.kind=10 then s.set i.to.toNat (jW (!yF (s.val i.a.toNat)))
 else if i.kind=11 then yJ i.to.toNat p.fields.toNat s
 else if i.kind=12 then (if (s.val i.a.toNat).kind=3 then s.set i.to.toNat (s.field (s.val i.a.toNat).n.toNat i.n.toNat) else { s with ending:=2 })
 else if i.kind=13 then (if (s.val i.a.toNat).kind=3 then UO (s.val i.a.toNat).n.toNat i.n.toNat (s.val i.b.toNat) s else { s with ending:=2 })
 else if i.kind=14 then Zo i i.to.toNat ins xs s
 else qA i.kind i.goto i.a.toNat s
def Jx (p:Pg) (is:Nat->Ins) (ins:Sl) (xs:Nat->Int) (s:Rs):Rs:=if s.at'=p.n then { s with ending:=1 } else jg p ins xs (is s.at'.toNat) s
def X9 (p:Pg) (is:Nat->Ins) (ins:Sl) (xs:Nat->Int) (s:Rs):Rs:=if s.ending=0 then Jx p is ins xs s else s
structure qe (p:Pg) (s:Rs):Prop where
 a:0<=s.at'∧s.at'<=p.n
 nv:(s.vars.length:Int)=p.vars
 nt:s.things.length<=100
 nf:∀ k,k<s.things.length->((s.thing k).2.length:Int)=p.fields
 vals:∀ k,k<s.vars.length->zM (s.val k) s.things.length=true
 fvals:∀ k,k<s.things.length->∀ j,j<(s.thing k).2.length->zM (s.field k j) s.things.length=true
 tk:0<=s.taken∧s.taken<=9223372036854775807
structure V1 (v:Vl) (n:Nat):Prop where
 k:0<=v.kind∧v.kind<=3
 z:v.kind=0->v.n=0
 i:v.kind=1->yA v.n
 t:v.kind=2->0<=v.n∧v.n<=1
 th:v.kind=3->0<=v.n∧v.n<n
theorem KJ {v:Vl}{n:Nat}(h:zM v n=true):V1 v n:=by
 obtain⟨k,m⟩:=v;unfold zM at h;dsimp only at h;split at h
 ·rename_i g;subst g
  have:m=0:=by simpa using h
  exact⟨by simp,fun _=>this,fun h=>(by simp at h),fun h=>(by simp at h),fun h=>(by simp at h)⟩
 split at h
 ·rename_i g;subst g
  have:-2147483648<=m∧m<=2147483647:=by simpa [zU] using h
  exact⟨by simp,fun h=>(by simp at h),fun _=>this,fun h=>(by simp at h),fun h=>(by simp at h)⟩
 split at h
 ·rename_i g;subst g
  have:0<=m∧m<=1:=by simpa [zU] using h
  exact⟨by simp,fun h=>(by simp at h),fun h=>(by simp at h),fun _=>this,fun h=>(by simp at h)⟩
 split at h
 ·rename_i g;subst g
  have:0<=m∧m<=n - 1:=by simpa [zU] using h
  exact⟨by simp,fun h=>(by simp at h),fun h=>(by simp at h),fun h=>(by simp at h),fun _=>⟨this.1,by show m<n;omega⟩⟩
 ·cases h
theorem V1.small {v:Vl}{n:Nat}(h:V1 v n) (hn:n<=100):-9223372036854775808<=v.n∧v.n<=9223372036854775807:=by
 have C:=h.k;have j:=h.z;have g:=h.i;have o:=h.t;have p:=h.th;unfold yA at g;have:v.kind=0∨v.kind=1∨v.kind=2∨v.kind=3:=by omega
 rcases this with e|e|e|e
 ·have:=j e;omega
 ·have:=g e;omega
 ·have:=o e;omega
 ·have:=p e;omega
theorem zg9 {p:Pg}{s:Rs}(h:qe p s) (i:UE p) (j:s.lines.length*16<=140737488351232):zi3 s:=by
 refine⟨by have:=h.nv;have:=i.v2;omega,h.nt,fun k=>?_,j⟩;by_cases g:k<s.things.length
 ·have:=h.nf k g;have:=i.f2;omega
 ·simp[Rs.thing,List.getD_eq_getElem?_getD,List.getElem?_eq_none (Nat.le_of_not_lt g),dT]
set_option maxHeartbeats 4000000
theorem za8 (w0:World) (bm:Nat) (p:Pg) (is:Nat->Ins) (ins:Sl) (xs:Nat->Int) (s:Rs) (w:World) (h:zY w0 bm p ins s w) (aa:qe p s) (ar:zf p is=0) (hc:zy w0 p is) (aw:JZ w0 ins xs) (a4:s.lines.length*16<=140737488351232) (ah:ZO w0):
  Calls prog 47 #[.pointer (some ⟨bm,0,none⟩)] w fun e a3=>e=.returned (.tuple #[])∧zY w0 bm p ins (Jx p is ins xs s) a3:=by
 obtain⟨ag,ax⟩:=zp ar;by_cases hn:s.at'=p.n
 ·rw[show Jx p is ins xs s={ s with ending:=1 } by rw[Jx,if_pos hn]]
  exact zeI w0 bm p ins s w h hn
 have ha:=aa.a;obtain⟨k,hk⟩:∃ k:Nat,s.at'=k:=⟨s.at'.toNat,by omega⟩;have hkn:k<p.n:=by omega
 have ak:=qG (ax k hkn);have hk6:=ag.n1;have t:0<s.vars.length:=by have:=aa.nv;have:=ag.v1;omega
 rw[show Jx p is ins xs s=jg p ins xs (is k) s by rw[Jx,if_neg hn,hk];rfl];rcases hi:is k with⟨kind,to,j,o,num,goto⟩
 rw[hi]at ak;obtain⟨al,P,R,ae,ai,a0,a1,a2,an⟩:=ak;dsimp only at al P R ae ai a0 a1 a2 an;have a5:=aa.nv;have I:∀ x:Nat,x<s.vars.length->V1 (s.val x) s.things.length:=fun x az=>KJ (aa.vals x az)
 rcases yf al with rfl|rfl|rfl|rfl|rfl|rfl|rfl|rfl|rfl|rfl|rfl|rfl|rfl|rfl|rfl|rfl|rfl|rfl|rfl
 ·have T:=P rfl
  obtain⟨g,rfl⟩:∃ g:Nat,to=g:=⟨to.toNat,by omega⟩;rw[show jg p ins xs ⟨1,(g:Int),j,o,num,goto⟩ s=s.set g ⟨1,num⟩ from rfl];exact zhG (w0:=w0) (bm:=bm) (ins:=ins) (w:=w) (h:=h) (hk:=hk) (hkn:=hkn) (hk6:=hk6) (hc:=hc) (hv:=t) (hi:=hi) (ht:=by omega)
 ·have T:=P rfl
  obtain⟨g,rfl⟩:∃ g:Nat,to=g:=⟨to.toNat,by omega⟩;rw[show jg p ins xs ⟨2,(g:Int),j,o,num,goto⟩ s=s.set g (jW (num==1)) from rfl];exact zhH (w0:=w0) (bm:=bm) (ins:=ins) (w:=w) (h:=h) (hk:=hk) (hkn:=hkn) (hk6:=hk6) (hc:=hc) (hv:=t) (hi:=hi) (ht:=by omega)
 ·have T:=P rfl
  obtain⟨g,rfl⟩:∃ g:Nat,to=g:=⟨to.toNat,by omega⟩;rw[show jg p ins xs ⟨3,(g:Int),j,o,num,goto⟩ s=s.set g dV from rfl];exact zhI (w0:=w0) (bm:=bm) (ins:=ins) (w:=w) (h:=h) (hk:=hk) (hkn:=hkn) (hk6:=hk6) (hc:=hc) (hv:=t) (hi:=hi) (ht:=by omega)
 ·have T:=P rfl
  obtain⟨g,rfl⟩:∃ g:Nat,to=g:=⟨to.toNat,by omega⟩;have U:=R rfl;obtain⟨a,rfl⟩:∃ a:Nat,j=a:=⟨j.toNat,by omega⟩;have C:=I a (by omega);rw[show jg p ins xs ⟨4,(g:Int),(a:Int),o,num,goto⟩ s=s.set g (s.val a) from rfl];exact zhJ (w0:=w0) (bm:=bm) (ins:=ins) (w:=w) (h:=h) (hk:=hk) (hkn:=hkn) (hk6:=hk6) (hc:=hc) (hv:=t) (hi:=hi) (ht:=by omega) (ha:=by omega)
 ·have T:=P rfl
  obtain⟨g,rfl⟩:∃ g:Nat,to=g:=⟨to.toNat,by omega⟩;have U:=R rfl;obtain⟨a,rfl⟩:∃ a:Nat,j=a:=⟨j.toNat,by omega⟩;have C:=I a (by omega);have h3:=ae rfl;obtain⟨b,rfl⟩:∃ b:Nat,o=b:=⟨o.toNat,by omega⟩;have ac:=I b (by omega);rw[show jg p ins xs ⟨5,(g:Int),(a:Int),(b:Int),num,goto⟩ s=jU 5 g a b s from rfl];exact zhK (w0:=w0) (bm:=bm) (ins:=ins) (w:=w) (h:=h) (hk:=hk) (hkn:=hkn) (hk6:=hk6) (hc:=hc) (hv:=t) (hi:=hi) (ht:=by omega) (ha:=by omega) (hb:=by omega) (hn:=⟨C.i,ac.i⟩)
 ·have T:=P rfl
  obtain⟨g,rfl⟩:∃ g:Nat,to=g:=⟨to.toNat,by omega⟩;have U:=R rfl;obtain⟨a,rfl⟩:∃ a:Nat,j=a:=⟨j.toNat,by omega⟩;have C:=I a (by omega);have h3:=ae rfl;obtain⟨b,rfl⟩:∃ b:Nat,o=b:=⟨o.toNat,by omega⟩;have ac:=I b (by omega);rw[show jg p ins xs ⟨6,(g:Int),(a:Int),(b:Int),num,goto⟩ s=jU 6 g a b s from rfl];exact zhL (w0:=w0) (bm:=bm) (ins:=ins) (w:=w) (h:=h) (hk:=hk) (hkn:=hkn) (hk6:=hk6) (hc:=hc) (hv:=t) (hi:=hi) (ht:=by omega) (ha:=by omega) (hb:=by omega) (hn:=⟨C.i,ac.i⟩)
 ·have T:=P rfl
  obtain⟨g,rfl⟩:∃ g:Nat,to=g:=⟨to.toNat,by omega⟩;have U:=R rfl;obtain⟨a,rfl⟩:∃ a:Nat,j=a:=⟨j.toNat,by omega⟩;have C:=I a (by omega);have h3:=ae rfl;obtain⟨b,rfl⟩:∃ b:Nat,o=b:=⟨o.toNat,by omega⟩;have ac:=I b (by omega);rw[show jg p ins xs ⟨7,(g:Int),(a:Int),(b:Int),num,goto⟩ s=jU 7 g a b s from rfl];exact zhM (w0:=w0) (bm:=bm) (ins:=ins) (w:=w) (h:=h) (hk:=hk) (hkn:=hkn) (hk6:=hk6) (hc:=hc) (hv:=t) (hi:=hi) (ht:=by omega) (ha:=by omega) (hb:=by omega) (hn:=⟨C.i,ac.i⟩)
 ·have T:=P rfl
  obtain⟨g,rfl⟩:∃ g:Nat,to=g:=⟨to.toNat,by omega⟩;have U:=R rfl;obtain⟨a,rfl⟩:∃ a:Nat,j=a:=⟨j.toNat,by omega⟩;have C:=I a (by omega);have h3:=ae rfl;obtain⟨b,rfl⟩:∃ b:Nat,o=b:=⟨o.toNat,by omega⟩;have ac:=I b (by omega);rw[show jg p ins xs ⟨8,(g:Int),(a:Int),(b:Int),num,goto⟩ s=jU 8 g a b s from rfl];exact zhN (w0:=w0) (bm:=bm) (ins:=ins) (w:=w) (h:=h) (hk:=hk) (hkn:=hkn) (hk6:=hk6) (hc:=hc) (hv:=t) (hi:=hi) (ht:=by omega) (ha:=by omega) (hb:=by omega) (hn:=⟨C.i,ac.i⟩)
 ·have T:=P rfl
  obtain⟨g,rfl⟩:∃ g:Nat,to=g:=⟨to.toNat,by omega⟩;have U:=R rfl;obtain⟨a,rfl⟩:∃ a:Nat,j=a:=⟨j.toNat,by omega⟩;have C:=I a (by omega);have h3:=ae rfl;obtain⟨b,rfl⟩:∃ b:Nat,o=b:=⟨o.toNat,by omega⟩;have ac:=I b (by omega);rw[show jg p ins xs ⟨9,(g:Int),(a:Int),(b:Int),num,goto⟩ s=s.set g (jW (XE (s.val a) (s.val b))) from rfl];exact zhO (w0:=w0) (bm:=bm) (ins:=ins) (w:=w) (h:=h) (hk:=hk) (hkn:=hkn) (hk6:=hk6) (hc:=hc) (hv:=t) (hi:=hi) (ht:=by omega) (ha:=by omega) (hb:=by omega)
 ·have T:=P rfl
  obtain⟨g,rfl⟩:∃ g:Nat,to=g:=⟨to.toNat,by omega⟩;have U:=R rfl;obtain⟨a,rfl⟩:∃ a:Nat,j=a:=⟨j.toNat,by omega⟩;have C:=I a (by omega);rw[show jg p ins xs ⟨10,(g:Int),(a:Int),o,num,goto⟩ s=s.set g (jW (!yF (s.val a))) from rfl];exact zgk (w0:=w0) (bm:=bm) (ins:=ins) (w:=w) (h:=h) (hk:=hk) (hkn:=hkn) (hk6:=hk6) (hc:=hc) (hv:=t) (hi:=hi) (ht:=by omega) (ha:=by omega)
 ·have T:=P rfl
  obtain⟨g,rfl⟩:∃ g:Nat,to=g:=⟨to.toNat,by omega⟩;obtain⟨m,aj⟩:∃ m:Nat,p.fields=m:=⟨p.fields.toNat,by have:=ag.f1;omega⟩;have au:jg p ins xs ⟨11,(g:Int),j,o,num,goto⟩ s=yJ g m s:=by simp[jg,aj]
  rw[au];exact zgl (w0:=w0) (bm:=bm) (ins:=ins) (w:=w) (h:=h) (hk:=hk) (hkn:=hkn) (hk6:=hk6) (hc:=hc) (hv:=t) (hi:=hi) (ht:=by omega) (hn:=⟨⟨aj,by have:=ag.f2;omega⟩,aa.nt⟩)
 ·have T:=P rfl
  obtain⟨g,rfl⟩:∃ g:Nat,to=g:=⟨to.toNat,by omega⟩;have U:=R rfl;obtain⟨a,rfl⟩:∃ a:Nat,j=a:=⟨j.toNat,by omega⟩;have C:=I a (by omega);have ao:=ai (by simp);obtain⟨f,rfl⟩:∃ f:Nat,num=f:=⟨num.toNat,by omega⟩;rw[show jg p ins xs ⟨12,(g:Int),(a:Int),o,(f:Int),goto⟩ s=(if (s.val a).kind=3 then s.set g (s.field (s.val a).n.toNat f) else { s with ending:=2 }) from rfl];by_cases ab:(s.val a).kind=3
  ·have ay:=C.th ab
   obtain⟨ad,hkk⟩:∃ ad:Nat,(s.val a).n=ad:=⟨(s.val a).n.toNat,by omega⟩;have af:ad<s.things.length:=by omega
   have av:=aa.nf ad af;rw[if_pos ab,hkk,Int.toNat_natCast];exact G9 (w0:=w0) (bm:=bm) (ins:=ins) (w:=w) (h:=h) (hk:=hk) (hkn:=hkn) (hk6:=hk6) (hc:=hc) (hv:=t) (hi:=hi) (ht:=by omega) (ha:=by omega) (h3:=by rw[<- ab,<- hkk]) (hkk:=af) (hf:=by omega)
  ·rw[if_neg ab]
   exact zbz (w0:=w0) (bm:=bm) (ins:=ins) (w:=w) (h:=h) (hk:=hk) (hkn:=hkn) (hk6:=hk6) (hc:=hc) (hv:=t) (hi:=hi) (ha:=by omega) (hn:=ab)
 ·have U:=R rfl
  obtain⟨a,rfl⟩:∃ a:Nat,j=a:=⟨j.toNat,by omega⟩;have C:=I a (by omega);have h3:=ae rfl;obtain⟨b,rfl⟩:∃ b:Nat,o=b:=⟨o.toNat,by omega⟩;have ac:=I b (by omega);have ao:=ai (by simp);obtain⟨f,rfl⟩:∃ f:Nat,num=f:=⟨num.toNat,by omega⟩;rw[show jg p ins xs ⟨13,to,(a:Int),(b:Int),(f:Int),goto⟩ s=(if (s.val a).kind=3 then UO (s.val a).n.toNat f (s.val b) s else { s with ending:=2 }) from rfl];by_cases ab:(s.val a).kind=3
  ·have ay:=C.th ab
   obtain⟨ad,hkk⟩:∃ ad:Nat,(s.val a).n=ad:=⟨(s.val a).n.toNat,by omega⟩;have af:ad<s.things.length:=by omega
   have av:=aa.nf ad af;rw[if_pos ab,hkk,Int.toNat_natCast];exact zaa (w0:=w0) (bm:=bm) (ins:=ins) (w:=w) (h:=h) (hk:=hk) (hkn:=hkn) (hk6:=hk6) (hc:=hc) (hv:=t) (hi:=hi) (hb:=by omega) (ha:=by omega) (h3:=by rw[<- ab,<- hkk]) (hkk:=af) (hf:=by omega)
  ·rw[if_neg ab]
   exact zbA (w0:=w0) (bm:=bm) (ins:=ins) (w:=w) (h:=h) (hk:=hk) (hkn:=hkn) (hk6:=hk6) (hc:=hc) (hv:=t) (hi:=hi) (ha:=by omega) (hn:=ab)
 ·have T:=P rfl
  obtain⟨g,rfl⟩:∃ g:Nat,to=g:=⟨to.toNat,by omega⟩;have aq:=an rfl;rw[show jg p ins xs ⟨14,(g:Int),j,o,num,goto⟩ s=Zo ⟨14,(g:Int),j,o,num,goto⟩ g ins xs s from rfl];exact zgm (w0:=w0) (bm:=bm) (ins:=ins) (w:=w) (h:=h) (hk:=hk) (hkn:=hkn) (hk6:=hk6) (hc:=hc) (hv:=t) (hi:=hi) (xs:=xs) (ht:=by omega) (hn:=⟨aw,aq,aa.tk⟩)
 ·have U:=R rfl
  obtain⟨a,rfl⟩:∃ a:Nat,j=a:=⟨j.toNat,by omega⟩;have C:=I a (by omega);rw[show jg p ins xs ⟨15,to,(a:Int),o,num,goto⟩ s=qA 15 goto a s from rfl];exact zgn (w0:=w0) (bm:=bm) (ins:=ins) (w:=w) (h:=h) (hk:=hk) (hkn:=hkn) (hk6:=hk6) (hc:=hc) (hv:=t) (hi:=hi) (ha:=by omega) (hn:=⟨C.small aa.nt,by omega,ah⟩)
 ·rw[show jg p ins xs ⟨16,to,j,o,num,goto⟩ s=qA 16 goto j.toNat s from rfl]
  exact zgq (w0:=w0) (bm:=bm) (ins:=ins) (w:=w) (h:=h) (hk:=hk) (hkn:=hkn) (hk6:=hk6) (hc:=hc) (hv:=t) (hi:=hi)
 ·have U:=R rfl
  obtain⟨a,rfl⟩:∃ a:Nat,j=a:=⟨j.toNat,by omega⟩;have C:=I a (by omega);rw[show jg p ins xs ⟨17,to,(a:Int),o,num,goto⟩ s=qA 17 goto a s from rfl];exact zgo (w0:=w0) (bm:=bm) (ins:=ins) (w:=w) (h:=h) (hk:=hk) (hkn:=hkn) (hk6:=hk6) (hc:=hc) (hv:=t) (hi:=hi) (ha:=by omega) (hn:=⟨C.small aa.nt,by omega,ah⟩)
 ·have U:=R rfl
  obtain⟨a,rfl⟩:∃ a:Nat,j=a:=⟨j.toNat,by omega⟩;have C:=I a (by omega);rw[show jg p ins xs ⟨18,to,(a:Int),o,num,goto⟩ s=qA 18 goto a s from rfl];exact zgp (w0:=w0) (bm:=bm) (ins:=ins) (w:=w) (h:=h) (hk:=hk) (hkn:=hkn) (hk6:=hk6) (hc:=hc) (hv:=t) (hi:=hi) (ha:=by omega) (hn:=⟨C.small aa.nt,by omega,ah⟩)
 ·rw[show jg p ins xs ⟨19,to,j,o,num,goto⟩ s=qA 19 goto j.toNat s from rfl]
  exact zgr (w0:=w0) (bm:=bm) (ins:=ins) (w:=w) (h:=h) (hk:=hk) (hkn:=hkn) (hk6:=hk6) (hc:=hc) (hv:=t) (hi:=hi)
set_option maxHeartbeats 2000000
theorem UJ (p:Pg) (is:Nat->Ins) (n:Nat) (w:World) (hn:p.n<=9223372036854775807) (hc:zy w p is) (U:zf p is=0) (T:p.vars=n) (P:n<=8):
  Calls prog 41 #[p.v] w fun e g=>∃ aa ab C t o j,e=.returned (.tuple #[Rn.v aa,.int .i64 0])∧yE aa (qc n) ab C t o j∧Own w.heap.size g (C++(t++(o++j)))∧Below w.heap.size w g:=by
 have I:=fun g (i:Below w.heap.size w g)=>jn p is g (hc.grow i) hn
 rw[U]at I;have ae:=za I;have ad:=za (fun g=>Gg p n g T P);clear I U hc hn T P;have J:=Loc.start w;go_enter func41,ntmps41;go_wp2_with (first|(with_reducible first|refine lld J ?_|((first|refine lbx J ?_|refine lal J ?_);clear J;intro an ac J)|(refine zc J ?_;clear J;intro ac J))|(go_at_call 43;refine cg J (ae.out _ J.below) ?_;clear J;intro ac J;dsimp only)|(go_at_call 46;refine(ad.out _).mono ?_;rintro e ao ⟨⟨ag,al,ak,ai,aj,ah⟩,ab,C,t,o,j,rfl,af,R,i⟩;replace J:=J.gainTail i R;simp only[aX]at J;clear R i;dsimp only));refine rt2 ?_;exact⟨⟨ag,al,ak,ai,aj,ah⟩,_,_,_,_,_,rfl,af,J.ownOf (by repeat (first|exact List.Sublist.refl _|apply List.Sublist.cons)),J.below⟩
end Go.Proofs.YtplcndmdkabmeaaGreatDoor
