import Derived.Test.YteoilpcbekijlaaGreatDoorReady
import Derived.Test.YteoilpcbekijlaaGreatDoorRunP
set_option linter.unusedSimpArgs false
set_option linter.unusedVariables false
set_option maxRecDepth 100000
namespace Go.Proofs.YteoilpcbekijlaaGreatDoor
open Go.RowKit
def stepI (p:Pg) (ins:Sl) (xs:Nat→Int) (i:Ins) (s:Rs):Rs:=
 if i.kind=1 then s.set i.to.toNat ⟨1,i.n⟩
 else if i.kind=2 then s.set i.to.toNat (truthV (i.n==1))
 else if i.kind=3 then s.set i.to.toNat dV
 else if i.kind=4 then s.set i.to.toNat (s.val i.a.toNat)
 else if i.kind≤8 then countS i.kind i.to.toNat i.a.toNat i.b.toNat s
 else if i.kind=9 then s.set i.to.toNat (truthV (sameB (s.val i.a.toNat) (s.val i.b.toNat)))
 else if i.kind=10 then s.set i.to.toNat (truthV (!countsV (s.val i.a.toNat)))
 else if i.kind=11 then createS i.to.toNat p.fields.toNat s
 else if i.kind=12 then (if (s.val i.a.toNat).kind=3 then s.set i.to.toNat (s.field (s.val i.a.toNat).n.toNat i.n.toNat) else { s with ending:=2 })
 else if i.kind=13 then (if (s.val i.a.toNat).kind=3 then putS (s.val i.a.toNat).n.toNat i.n.toNat (s.val i.b.toNat) s else { s with ending:=2 })
 else if i.kind=14 then takeS i i.to.toNat ins xs s
 else onwardS i.kind i.goto i.a.toNat s
def stepM (p:Pg) (is:Nat→Ins) (ins:Sl) (xs:Nat→Int) (s:Rs):Rs:=if s.at'=p.n then { s with ending:=1 } else stepI p ins xs (is s.at'.toNat) s
def stepS (p:Pg) (is:Nat→Ins) (ins:Sl) (xs:Nat→Int) (s:Rs):Rs:=if s.ending=0 then stepM p is ins xs s else s
structure RightS (p:Pg) (s:Rs):Prop where
 a:0≤s.at'∧s.at'≤p.n
 nv:(s.vars.length:Int)=p.vars
 nt:s.things.length≤100
 nf:∀ k,k<s.things.length→((s.thing k).2.length:Int)=p.fields
 vals:∀ k,k<s.vars.length→isValue (s.val k) s.things.length=true
 fvals:∀ k,k<s.things.length→∀ j,j<(s.thing k).2.length→isValue (s.field k j) s.things.length=true
 tk:0≤s.taken∧s.taken≤9223372036854775807
structure ValidV (v:Vl) (n:Nat):Prop where
 k:0≤v.kind∧v.kind≤3
 z:v.kind=0→v.n=0
 i:v.kind=1→Num32 v.n
 t:v.kind=2→0≤v.n∧v.n≤1
 th:v.kind=3→0≤v.n∧v.n<n
theorem valid_of {v:Vl}{n:Nat}(h:isValue v n=true):ValidV v n:=by
 obtain⟨k,m⟩:=v
 unfold isValue at h
 dsimp only at h
 split at h
 ·rename_i h1;subst h1
  have:m=0:=by simpa using h
  exact⟨by simp,fun _=>this,fun h=>(by simp at h),fun h=>(by simp at h),fun h=>(by simp at h)⟩
 split at h
 ·rename_i h1;subst h1
  have:-2147483648≤m∧m≤2147483647:=by simpa [betw] using h
  exact⟨by simp,fun h=>(by simp at h),fun _=>this,fun h=>(by simp at h),fun h=>(by simp at h)⟩
 split at h
 ·rename_i h1;subst h1
  have:0≤m∧m≤1:=by simpa [betw] using h
  exact⟨by simp,fun h=>(by simp at h),fun h=>(by simp at h),fun _=>this,fun h=>(by simp at h)⟩
 split at h
 ·rename_i h1;subst h1
  have:0≤m∧m≤n - 1:=by simpa [betw] using h
  exact⟨by simp,fun h=>(by simp at h),fun h=>(by simp at h),fun h=>(by simp at h),fun _=>⟨this.1,by show m<n;omega⟩⟩
 ·cases h
theorem ValidV.small {v:Vl}{n:Nat}(h:ValidV v n) (hn:n≤100):-9223372036854775808≤v.n∧v.n≤9223372036854775807:=by
 have h1:=h.k
 have h2:=h.z
 have h3:=h.i
 have h4:=h.t
 have h5:=h.th
 unfold Num32 at h3
 have:v.kind=0∨v.kind=1∨v.kind=2∨v.kind=3:=by omega
 rcases this with e|e|e|e
 ·have:=h2 e;omega
 ·have:=h3 e;omega
 ·have:=h4 e;omega
 ·have:=h5 e;omega
theorem fits_of {p:Pg}{s:Rs}(h:RightS p s) (hp:Small p) (hl:s.lines.length*16≤140737488351232):Fits s:=by
 refine⟨by have:=h.nv;have:=hp.v2;omega,h.nt,fun k=>?_,hl⟩
 by_cases hk:k<s.things.length
 ·have:=h.nf k hk;have:=hp.f2;omega
 ·simp[Rs.thing,List.getD_eq_getElem?_getD,List.getElem?_eq_none (Nat.le_of_not_lt hk),dT]
end Go.Proofs.YteoilpcbekijlaaGreatDoor
