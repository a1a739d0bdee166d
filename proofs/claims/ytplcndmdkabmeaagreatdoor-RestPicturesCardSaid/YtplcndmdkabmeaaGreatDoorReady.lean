/- What stepping asks of an instruction. Plain. Conditions: none. -/
import Derived.Test.YtplcndmdkabmeaaGreatDoorCod
set_option linter.unusedSimpArgs false
set_option linter.unusedVariables false
set_option maxRecDepth 100000
namespace Go.Proofs.YtplcndmdkabmeaaGreatDoor
open Go.Proofs.Tryz
open Go.RowKit
structure yU (p:Pg) (i:Ins):Prop where
 kd:zU i.kind 1 19=true
 to:nTo i.kind=true->0<=i.to∧i.to<p.vars
 a:nA i.kind=true->0<=i.a∧i.a<p.vars
 b:nB i.kind=true->0<=i.b∧i.b<p.vars
 f:(i.kind=12∨i.kind=13)->0<=i.n∧i.n<p.fields
 go:V7 i.kind=true->0<=i.goto∧i.goto<=p.n
 n1:i.kind=1->-2147483648<=i.n∧i.n<=2147483647
 n2:i.kind=2->0<=i.n∧i.n<=1
 n14:i.kind=14->0<=i.n∧i.n<=1000000
theorem qG {p:Pg}{i:Ins}(h:zQ p i=0):yU p i:=by
 unfold zQ at h;split at h
 ·cases h
 rename_i g;split at h
 ·cases h
 rename_i j;split at h
 ·cases h
 rename_i o;simp only[Bool.not_eq_true',Bool.not_eq_false]at g;simp only[YA,Bool.not_eq_true,Bool.or_eq_false_iff,Bool.and_eq_false_iff,Bool.not_eq_false',zU,Bool.and_eq_true,decide_eq_true_eq,beq_eq_false_iff_ne]at j;simp only[JG,Bool.not_eq_true,Bool.or_eq_false_iff,Bool.and_eq_false_iff,Bool.not_eq_false',zU,Bool.and_eq_true,decide_eq_true_eq,beq_eq_false_iff_ne]at o;obtain⟨⟨⟨⟨t,C⟩,I⟩,P⟩,R⟩:=j;obtain⟨⟨f1,f2⟩,f3⟩:=o;refine⟨by simpa using g,fun h=>?_,fun h=>?_,fun h=>?_,fun h=>?_,fun h=>?_,fun h=>?_,fun h=>?_,fun h=>?_⟩
 ·rcases t with e|e
  ·rw[h]at e;cases e
  ·omega
 ·rcases C with e|e
  ·rw[h]at e;cases e
  ·omega
 ·rcases I with e|e
  ·rw[h]at e;cases e
  ·omega
 ·rcases P with e|e
  ·rcases h with h|h<;>simp[h]at e
  ·omega
 ·rcases R with e|e
  ·rw[h]at e;cases e
  ·omega
 ·rcases f1 with e|e
  ·exact(e h).elim
  ·omega
 ·rcases f2 with e|e
  ·exact(e h).elim
  ·omega
 ·rcases f3 with e|e
  ·exact(e h).elim
  ·omega
theorem jv {p:Pg}{i:Ins}(h:zQ p i=0):jQ i=false:=by
 unfold zQ at h;split at h
 ·cases h
 split at h
 ·cases h
 split at h
 ·cases h
 split at h
 ·cases h
 rename_i g;simpa using g
end Go.Proofs.YtplcndmdkabmeaaGreatDoor
