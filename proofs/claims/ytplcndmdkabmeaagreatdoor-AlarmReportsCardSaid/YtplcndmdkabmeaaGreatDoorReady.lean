/- What stepping asks of an instruction. Plain. Conditions: none. -/
import Derived.Test.YtplcndmdkabmeaaGreatDoorCod
set_option linter.unusedSimpArgs false
set_option linter.unusedVariables false
set_option maxRecDepth 100000
namespace Go.Proofs.YtplcndmdkabmeaaGreatDoor
open Go.RowKit
structure Qe (p:Pg) (i:Ins):Prop where
 kd:z6 i.kind 1 19=true
 to:nTo i.kind=true→0≤i.to∧i.to<p.vars
 a:nA i.kind=true→0≤i.a∧i.a<p.vars
 b:nB i.kind=true→0≤i.b∧i.b<p.vars
 f:(i.kind=12∨i.kind=13)→0≤i.n∧i.n<p.fields
 go:QR i.kind=true→0≤i.goto∧i.goto≤p.n
 n1:i.kind=1→-2147483648≤i.n∧i.n≤2147483647
 n2:i.kind=2→0≤i.n∧i.n≤1
 n14:i.kind=14→0≤i.n∧i.n≤1000000
theorem qN {p:Pg}{i:Ins}(h:zY p i=0):Qe p i:=by
 unfold zY at h
 split at h
 ·cases h
 rename_i h1
 split at h
 ·cases h
 rename_i h2
 split at h
 ·cases h
 rename_i h3
 simp only[Bool.not_eq_true',Bool.not_eq_false]at h1
 simp only[YR,Bool.not_eq_true,Bool.or_eq_false_iff,Bool.and_eq_false_iff,Bool.not_eq_false',z6,Bool.and_eq_true,decide_eq_true_eq,beq_eq_false_iff_ne]at h2
 simp only[J1,Bool.not_eq_true,Bool.or_eq_false_iff,Bool.and_eq_false_iff,Bool.not_eq_false',z6,Bool.and_eq_true,decide_eq_true_eq,beq_eq_false_iff_ne]at h3
 obtain⟨⟨⟨⟨e1,e2⟩,e3⟩,e4⟩,e5⟩:=h2
 obtain⟨⟨f1,f2⟩,f3⟩:=h3
 refine⟨by simpa using h1,fun h=>?_,fun h=>?_,fun h=>?_,fun h=>?_,fun h=>?_,fun h=>?_,fun h=>?_,fun h=>?_⟩
 ·rcases e1 with e|e
  ·rw[h]at e;cases e
  ·omega
 ·rcases e2 with e|e
  ·rw[h]at e;cases e
  ·omega
 ·rcases e3 with e|e
  ·rw[h]at e;cases e
  ·omega
 ·rcases e4 with e|e
  ·rcases h with h|h<;>simp[h]at e
  ·omega
 ·rcases e5 with e|e
  ·rw[h]at e;cases e
  ·omega
 ·rcases f1 with e|e
  ·exact(e h).elim
  ·omega
 ·rcases f2 with e|e
  ·exact(e h).elim
  ·omega
 ·rcases f3 with e|e
  ·exact(e h).elim
  ·omega
theorem jL {p:Pg}{i:Ins}(h:zY p i=0):j5 i=false:=by
 unfold zY at h
 split at h
 ·cases h
 split at h
 ·cases h
 split at h
 ·cases h
 split at h
 ·cases h
 rename_i h4
 simpa using h4
end Go.Proofs.YtplcndmdkabmeaaGreatDoor
