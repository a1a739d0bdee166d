import Derived.Test.YtplcndmdkabmeaaGreatDoorCod
set_option linter.unusedSimpArgs false
set_option linter.unusedVariables false
set_option maxRecDepth 100000
namespace Go.Proofs.YtplcndmdkabmeaaGreatDoor
open Go.RowKit
structure Small (p:Pg):Prop where
 v1:1≤p.vars
 v2:p.vars≤8
 f1:0≤p.fields
 f2:p.fields≤3
 n1:p.n≤60
def firstErr (f:Nat→Int):Nat→Nat→Int
 | _,0=>0
 | k,m+1=>if f k≠0 then f k else firstErr f (k+1) m
def headBad (p:Pg):Bool:=!betw p.vars 1 8 || !betw p.fields 0 3
def checkProg (p:Pg) (is:Nat→Ins):Int:=if headBad p then 3 else if 60<p.n then 2 else firstErr (fun k=>checkOne p (is k)) 0 p.n
def CodeAt (w:World) (p:Pg) (is:Nat→Ins):Prop:=∃ b o:Nat,(0<p.n→p.pc=some ⟨b,o,none⟩)∧∀ k,k<p.n→b<w.heap.size∧∀ j v,(is k).cells[j]? = some v→w.cell? ⟨b,o+k*6+j,none⟩=some v
theorem CodeAt.reads {w:World}{p:Pg}{is:Nat→Ins}(h:CodeAt w p is):∃ b o:Nat,(0<p.n→p.pc=some ⟨b,o,none⟩)∧∀ k,k<p.n→ReadsAt Tryz.prog 86 w b (o+k*6) (is k).v:=by
 obtain⟨b,o,h1,h2⟩:=h
 exact⟨b,o,h1,fun k hk=>ReadsAt.agg tInstr (h2 k hk).1 (fun j v hj=>(h2 k hk).2 j v hj) rfl⟩
theorem CodeAt.kinds {w:World}{p:Pg}{is:Nat→Ins}(h:CodeAt w p is):∃ b o:Nat,(0<p.n→p.pc=some ⟨b,o,none⟩)∧∀ k,k<p.n→ReadsAt Tryz.prog 3 w b (o+k*6) (.int .i64 (is k).kind):=by
 obtain⟨b,o,h1,h2⟩:=h
 exact⟨b,o,h1,fun k hk=>ReadsAt.cell tInt (h2 k hk).1 ((h2 k hk).2 0 _ rfl)⟩
theorem CodeAt.grow {w w' : World}{p:Pg}{is:Nat→Ins}(h:CodeAt w p is) (hb:Below w.heap.size w w'):CodeAt w' p is:=by
 obtain⟨b,o,h1,h2⟩:=h
 exact⟨b,o,h1,fun k hk=>⟨Nat.lt_of_lt_of_le (h2 k hk).1 hb.size,fun j v hj=>(hb.cell (p:=⟨b,o+k*6+j,none⟩) (h2 k hk).1).trans ((h2 k hk).2 j v hj)⟩⟩
theorem small_of {p:Pg}(h:headBad p=false) (hn:¬ 60<p.n):Small p:=by
 simp[headBad,betw]at h
 exact⟨by omega,by omega,by omega,by omega,by omega⟩
theorem firstErr_zero {f:Nat→Int}:∀ {m k:Nat},firstErr f k m=0→∀ j,j<m→f (k+j)=0
 | 0,_,_,j,hj=>absurd hj (by omega)
 | m+1,k,h,j,hj=>by
  unfold firstErr at h
  split at h
  ·rename_i h1;exact absurd h h1
  ·rename_i h1
   rcases Nat.eq_zero_or_pos j with rfl|hj0
   ·simpa using h1
   ·have:=firstErr_zero h (j - 1) (by omega)
    rwa [show k+1+(j - 1)=k+j by omega]at this
theorem prog_right {p:Pg}{is:Nat→Ins}(h:checkProg p is=0):Small p∧∀ k,k<p.n→checkOne p (is k)=0:=by
 unfold checkProg at h
 split at h
 ·cases h
 rename_i h1
 split at h
 ·cases h
 rename_i h2
 exact⟨small_of (by simpa using h1) h2,fun k hk=>by simpa using firstErr_zero h k hk⟩
end Go.Proofs.YtplcndmdkabmeaaGreatDoor
