/- Plain: what is left of a span that counts, as the reference has it. Conditions: those of each law. -/
import Derived.Test.YtplcndmdkabmeaaGreatDoorRspa
set_option linter.unusedSimpArgs false
set_option linter.unusedVariables false
set_option maxRecDepth 100000
namespace Go.Proofs.YtplcndmdkabmeaaGreatDoor
open Go.Proofs.Tryz
open Go.RowKit
def hi1 (x:Int):Int:=if x=0 then -1 else x
theorem VR (lo hi:Int):ji ⟨true,lo,hi⟩=⟨true,lo,hi⟩:=rfl
theorem VS:ji ⟨false,0,0⟩=zA:=rfl
theorem za1 {hi:Int}(h:hi≠0):ji ⟨false,0,hi⟩=⟨false,1,hi⟩:=by
 unfold ji;have g:(hi==0)=false:=by simpa using h
 simp[g,h]
theorem za2 {lo:Int}(h:lo≠0):ji ⟨false,lo,0⟩=⟨false,lo,-1⟩:=by
 unfold ji;simp[h]
theorem VT {lo hi:Int}(h:lo≠0) (g:hi≠0):ji ⟨false,lo,hi⟩=⟨false,lo,hi⟩:=by
 unfold ji;simp[h,g]
theorem X2 (Z:zg) (P Q:List zg):(P++(Z::Q)).Perm (Z::(P++Q)):=List.perm_middle
theorem Loc.tailNodup {w0 w:World}{K R:List zg}{D:List zl}(h:Loc w0 w (K++R) D):(R.map (fun e:zg=>e.1)).Nodup:=((List.sublist_append_right K R).map (fun e:zg=>e.1)).nodup h.nodup
theorem Xp {s:zm}(h:zh s=0):q4 s ⟨false,0,0⟩=if jE s 0=true then ⟨false,0,0⟩ else zA:=by
 obtain⟨I,i,g⟩:=s;cases I with
 | true=>rfl
 | false=>
  have C:=(zu h).2.1;dsimp only at C;unfold q4 jE;by_cases q:i<=0∧0<=g
  ·have j:min g 0=0:=by omega
   have o:max i 0=0:=by omega
   simp[j,o,q.1,q.2]
  ·have p:min g 0<max i 0:=by omega
   have t:(decide (i<=0)&&decide (0<=g))=false:=by simp;omega
   simp[p,t]
theorem zde {lo hi:Int}(h:zh ⟨false,lo,hi⟩=0):lo<=hi:=(zu h).2.1
end Go.Proofs.YtplcndmdkabmeaaGreatDoor
