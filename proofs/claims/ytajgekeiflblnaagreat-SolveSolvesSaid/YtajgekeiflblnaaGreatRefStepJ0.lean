import Derived.Test.YtajgekeiflblnaaGreatRspa
set_option linter.unusedSimpArgs false
set_option linter.unusedVariables false
set_option maxRecDepth 100000
namespace Go.Proofs.YtajgekeiflblnaaGreat
open Go.RowKit
def hi1 (x:Int):Int:=if x=0 then -1 else x
theorem truly_none (lo hi:Int):trulyS ⟨true,lo,hi⟩=⟨true,lo,hi⟩:=rfl
theorem truly_zero:trulyS ⟨false,0,0⟩=noSpan:=rfl
theorem truly_lo {hi:Int}(h:hi≠0):trulyS ⟨false,0,hi⟩=⟨false,1,hi⟩:=by
 unfold trulyS
 have h1:(hi==0)=false:=by simpa using h
 simp[h1,h]
theorem truly_hi {lo:Int}(h:lo≠0):trulyS ⟨false,lo,0⟩=⟨false,lo,-1⟩:=by
 unfold trulyS
 simp[h]
theorem truly_same {lo hi:Int}(h:lo≠0) (h2:hi≠0):trulyS ⟨false,lo,hi⟩=⟨false,lo,hi⟩:=by
 unfold trulyS
 simp[h,h2]
theorem perm_pic2 (Z:LBlk) (P Q:List LBlk):(P++(Z::Q)).Perm (Z::(P++Q)):=List.perm_middle
theorem Loc.tailNodup {w0 w:World}{K R:List LBlk}{D:List Datum}(h:Loc w0 w (K++R) D):(R.map (fun e:LBlk=>e.1)).Nodup:=((List.sublist_append_right K R).map (fun e:LBlk=>e.1)).nodup h.nodup
theorem inspan_common {s:Span}(h:checkSpan s=0):common s ⟨false,0,0⟩=if inSpan s 0=true then ⟨false,0,0⟩ else noSpan:=by
 obtain⟨sn,lo,hi⟩:=s
 cases sn with
 | true=>rfl
 | false=>
  have h1:=(checkSpan_zero h).2.1
  dsimp only at h1
  unfold common inSpan
  by_cases q:lo≤0∧0≤hi
  ·have e1:min hi 0=0:=by omega
   have e2:max lo 0=0:=by omega
   simp[e1,e2,q.1,q.2]
  ·have e3:min hi 0<max lo 0:=by omega
   have e4:(decide (lo≤0)&&decide (0≤hi))=false:=by simp;omega
   simp[e3,e4]
theorem span_le {lo hi:Int}(h:checkSpan ⟨false,lo,hi⟩=0):lo≤hi:=(checkSpan_zero h).2.1
end Go.Proofs.YtajgekeiflblnaaGreat
