/- Plain: what is printed parses to what it was, and nothing else does; the document's way to take numbers and to print. Conditions: none. -/
import Derived.Test.YtplcndmdkabmeaaGreatDoorParP
set_option linter.unusedSimpArgs false
set_option linter.unusedVariables false
set_option maxRecDepth 100000
namespace Go.Proofs.YtplcndmdkabmeaaGreatDoor
open Go.RowKit
def qh (ns:List Int) (is:Bool) (at' : Nat):Int × Nat:=if is&&decide (at' < ns.length) then (ns.getD at' 0,at' + 1) else (0,if is then 99 else at')
def JY (ns:List Int) (k:Int):Ins × Nat:=
 let t1:=qh ns (nTo k) 0
 let t2:=qh ns (nA k) t1.2
 let t3:=if k=13 then qh ns true t2.2 else (0,t2.2)
 let t4:=qh ns (nB k) t3.2
 let t5:=if k=13 then (t3.1,t4.2) else qh ns (nN k) t4.2
 let t6:=qh ns (QR k) t5.2
 (⟨k,t1.1,t2.1,t4.1,t5.1,t6.1⟩,t6.2)
theorem ze3 {k:Int}(hb:z6 k 1 19=true) (ns:List Int):(ns.length=(zK k).size→JY ns k=(QO (zK k) k (fun j=>ns.getD j 0) (zK k).size,ns.length))∧(ns.length≠(zK k).size→(JY ns k).2≠ns.length):=by
 match ns with
 | []=>rcases jF hb with rfl|rfl|rfl|rfl|rfl|rfl|rfl|rfl|rfl|rfl|rfl|rfl|rfl|rfl|rfl|rfl|rfl|rfl|rfl<;>simp[JY,qh,zK,yK,ByteArray.size,nTo,nA,nB,nN,QR,z6,QO,qE,zap,Qn]
 | [a]=>rcases jF hb with rfl|rfl|rfl|rfl|rfl|rfl|rfl|rfl|rfl|rfl|rfl|rfl|rfl|rfl|rfl|rfl|rfl|rfl|rfl<;>simp[JY,qh,zK,yK,ByteArray.size,nTo,nA,nB,nN,QR,z6,QO,qE,zap,Qn]
 | [a,b]=>rcases jF hb with rfl|rfl|rfl|rfl|rfl|rfl|rfl|rfl|rfl|rfl|rfl|rfl|rfl|rfl|rfl|rfl|rfl|rfl|rfl<;>simp[JY,qh,zK,yK,ByteArray.size,nTo,nA,nB,nN,QR,z6,QO,qE,zap,Qn]
 | [a,b,c]=>rcases jF hb with rfl|rfl|rfl|rfl|rfl|rfl|rfl|rfl|rfl|rfl|rfl|rfl|rfl|rfl|rfl|rfl|rfl|rfl|rfl<;>simp[JY,qh,zK,yK,ByteArray.size,nTo,nA,nB,nN,QR,z6,QO,qE,zap,Qn]
 | a::b::c::d::r=>
  refine⟨fun h=>?_,fun _=>?_⟩
  ·have:(zK k).size≤3:=Je hb
   simp only[List.length_cons]at h;omega
  ·rcases jF hb with rfl|rfl|rfl|rfl|rfl|rfl|rfl|rfl|rfl|rfl|rfl|rfl|rfl|rfl|rfl|rfl|rfl|rfl|rfl<;>simp[JY,qh,nTo,nA,nB,nN,QR,z6]<;>omega
end Go.Proofs.YtplcndmdkabmeaaGreatDoor
