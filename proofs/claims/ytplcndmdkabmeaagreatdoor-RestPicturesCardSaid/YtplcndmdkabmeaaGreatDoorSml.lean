/- The small program of the laws. Conditions: none. -/
import Derived.Test.YtplcndmdkabmeaaGreatDoorCop
set_option linter.unusedSimpArgs false
set_option linter.unusedVariables false
set_option maxRecDepth 100000
set_option maxHeartbeats 400000
namespace Go.Proofs.YtplcndmdkabmeaaGreatDoor
open Go.Proofs.Tryz
open Go.RowKit
def zT (k:Nat):Ins:=if k=0 then ⟨1,0,0,0,5,0⟩ else ⟨18,0,0,0,0,0⟩
abbrev Gs:List Value:=[.int .i64 1,.int .i64 0,.int .i64 0,.int .i64 0,.int .i64 5,.int .i64 0,.int .i64 18,.int .i64 0,.int .i64 0,.int .i64 0,.int .i64 0,.int .i64 0]
abbrev z1 (b:Nat):Pg:=⟨1,0,some ⟨b,0,none⟩,2,2⟩
theorem qY {w:World}{b:Nat}(h:w.heap[b]? = some (.cells Gs.toArray 86 (0,0))):zy w (z1 b) zT:=by
 refine⟨b,0,fun _=>rfl,fun k j=>⟨zz h,fun g v i=>?_⟩⟩;have p:k<2:=j;have o:g<6:=(List.getElem?_eq_some_iff.1 i).1;have e:w.cell? ⟨b,0+k*6+g,none⟩=Gs[k*6+g]? :=by simp[World.cell?,h]
 rw[e,<- i];obtain rfl|rfl:k=0∨k=1:=by omega
 all_goals
  obtain rfl|rfl|rfl|rfl|rfl|rfl:g=0∨g=1∨g=2∨g=3∨g=4∨g=5:=by omega
  all_goals rfl
theorem jl (b:Nat):zf (z1 b) zT=0:=rfl
theorem j0 (w:World):
  Calls prog 39 #[] w fun e g=>∃ b,e=.returned (z1 b).v∧w.heap.size<=b∧g.heap[b]? = some (.cells Gs.toArray 86 (0,0))∧Below w.heap.size w g:=by
 have J:=Loc.start w;go_enter func39,ntmps39;go_wp2_with (with_reducible first|((first|refine lal J ?_|refine lbs J ?_);clear J;intro j i J)|(refine zc J ?_;clear J;intro i J));refine rt1 ?_;exact⟨_,rfl,J.ids _ List.mem_cons_self,J.cells _ List.mem_cons_self,J.below⟩
def SmR (B:Nat):Value->World->Prop:=fun v w=>∃ b,B<=b∧v=(z1 b).v∧w.heap[b]? = some (.cells Gs.toArray 86 (0,0))
theorem SmR.stable {B:Nat}:qC (SmR B):=by
 rintro v w p o ⟨b,i,j,g⟩;exact⟨b,i,j,by rw[o.block _ (zz g)];exact g⟩
end Go.Proofs.YtplcndmdkabmeaaGreatDoor
