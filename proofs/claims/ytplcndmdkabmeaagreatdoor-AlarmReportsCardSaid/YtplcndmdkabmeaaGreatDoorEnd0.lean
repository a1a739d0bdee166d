/- Functions without results: their ends. Over any program. Conditions: none. -/
import Derived.Test.YtplcndmdkabmeaaGreatDoorLib
set_option linter.unusedSimpArgs false
set_option linter.unusedVariables false
set_option maxRecDepth 100000
namespace Go.Proofs.YtplcndmdkabmeaaGreatDoor
open Go.RowKit
theorem yP {P:Program}{fn:Func}{R:Ending→World→Prop}{a:Act}{w:World}(hr:fn.results=#[]) (hd:a.defers=[]) (hR:R (.returned (.tuple #[])) w):bodyPost P fn R .normal a w:=
 bodyPost_end (v:=.tuple #[]) (by rw[Jj,hr];simp) hd hR
theorem yQ {P:Program}{fn:Func}{R:Ending→World→Prop}{a:Act}{w:World}(hr:fn.results=#[]) (hd:a.defers=[]) (hR:R (.returned (.tuple #[])) w):bodyPost P fn R .ret a w:=
 bodyPost_ret (v:=.tuple #[]) (by rw[Jj,hr];simp) hd hR
end Go.Proofs.YtplcndmdkabmeaaGreatDoor
