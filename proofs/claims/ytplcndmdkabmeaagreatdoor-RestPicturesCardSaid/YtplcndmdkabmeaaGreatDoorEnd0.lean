/- Functions without results: their ends. Over any program. Conditions: none. -/
import Derived.Test.YtplcndmdkabmeaaGreatDoorLib
set_option linter.unusedSimpArgs false
set_option linter.unusedVariables false
set_option maxRecDepth 100000
namespace Go.Proofs.YtplcndmdkabmeaaGreatDoor
open Go.Proofs.Tryz
open Go.RowKit
theorem qv {P:Program}{fn:Func}{R:Ending->World->Prop}{a:Act}{w:World}(j:fn.results=#[]) (i:a.defers=[]) (g:R (.returned (.tuple #[])) w):bodyPost P fn R .normal a w:=
 bodyPost_end (v:=.tuple #[]) (by rw[yK,j];simp) i g
theorem qw {P:Program}{fn:Func}{R:Ending->World->Prop}{a:Act}{w:World}(j:fn.results=#[]) (i:a.defers=[]) (g:R (.returned (.tuple #[])) w):bodyPost P fn R .ret a w:=
 bodyPost_ret (v:=.tuple #[]) (by rw[yK,j];simp) i g
end Go.Proofs.YtplcndmdkabmeaaGreatDoor
