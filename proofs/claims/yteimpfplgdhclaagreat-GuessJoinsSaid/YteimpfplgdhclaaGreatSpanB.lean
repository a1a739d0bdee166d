/- The walks over the package span: its exported functions on two spans. Conditions: none. -/
import Derived.Test.YteimpfplgdhclaaGreatSpan
set_option linter.unusedSimpArgs false
set_option linter.unusedVariables false
namespace Go.Proofs.YteimpfplgdhclaaGreat
open Go.RowKit

def withSpan (G : Span → Span → Span) (s t : Span) : Span := if checkSpans s t = 0 then G s t else zeroSpan

end Go.Proofs.YteimpfplgdhclaaGreat
