/- The walks over the law GuessJoins, part 5. Conditions: what they read lies in memory that was there. -/
import Derived.Test.YteimpfplgdhclaaGreatGuessLawJ1
import Derived.Test.YteimpfplgdhclaaGreatGuessLawJ2
import Derived.Test.YteimpfplgdhclaaGreatGuessLawJ3
import Derived.Test.YteimpfplgdhclaaGreatGuessLawJ4
set_option linter.unusedSimpArgs false
set_option linter.unusedVariables false
namespace Go.Proofs.YteimpfplgdhclaaGreat
open Go.RowKit

theorem joins_any (p : Pg) (is : Nat → Ins) (g h : Gu) (l m : List Int) (v : Vl) (site : Int) (w : World) (hi : GuIn w p is g h l m) :
    Calls Tryz.prog 4 #[p.v, g.v, h.v, v.v, .int .i64 site] w fun e w' => e = .returned (.bool true) ∧ Below w.heap.size w w' := by
  by_cases hu : cg1 p is g l = 0
  · have hk : v.kind < 0 ∨ 3 < v.kind ∨ betw v.kind 0 3 = true := by
      rcases (by omega : v.kind < 0 ∨ 3 < v.kind ∨ (0 ≤ v.kind ∧ v.kind ≤ 3)) with h0 | h0 | ⟨h0, h1⟩
      · exact .inl h0
      · exact .inr (.inl h0)
      · exact .inr (.inr (by simp [betw]; omega))
    by_cases hq : cg2 p is g h l m = 0
    · rcases hk with h0 | h0 | h0
      · exact joins_clo p is g h l m v site w hi hu hq h0
      · exact joins_chi p is g h l m v site w hi hu hq h0
      · exact joins_cok p is g h l m v site w hi hu hq h0
    · rcases hk with h0 | h0 | h0
      · exact joins_blo p is g h l m v site w hi hu hq h0
      · exact joins_bhi p is g h l m v site w hi hu hq h0
      · exact joins_bok p is g h l m v site w hi hu hq h0
  · exact joins_a p is g h l m v site w hi hu
end Go.Proofs.YteimpfplgdhclaaGreat
