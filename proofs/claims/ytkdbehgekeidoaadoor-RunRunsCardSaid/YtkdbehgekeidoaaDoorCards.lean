/-
  DERIVED. GIVEN WITH THE SEED: THE CARDS: each row of YtkdbehgekeidoaaDoorRows.lean that lists a variable, with what it lists TIED to the program's text (the seventh form; the later family's looks); each row that meets fmt, with fmt's text TOLD by the authors' own Lean function (tested against real Go, not proved from fmt's source: count such statements apart). THE CARD IS WHAT COUNTS. Prove the row's statement (the work); the ties are given (YtkdbehgekeidoaaDoorTie.lean); close each card by the builder's one call (the guide's Derived/Test/ToyasCard.lean, 'card_holds'). Laid BY PROGRAM, IN A SANDBOX (cutbox-door.mjs). By AI agents, Wed Nov 11 2026. No macro, syntax, notation, axiom, sorry.
-/
import Derived.Test.YtkdbehgekeidoaaDoorRows
import GoSem.ClaimSeven
namespace Go.Proofs.YtkdbehgekeidoaaDoor
namespace Rows

/-- THE TIED CARD OF 'soundingslaw.RunSteps'. -/
def runStepsCard : Claim7 := { stood := { row := runStepsRow, standIns := [], harness := (true, "626241992b8b82f3fb3da6be688d1d2f8591f3159d210c8ae043d453f6b99ce1"), looks := false }, kinds := [], alts := [], laidByText := true, laidKinds := [.data, .data, .data], laidTests := true, laidLooks := .later }
def RunStepsCardSaid : Prop := Claim7.holds Tryd.pinned (.plain (OpenSpec.ofChange runStepsSpec)) runStepsCard

/-- THE TIED CARD OF 'soundingslaw.RunRuns'. -/
def runRunsCard : Claim7 := { stood := { row := runRunsRow, standIns := [], harness := (true, "626241992b8b82f3fb3da6be688d1d2f8591f3159d210c8ae043d453f6b99ce1"), looks := false }, kinds := [], alts := [], laidByText := true, laidKinds := [.data, .data, .data], laidTests := true, laidLooks := .later }
def RunRunsCardSaid : Prop := Claim7.holds Tryd.pinned (.plain (OpenSpec.ofChange runRunsSpec)) runRunsCard

/-- THE SECOND FORM's CARD OF 'soundingslaw.RunSteps'. -/
def runStepsUptoCard : Claim7 := { stood := { row := runStepsUptoRow, standIns := [], harness := (true, "626241992b8b82f3fb3da6be688d1d2f8591f3159d210c8ae043d453f6b99ce1"), looks := false }, kinds := [], alts := [], laidByText := true, laidKinds := [.data, .data, .data], laidTests := true, laidLooks := .later }
def RunStepsUptoCardSaid : Prop := Claim7.holds Tryd.pinned (.plain (OpenSpec.upto runStepsSpec)) runStepsUptoCard

/-- THE SECOND FORM's CARD OF 'soundingslaw.RunRuns'. -/
def runRunsUptoCard : Claim7 := { stood := { row := runRunsUptoRow, standIns := [], harness := (true, "626241992b8b82f3fb3da6be688d1d2f8591f3159d210c8ae043d453f6b99ce1"), looks := false }, kinds := [], alts := [], laidByText := true, laidKinds := [.data, .data, .data], laidTests := true, laidLooks := .later }
def RunRunsUptoCardSaid : Prop := Claim7.holds Tryd.pinned (.plain (OpenSpec.upto runRunsSpec)) runRunsUptoCard
end Rows
end Go.Proofs.YtkdbehgekeidoaaDoor
