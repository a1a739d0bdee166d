/-
  DERIVED. GIVEN WITH THE SEED: THE CARDS: each row of YtplcndmdkabmeaaGreatDoorRows.lean that lists a variable, with what it lists TIED to the program's text (the seventh form; the later family's looks); each row that meets fmt, with fmt's text TOLD by the authors' own Lean function (tested against real Go, not proved from fmt's source: count such statements apart). THE CARD IS WHAT COUNTS. Prove the row's statement (the work); the ties are given (YtplcndmdkabmeaaGreatDoorTie.lean); close each card by the builder's one call (the guide's Derived/Test/ToyasCard.lean, 'card_holds'). Laid BY PROGRAM, IN A SANDBOX (cutbox-door.mjs). By AI agents, Wed Nov 11 2026. No macro, syntax, notation, axiom, sorry.
-/
import Derived.Test.YtplcndmdkabmeaaGreatDoorRows
import GoSem.ClaimSeven
namespace Go.Proofs.YtplcndmdkabmeaaGreatDoor
namespace Rows

/-- THE TIED CARD OF 'soundingslaw.AlarmReports'. -/
def alarmReportsCard : Claim7 := { stood := { row := alarmReportsRow, standIns := [], harness := (true, "cdd9539185f9c30fa0bcb40efb1156d3300fba351d55f9efc346343542ee8cf2"), looks := true }, kinds := [], alts := [], laidByText := true, laidKinds := [.data, .data, .data, .data, .sentinel, .sentinel, .pinned], laidTests := true, laidLooks := .later }
def AlarmReportsCardSaid : Prop := Claim7.holds Tryz.pinned (.plain (OpenSpec.ofChange alarmReportsSpec)) alarmReportsCard

/-- THE TIED CARD OF 'soundingslaw.AlarmSound'. -/
def alarmSoundCard : Claim7 := { stood := { row := alarmSoundRow, standIns := [], harness := (true, "cdd9539185f9c30fa0bcb40efb1156d3300fba351d55f9efc346343542ee8cf2"), looks := true }, kinds := [], alts := [], laidByText := true, laidKinds := [.data, .data, .data, .data, .sentinel, .sentinel, .pinned], laidTests := true, laidLooks := .later }
def AlarmSoundCardSaid : Prop := Claim7.holds Tryz.pinned (.plain (OpenSpec.ofChange alarmSoundSpec)) alarmSoundCard

/-- THE TIED CARD OF 'soundingslaw.RestPictures'. -/
def restPicturesCard : Claim7 := { stood := { row := restPicturesRow, standIns := [], harness := (true, "cdd9539185f9c30fa0bcb40efb1156d3300fba351d55f9efc346343542ee8cf2"), looks := true }, kinds := [], alts := [], laidByText := true, laidKinds := [.data, .data, .data], laidTests := true, laidLooks := .later }
def RestPicturesCardSaid : Prop := Claim7.holds Tryz.pinned (.plain (OpenSpec.ofChange restPicturesSpec)) restPicturesCard

/-- THE TIED CARD OF 'soundingslaw.AlarmTells'. -/
def alarmTellsCard : Claim7 := { stood := { row := alarmTellsRow, standIns := [], harness := (true, "cdd9539185f9c30fa0bcb40efb1156d3300fba351d55f9efc346343542ee8cf2"), looks := true }, kinds := [], alts := [], laidByText := true, laidKinds := [.data, .data, .data, .data, .sentinel, .sentinel, .pinned], laidTests := true, laidLooks := .later }
def AlarmTellsCardSaid : Prop := Claim7.holds Tryz.pinned (.plain (OpenSpec.ofChange alarmTellsSpec)) alarmTellsCard

/-- THE SECOND FORM's CARD OF 'soundingslaw.AlarmReports'. -/
def alarmReportsUptoCard : Claim7 := { stood := { row := alarmReportsUptoRow, standIns := [], harness := (true, "cdd9539185f9c30fa0bcb40efb1156d3300fba351d55f9efc346343542ee8cf2"), looks := true }, kinds := [], alts := [], laidByText := true, laidKinds := [.data, .data, .data, .data, .sentinel, .sentinel, .pinned], laidTests := true, laidLooks := .later }
def AlarmReportsUptoCardSaid : Prop := Claim7.holds Tryz.pinned (.plain (OpenSpec.upto alarmReportsSpec)) alarmReportsUptoCard

/-- THE SECOND FORM's CARD OF 'soundingslaw.AlarmSound'. -/
def alarmSoundUptoCard : Claim7 := { stood := { row := alarmSoundUptoRow, standIns := [], harness := (true, "cdd9539185f9c30fa0bcb40efb1156d3300fba351d55f9efc346343542ee8cf2"), looks := true }, kinds := [], alts := [], laidByText := true, laidKinds := [.data, .data, .data, .data, .sentinel, .sentinel, .pinned], laidTests := true, laidLooks := .later }
def AlarmSoundUptoCardSaid : Prop := Claim7.holds Tryz.pinned (.plain (OpenSpec.upto alarmSoundSpec)) alarmSoundUptoCard

/-- THE SECOND FORM's CARD OF 'soundingslaw.RestPictures'. -/
def restPicturesUptoCard : Claim7 := { stood := { row := restPicturesUptoRow, standIns := [], harness := (true, "cdd9539185f9c30fa0bcb40efb1156d3300fba351d55f9efc346343542ee8cf2"), looks := true }, kinds := [], alts := [], laidByText := true, laidKinds := [.data, .data, .data], laidTests := true, laidLooks := .later }
def RestPicturesUptoCardSaid : Prop := Claim7.holds Tryz.pinned (.plain (OpenSpec.upto restPicturesSpec)) restPicturesUptoCard

/-- THE SECOND FORM's CARD OF 'soundingslaw.AlarmTells'. -/
def alarmTellsUptoCard : Claim7 := { stood := { row := alarmTellsUptoRow, standIns := [], harness := (true, "cdd9539185f9c30fa0bcb40efb1156d3300fba351d55f9efc346343542ee8cf2"), looks := true }, kinds := [], alts := [], laidByText := true, laidKinds := [.data, .data, .data, .data, .sentinel, .sentinel, .pinned], laidTests := true, laidLooks := .later }
def AlarmTellsUptoCardSaid : Prop := Claim7.holds Tryz.pinned (.plain (OpenSpec.upto alarmTellsSpec)) alarmTellsUptoCard
end Rows
end Go.Proofs.YtplcndmdkabmeaaGreatDoor
