/-
  DERIVED. GIVEN WITH THE SEED: THE CARDS: each row of YtgbjcphhcfmpgaaGreatDoorRows.lean that lists a variable, with what it lists TIED to the program's text (the seventh form; the later family's looks); each row that meets fmt, with fmt's text TOLD by the authors' own Lean function (tested against real Go, not proved from fmt's source: count such statements apart). THE CARD IS WHAT COUNTS. Prove the row's statement (the work); the ties are given (YtgbjcphhcfmpgaaGreatDoorTie.lean); close each card by the builder's one call (the guide's Derived/Test/ToyasCard.lean, 'card_holds'). Laid BY PROGRAM, IN A SANDBOX (cutbox-door.mjs). By AI agents, Wed Nov 11 2026. No macro, syntax, notation, axiom, sorry.
-/
import Derived.Test.YtgbjcphhcfmpgaaGreatDoorRows
import GoSem.ClaimSeven
namespace Go.Proofs.YtgbjcphhcfmpgaaGreatDoor
namespace Rows

/-- THE TIED CARD OF 'truchmanlaw08.ChecksMatches'. -/
def checksMatchesCard : Claim7 := { stood := { row := checksMatchesRow, standIns := [], harness := (true, "7398ee630a9c207ea65bf0d683b8f3341d71b2ffe1086aa83b17226048323a21"), looks := true }, kinds := [], alts := [], laidByText := true, laidKinds := [.data, .data, .data, .data, .sentinel, .sentinel, .pinned], laidTests := true, laidLooks := .later }
def ChecksMatchesCardSaid : Prop := Claim7.holds Tryz.pinned (.plain (OpenSpec.ofChange checksMatchesSpec)) checksMatchesCard

/-- THE TIED CARD OF 'truchmanlaw08.ChecksGrams'. -/
def checksGramsCard : Claim7 := { stood := { row := checksGramsRow, standIns := [], harness := (true, "7398ee630a9c207ea65bf0d683b8f3341d71b2ffe1086aa83b17226048323a21"), looks := true }, kinds := [], alts := [], laidByText := true, laidKinds := [.data, .data, .data, .data, .sentinel, .sentinel, .pinned], laidTests := true, laidLooks := .later }
def ChecksGramsCardSaid : Prop := Claim7.holds Tryz.pinned (.plain (OpenSpec.ofChange checksGramsSpec)) checksGramsCard

/-- THE TIED CARD OF 'truchmanlaw08.ChecksScores'. -/
def checksScoresCard : Claim7 := { stood := { row := checksScoresRow, standIns := [], harness := (true, "7398ee630a9c207ea65bf0d683b8f3341d71b2ffe1086aa83b17226048323a21"), looks := true }, kinds := [], alts := [], laidByText := true, laidKinds := [.data, .data, .data, .data, .sentinel, .sentinel, .pinned], laidTests := true, laidLooks := .later }
def ChecksScoresCardSaid : Prop := Claim7.holds Tryz.pinned (.plain (OpenSpec.ofChange checksScoresSpec)) checksScoresCard

/-- THE SECOND FORM's CARD OF 'truchmanlaw08.ChecksMatches'. -/
def checksMatchesUptoCard : Claim7 := { stood := { row := checksMatchesUptoRow, standIns := [], harness := (true, "7398ee630a9c207ea65bf0d683b8f3341d71b2ffe1086aa83b17226048323a21"), looks := true }, kinds := [], alts := [], laidByText := true, laidKinds := [.data, .data, .data, .data, .sentinel, .sentinel, .pinned], laidTests := true, laidLooks := .later }
def ChecksMatchesUptoCardSaid : Prop := Claim7.holds Tryz.pinned (.plain (OpenSpec.upto checksMatchesSpec)) checksMatchesUptoCard

/-- THE SECOND FORM's CARD OF 'truchmanlaw08.ChecksGrams'. -/
def checksGramsUptoCard : Claim7 := { stood := { row := checksGramsUptoRow, standIns := [], harness := (true, "7398ee630a9c207ea65bf0d683b8f3341d71b2ffe1086aa83b17226048323a21"), looks := true }, kinds := [], alts := [], laidByText := true, laidKinds := [.data, .data, .data, .data, .sentinel, .sentinel, .pinned], laidTests := true, laidLooks := .later }
def ChecksGramsUptoCardSaid : Prop := Claim7.holds Tryz.pinned (.plain (OpenSpec.upto checksGramsSpec)) checksGramsUptoCard

/-- THE SECOND FORM's CARD OF 'truchmanlaw08.ChecksScores'. -/
def checksScoresUptoCard : Claim7 := { stood := { row := checksScoresUptoRow, standIns := [], harness := (true, "7398ee630a9c207ea65bf0d683b8f3341d71b2ffe1086aa83b17226048323a21"), looks := true }, kinds := [], alts := [], laidByText := true, laidKinds := [.data, .data, .data, .data, .sentinel, .sentinel, .pinned], laidTests := true, laidLooks := .later }
def ChecksScoresUptoCardSaid : Prop := Claim7.holds Tryz.pinned (.plain (OpenSpec.upto checksScoresSpec)) checksScoresUptoCard
end Rows
end Go.Proofs.YtgbjcphhcfmpgaaGreatDoor
