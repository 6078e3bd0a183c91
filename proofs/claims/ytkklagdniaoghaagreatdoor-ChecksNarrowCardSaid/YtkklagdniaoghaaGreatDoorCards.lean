/-
  DERIVED. GIVEN WITH THE SEED: THE CARDS: each row of YtkklagdniaoghaaGreatDoorRows.lean that lists a variable, with what it lists TIED to the program's text (the seventh form; the later family's looks); each row that meets fmt, with fmt's text TOLD by the authors' own Lean function (tested against real Go, not proved from fmt's source: count such statements apart). THE CARD IS WHAT COUNTS. Prove the row's statement (the work); the ties are given (YtkklagdniaoghaaGreatDoorTie.lean); close each card by the builder's one call (the guide's Derived/Test/ToyasCard.lean, 'card_holds'). Laid BY PROGRAM, IN A SANDBOX (cutbox-door.mjs). By AI agents, Wed Nov 11 2026. No macro, syntax, notation, axiom, sorry.
-/
import Derived.Test.YtkklagdniaoghaaGreatDoorRows
import GoSem.ClaimSeven
namespace Go.Proofs.YtkklagdniaoghaaGreatDoor
namespace Rows

/-- THE TIED CARD OF 'truchmanlaw08.ChecksUnits'. -/
def checksUnitsCard : Claim7 := { stood := { row := checksUnitsRow, standIns := [], harness := (true, "b26d71432b80c1ae548d6596708ca78b004b4c23a0d0e857fbaebc19c62443a0"), looks := true }, kinds := [], alts := [], laidByText := true, laidKinds := [.data, .data, .data, .data, .sentinel, .sentinel, .pinned], laidTests := true, laidLooks := .later }
def ChecksUnitsCardSaid : Prop := Claim7.holds Tryz.pinned (.plain (OpenSpec.ofChange checksUnitsSpec)) checksUnitsCard

/-- THE TIED CARD OF 'truchmanlaw08.ChecksIntervals'. -/
def checksIntervalsCard : Claim7 := { stood := { row := checksIntervalsRow, standIns := [], harness := (true, "b26d71432b80c1ae548d6596708ca78b004b4c23a0d0e857fbaebc19c62443a0"), looks := true }, kinds := [], alts := [], laidByText := true, laidKinds := [.data, .data, .data, .data, .sentinel, .sentinel, .pinned], laidTests := true, laidLooks := .later }
def ChecksIntervalsCardSaid : Prop := Claim7.holds Tryz.pinned (.plain (OpenSpec.ofChange checksIntervalsSpec)) checksIntervalsCard

/-- THE TIED CARD OF 'truchmanlaw08.ChecksNarrow'. -/
def checksNarrowCard : Claim7 := { stood := { row := checksNarrowRow, standIns := [], harness := (true, "b26d71432b80c1ae548d6596708ca78b004b4c23a0d0e857fbaebc19c62443a0"), looks := true }, kinds := [], alts := [], laidByText := true, laidKinds := [.data, .data, .data, .data, .sentinel, .sentinel, .pinned], laidTests := true, laidLooks := .later }
def ChecksNarrowCardSaid : Prop := Claim7.holds Tryz.pinned (.plain (OpenSpec.ofChange checksNarrowSpec)) checksNarrowCard

/-- THE SECOND FORM's CARD OF 'truchmanlaw08.ChecksUnits'. -/
def checksUnitsUptoCard : Claim7 := { stood := { row := checksUnitsUptoRow, standIns := [], harness := (true, "b26d71432b80c1ae548d6596708ca78b004b4c23a0d0e857fbaebc19c62443a0"), looks := true }, kinds := [], alts := [], laidByText := true, laidKinds := [.data, .data, .data, .data, .sentinel, .sentinel, .pinned], laidTests := true, laidLooks := .later }
def ChecksUnitsUptoCardSaid : Prop := Claim7.holds Tryz.pinned (.plain (OpenSpec.upto checksUnitsSpec)) checksUnitsUptoCard

/-- THE SECOND FORM's CARD OF 'truchmanlaw08.ChecksIntervals'. -/
def checksIntervalsUptoCard : Claim7 := { stood := { row := checksIntervalsUptoRow, standIns := [], harness := (true, "b26d71432b80c1ae548d6596708ca78b004b4c23a0d0e857fbaebc19c62443a0"), looks := true }, kinds := [], alts := [], laidByText := true, laidKinds := [.data, .data, .data, .data, .sentinel, .sentinel, .pinned], laidTests := true, laidLooks := .later }
def ChecksIntervalsUptoCardSaid : Prop := Claim7.holds Tryz.pinned (.plain (OpenSpec.upto checksIntervalsSpec)) checksIntervalsUptoCard

/-- THE SECOND FORM's CARD OF 'truchmanlaw08.ChecksNarrow'. -/
def checksNarrowUptoCard : Claim7 := { stood := { row := checksNarrowUptoRow, standIns := [], harness := (true, "b26d71432b80c1ae548d6596708ca78b004b4c23a0d0e857fbaebc19c62443a0"), looks := true }, kinds := [], alts := [], laidByText := true, laidKinds := [.data, .data, .data, .data, .sentinel, .sentinel, .pinned], laidTests := true, laidLooks := .later }
def ChecksNarrowUptoCardSaid : Prop := Claim7.holds Tryz.pinned (.plain (OpenSpec.upto checksNarrowSpec)) checksNarrowUptoCard
end Rows
end Go.Proofs.YtkklagdniaoghaaGreatDoor
