/-
  DERIVED. GIVEN WITH THE SEED: THE CARDS: each row of YthbdlnflmfchjaaGreatDoorRows.lean that lists a variable, with what it lists TIED to the program's text (the seventh form; the later family's looks); each row that meets fmt, with fmt's text TOLD by the authors' own Lean function (tested against real Go, not proved from fmt's source: count such statements apart). THE CARD IS WHAT COUNTS. Prove the row's statement (the work); the ties are given (YthbdlnflmfchjaaGreatDoorTie.lean); close each card by the builder's one call (the guide's Derived/Test/ToyasCard.lean, 'card_holds'). Laid BY PROGRAM, IN A SANDBOX (cutbox-door.mjs). By AI agents, Wed Nov 11 2026. No macro, syntax, notation, axiom, sorry.
-/
import Derived.Test.YthbdlnflmfchjaaGreatDoorRows
import GoSem.ClaimSeven
namespace Go.Proofs.YthbdlnflmfchjaaGreatDoor
namespace Rows

/-- THE TIED CARD OF 'truchmanlaw08.ChecksEvals'. -/
def checksEvalsCard : Claim7 := { stood := { row := checksEvalsRow, standIns := [], harness := (true, "97ad5c830a3f2489ce096cd5bed83d21d94ae283f61bd623af45e4b6cb6276f4"), looks := true }, kinds := [], alts := [], laidByText := true, laidKinds := [.data, .data, .data, .data, .sentinel, .sentinel, .pinned], laidTests := true, laidLooks := .later }
def ChecksEvalsCardSaid : Prop := Claim7.holds Tryz.pinned (.plain (OpenSpec.ofChange checksEvalsSpec)) checksEvalsCard

/-- THE TIED CARD OF 'truchmanlaw08.ChecksParses'. -/
def checksParsesCard : Claim7 := { stood := { row := checksParsesRow, standIns := [], harness := (true, "97ad5c830a3f2489ce096cd5bed83d21d94ae283f61bd623af45e4b6cb6276f4"), looks := true }, kinds := [], alts := [], laidByText := true, laidKinds := [.data, .data, .data, .data, .sentinel, .sentinel, .pinned], laidTests := true, laidLooks := .later }
def ChecksParsesCardSaid : Prop := Claim7.holds Tryz.pinned (.plain (OpenSpec.ofChange checksParsesSpec)) checksParsesCard

/-- THE TIED CARD OF 'truchmanlaw08.ChecksBack'. -/
def checksBackCard : Claim7 := { stood := { row := checksBackRow, standIns := [], harness := (true, "97ad5c830a3f2489ce096cd5bed83d21d94ae283f61bd623af45e4b6cb6276f4"), looks := true }, kinds := [], alts := [], laidByText := true, laidKinds := [.data, .data, .data, .data, .sentinel, .sentinel, .pinned], laidTests := true, laidLooks := .later }
def ChecksBackCardSaid : Prop := Claim7.holds Tryz.pinned (.plain (OpenSpec.ofChange checksBackSpec)) checksBackCard

/-- THE TIED CARD OF 'truchmanlaw08.ChecksFound'. -/
def checksFoundCard : Claim7 := { stood := { row := checksFoundRow, standIns := [], harness := (true, "97ad5c830a3f2489ce096cd5bed83d21d94ae283f61bd623af45e4b6cb6276f4"), looks := true }, kinds := [], alts := [], laidByText := true, laidKinds := [.data, .data, .data, .data, .sentinel, .sentinel, .pinned], laidTests := true, laidLooks := .later }
def ChecksFoundCardSaid : Prop := Claim7.holds Tryz.pinned (.plain (OpenSpec.ofChange checksFoundSpec)) checksFoundCard

/-- THE TIED CARD OF 'truchmanlaw08.ChecksReports'. -/
def checksReportsCard : Claim7 := { stood := { row := checksReportsRow, standIns := [], harness := (true, "97ad5c830a3f2489ce096cd5bed83d21d94ae283f61bd623af45e4b6cb6276f4"), looks := true }, kinds := [], alts := [], laidByText := true, laidKinds := [.data, .data, .data, .data, .sentinel, .sentinel, .pinned], laidTests := true, laidLooks := .later }
def ChecksReportsCardSaid : Prop := Claim7.holds Tryz.pinned (.plain (OpenSpec.ofChange checksReportsSpec)) checksReportsCard

/-- THE SECOND FORM's CARD OF 'truchmanlaw08.ChecksEvals'. -/
def checksEvalsUptoCard : Claim7 := { stood := { row := checksEvalsUptoRow, standIns := [], harness := (true, "97ad5c830a3f2489ce096cd5bed83d21d94ae283f61bd623af45e4b6cb6276f4"), looks := true }, kinds := [], alts := [], laidByText := true, laidKinds := [.data, .data, .data, .data, .sentinel, .sentinel, .pinned], laidTests := true, laidLooks := .later }
def ChecksEvalsUptoCardSaid : Prop := Claim7.holds Tryz.pinned (.plain (OpenSpec.upto checksEvalsSpec)) checksEvalsUptoCard

/-- THE SECOND FORM's CARD OF 'truchmanlaw08.ChecksParses'. -/
def checksParsesUptoCard : Claim7 := { stood := { row := checksParsesUptoRow, standIns := [], harness := (true, "97ad5c830a3f2489ce096cd5bed83d21d94ae283f61bd623af45e4b6cb6276f4"), looks := true }, kinds := [], alts := [], laidByText := true, laidKinds := [.data, .data, .data, .data, .sentinel, .sentinel, .pinned], laidTests := true, laidLooks := .later }
def ChecksParsesUptoCardSaid : Prop := Claim7.holds Tryz.pinned (.plain (OpenSpec.upto checksParsesSpec)) checksParsesUptoCard

/-- THE SECOND FORM's CARD OF 'truchmanlaw08.ChecksBack'. -/
def checksBackUptoCard : Claim7 := { stood := { row := checksBackUptoRow, standIns := [], harness := (true, "97ad5c830a3f2489ce096cd5bed83d21d94ae283f61bd623af45e4b6cb6276f4"), looks := true }, kinds := [], alts := [], laidByText := true, laidKinds := [.data, .data, .data, .data, .sentinel, .sentinel, .pinned], laidTests := true, laidLooks := .later }
def ChecksBackUptoCardSaid : Prop := Claim7.holds Tryz.pinned (.plain (OpenSpec.upto checksBackSpec)) checksBackUptoCard

/-- THE SECOND FORM's CARD OF 'truchmanlaw08.ChecksFound'. -/
def checksFoundUptoCard : Claim7 := { stood := { row := checksFoundUptoRow, standIns := [], harness := (true, "97ad5c830a3f2489ce096cd5bed83d21d94ae283f61bd623af45e4b6cb6276f4"), looks := true }, kinds := [], alts := [], laidByText := true, laidKinds := [.data, .data, .data, .data, .sentinel, .sentinel, .pinned], laidTests := true, laidLooks := .later }
def ChecksFoundUptoCardSaid : Prop := Claim7.holds Tryz.pinned (.plain (OpenSpec.upto checksFoundSpec)) checksFoundUptoCard

/-- THE SECOND FORM's CARD OF 'truchmanlaw08.ChecksReports'. -/
def checksReportsUptoCard : Claim7 := { stood := { row := checksReportsUptoRow, standIns := [], harness := (true, "97ad5c830a3f2489ce096cd5bed83d21d94ae283f61bd623af45e4b6cb6276f4"), looks := true }, kinds := [], alts := [], laidByText := true, laidKinds := [.data, .data, .data, .data, .sentinel, .sentinel, .pinned], laidTests := true, laidLooks := .later }
def ChecksReportsUptoCardSaid : Prop := Claim7.holds Tryz.pinned (.plain (OpenSpec.upto checksReportsSpec)) checksReportsUptoCard
end Rows
end Go.Proofs.YthbdlnflmfchjaaGreatDoor
