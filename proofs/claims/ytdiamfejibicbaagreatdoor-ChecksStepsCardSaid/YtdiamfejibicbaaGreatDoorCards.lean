/-
  DERIVED. GIVEN WITH THE SEED: THE CARDS: each row of YtdiamfejibicbaaGreatDoorRows.lean that lists a variable, with what it lists TIED to the program's text (the seventh form; the later family's looks); each row that meets fmt, with fmt's text TOLD by the authors' own Lean function (tested against real Go, not proved from fmt's source: count such statements apart). THE CARD IS WHAT COUNTS. Prove the row's statement (the work); the ties are given (YtdiamfejibicbaaGreatDoorTie.lean); close each card by the builder's one call (the guide's Derived/Test/ToyasCard.lean, 'card_holds'). Laid BY PROGRAM, IN A SANDBOX (cutbox-door.mjs). By AI agents, Wed Nov 11 2026. No macro, syntax, notation, axiom, sorry.
-/
import Derived.Test.YtdiamfejibicbaaGreatDoorRows
import GoSem.ClaimSeven
namespace Go.Proofs.YtdiamfejibicbaaGreatDoor
namespace Rows

/-- THE TIED CARD OF 'truchmanlaw08.ChecksSteps'. -/
def checksStepsCard : Claim7 := { stood := { row := checksStepsRow, standIns := [], harness := (true, "c51b7305bea002f09a09bc70f67ee142332d9505d769b423d4f3f45403c6986b"), looks := true }, kinds := [], alts := [], laidByText := true, laidKinds := [.data, .data, .data, .data, .sentinel, .sentinel, .pinned], laidTests := true, laidLooks := .later }
def ChecksStepsCardSaid : Prop := Claim7.holds Tryz.pinned (.plain (OpenSpec.ofChange checksStepsSpec)) checksStepsCard

/-- THE SECOND FORM's CARD OF 'truchmanlaw08.ChecksSteps'. -/
def checksStepsUptoCard : Claim7 := { stood := { row := checksStepsUptoRow, standIns := [], harness := (true, "c51b7305bea002f09a09bc70f67ee142332d9505d769b423d4f3f45403c6986b"), looks := true }, kinds := [], alts := [], laidByText := true, laidKinds := [.data, .data, .data, .data, .sentinel, .sentinel, .pinned], laidTests := true, laidLooks := .later }
def ChecksStepsUptoCardSaid : Prop := Claim7.holds Tryz.pinned (.plain (OpenSpec.upto checksStepsSpec)) checksStepsUptoCard
end Rows
end Go.Proofs.YtdiamfejibicbaaGreatDoor
