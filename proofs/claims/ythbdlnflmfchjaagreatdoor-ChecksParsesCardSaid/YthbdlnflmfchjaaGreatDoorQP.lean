/- ChecksParses: for every string and every two trees that can be read, the law answers true, and each argument reads as it did; no condition beside the row's own. The listed variables of the library are tied to the text of the program by the card. -/
import Derived.Test.YthbdlnflmfchjaaGreatDoorQM
import Derived.Test.YthbdlnflmfchjaaGreatDoorQN
import Derived.Test.YthbdlnflmfchjaaGreatDoorQO
set_option linter.unusedVariables false
set_option linter.unusedSimpArgs false
namespace Go.Proofs.YthbdlnflmfchjaaGreatDoor
open Go.RowKit Go.ChangeShapes Go.WideShapes Go.ChangeAt Go.Deep
theorem checksParses_row:Rows.ChecksParsesSaid:=
  OpenClaim.holds_of_wide 4 Tryz.f4 rfl rfl rfl rfl rfl rfl rfl ⟨rfl,rfl,rfl,rfl,rfl⟩ rfl rfl rfl rfl rfl (by kernel_rfl) Tryz.func4 checksParses_facts
    (of_decide_eq_true (by kernel_rfl)) (by unfold Func.isWrapper;first | (rw [if_pos (by decide +kernel)];kernel_rfl) | (rw [if_neg (by decide +kernel)];exact ⟨rfl,rfl⟩))
    (fun os started H enc _=>checksParses_lifted os started H enc)
theorem checksParses_holds:Rows.ChecksParsesCardSaid:=checksParses_card checksParses_row
#print axioms checksParses_holds
end Go.Proofs.YthbdlnflmfchjaaGreatDoor
