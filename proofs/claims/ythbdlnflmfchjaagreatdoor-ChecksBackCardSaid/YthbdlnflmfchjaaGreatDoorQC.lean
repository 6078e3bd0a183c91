/- ChecksBack: for every string and every tree that can be read, the law answers true, and each argument reads as it did; no condition beside the row's own. The listed variables of the library are tied to the text of the program by the card. -/
import Derived.Test.YthbdlnflmfchjaaGreatDoorQA
import Derived.Test.YthbdlnflmfchjaaGreatDoorQF
import Derived.Test.YthbdlnflmfchjaaGreatDoorQR
set_option linter.unusedVariables false
set_option linter.unusedSimpArgs false
namespace Go.Proofs.YthbdlnflmfchjaaGreatDoor
open Go.RowKit Go.ChangeShapes Go.WideShapes Go.ChangeAt Go.Deep
theorem checksBack_row:Rows.ChecksBackSaid:=
  OpenClaim.holds_of_wide 5 Tryz.f5 rfl rfl rfl rfl rfl rfl rfl ⟨rfl,rfl,rfl,rfl,rfl⟩ rfl rfl rfl rfl rfl (by kernel_rfl) Tryz.func5 checksBack_facts
    (of_decide_eq_true (by kernel_rfl)) (by unfold Func.isWrapper;first | (rw [if_pos (by decide +kernel)];kernel_rfl) | (rw [if_neg (by decide +kernel)];exact ⟨rfl,rfl⟩))
    (fun os started H enc _=>checksBack_lifted os started H enc)
theorem checksBack_holds:Rows.ChecksBackCardSaid:=checksBack_card checksBack_row
#print axioms checksBack_holds
end Go.Proofs.YthbdlnflmfchjaaGreatDoor
