/- ChecksUnits: the row. -/
import Derived.Test.YtkklagdniaoghaaGreatDoorU9A
import Derived.Test.YtkklagdniaoghaaGreatDoorU9F
namespace Go.Proofs.YtkklagdniaoghaaGreatDoor
open Go.RowKit Go.ChangeShapes Go.WideShapes Go.ChangeAt Go.Deep

theorem checksUnits_row : Rows.ChecksUnitsSaid :=
  OpenClaim.holds_of_wide 3 Tryz.f3 rfl rfl rfl rfl rfl rfl rfl ⟨rfl, rfl, rfl, rfl, rfl⟩ rfl rfl rfl rfl rfl (by kernel_rfl) Tryz.func3 checksUnits_facts
    (of_decide_eq_true (by kernel_rfl)) (by unfold Func.isWrapper; first | (rw [if_pos (by decide +kernel)]; kernel_rfl) | (rw [if_neg (by decide +kernel)]; exact ⟨rfl, rfl⟩))
    (fun os started H enc _ => checksUnits_lifted os started H enc)
end Go.Proofs.YtkklagdniaoghaaGreatDoor
