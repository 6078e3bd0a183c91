/- ChecksIntervals: the row. -/
import Derived.Test.YtkklagdniaoghaaGreatDoorI9A
import Derived.Test.YtkklagdniaoghaaGreatDoorI9F
namespace Go.Proofs.YtkklagdniaoghaaGreatDoor
open Go.RowKit Go.ChangeShapes Go.WideShapes Go.ChangeAt Go.Deep

theorem checksIntervals_row : Rows.ChecksIntervalsSaid :=
  OpenClaim.holds_of_wide 4 Tryz.f4 rfl rfl rfl rfl rfl rfl rfl ⟨rfl, rfl, rfl, rfl, rfl⟩ rfl rfl rfl rfl rfl (by kernel_rfl) Tryz.func4 checksIntervals_facts
    (of_decide_eq_true (by kernel_rfl)) (by unfold Func.isWrapper; first | (rw [if_pos (by decide +kernel)]; kernel_rfl) | (rw [if_neg (by decide +kernel)]; exact ⟨rfl, rfl⟩))
    (fun os started H enc _ => checksIntervals_lifted os started H enc)
end Go.Proofs.YtkklagdniaoghaaGreatDoor
