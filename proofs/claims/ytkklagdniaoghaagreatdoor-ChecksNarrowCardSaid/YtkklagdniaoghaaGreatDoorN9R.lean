/- ChecksNarrow: the row. -/
import Derived.Test.YtkklagdniaoghaaGreatDoorN9A
import Derived.Test.YtkklagdniaoghaaGreatDoorN9F
namespace Go.Proofs.YtkklagdniaoghaaGreatDoor
open Go.RowKit Go.ChangeShapes Go.WideShapes Go.ChangeAt Go.Deep

theorem checksNarrow_row : Rows.ChecksNarrowSaid :=
  OpenClaim.holds_of_wide 5 Tryz.f5 rfl rfl rfl rfl rfl rfl rfl ⟨rfl, rfl, rfl, rfl, rfl⟩ rfl rfl rfl rfl rfl (by kernel_rfl) Tryz.func5 checksNarrow_facts
    (of_decide_eq_true (by kernel_rfl)) (by unfold Func.isWrapper; first | (rw [if_pos (by decide +kernel)]; kernel_rfl) | (rw [if_neg (by decide +kernel)]; exact ⟨rfl, rfl⟩))
    (fun os started H enc _ => checksNarrow_lifted os started H enc)
end Go.Proofs.YtkklagdniaoghaaGreatDoor
