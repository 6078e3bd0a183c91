/- ChecksScores: the row. -/
import Derived.Test.YtgbjcphhcfmpgaaGreatDoorS9A
import Derived.Test.YtgbjcphhcfmpgaaGreatDoorS9F
namespace Go.Proofs.YtgbjcphhcfmpgaaGreatDoor
open Go.RowKit Go.ChangeShapes Go.WideShapes Go.ChangeAt Go.Deep

theorem checksScores_row : Rows.ChecksScoresSaid :=
  OpenClaim.holds_of_wide 5 Tryz.f5 rfl rfl rfl rfl rfl rfl rfl ⟨rfl, rfl, rfl, rfl, rfl⟩ rfl rfl rfl rfl rfl (by kernel_rfl) Tryz.func5 checksScores_facts
    (of_decide_eq_true (by kernel_rfl)) (by unfold Func.isWrapper; first | (rw [if_pos (by decide +kernel)]; kernel_rfl) | (rw [if_neg (by decide +kernel)]; exact ⟨rfl, rfl⟩))
    (fun os started H enc _ => checksScores_lifted os started H enc)
end Go.Proofs.YtgbjcphhcfmpgaaGreatDoor
