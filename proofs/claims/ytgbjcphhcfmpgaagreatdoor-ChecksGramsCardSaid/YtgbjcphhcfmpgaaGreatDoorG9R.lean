/- ChecksGrams: the row. -/
import Derived.Test.YtgbjcphhcfmpgaaGreatDoorG9A
import Derived.Test.YtgbjcphhcfmpgaaGreatDoorG9F
namespace Go.Proofs.YtgbjcphhcfmpgaaGreatDoor
open Go.RowKit Go.ChangeShapes Go.WideShapes Go.ChangeAt Go.Deep

theorem checksGrams_row : Rows.ChecksGramsSaid :=
  OpenClaim.holds_of_wide 4 Tryz.f4 rfl rfl rfl rfl rfl rfl rfl ⟨rfl, rfl, rfl, rfl, rfl⟩ rfl rfl rfl rfl rfl (by kernel_rfl) Tryz.func4 checksGrams_facts
    (of_decide_eq_true (by kernel_rfl)) (by unfold Func.isWrapper; first | (rw [if_pos (by decide +kernel)]; kernel_rfl) | (rw [if_neg (by decide +kernel)]; exact ⟨rfl, rfl⟩))
    (fun os started H enc _ => checksGrams_lifted os started H enc)
end Go.Proofs.YtgbjcphhcfmpgaaGreatDoor
