/- ChecksScores: for every two lists of lists of words and every number that can be read, the law answers true, and each argument reads as it did; no condition beside the row's own. The listed variables of the library are tied to the text of the program by the card. -/
import Derived.Test.YtgbjcphhcfmpgaaGreatDoorS9R
import Derived.Test.YtgbjcphhcfmpgaaGreatDoorCards
import Derived.Test.YtgbjcphhcfmpgaaGreatDoorTie
import Derived.SevenTiedAt
namespace Go.Proofs.YtgbjcphhcfmpgaaGreatDoor
open Go.RowKit Go.ChangeShapes Go.WideShapes Go.ChangeAt Go.Deep

theorem checksScores_holds : Rows.ChecksScoresCardSaid :=
  Claim7.holds_tied_plain_at .later [] [.data, .data, .data, .data, .sentinel, .sentinel, .pinned] true (true, "7398ee630a9c207ea65bf0d683b8f3341d71b2ffe1086aa83b17226048323a21") true
    checksScores_row (fun _ h => by cases h) (by kernel_rfl) (fun _ h => by cases h) checksScores_row_tie rfl ⟨rfl, rfl⟩ (by kernel_rfl) rfl
    (fun f fn hf hfn => by
      obtain rfl : f = 5 := Option.some.inj ((show Tryz.prog.funcNamed "truchman/truchmanlaw08.ChecksScores" = some 5 by kernel_rfl).symm.trans hf) |>.symm
      obtain rfl : fn = Tryz.f5 := (Option.some.inj (Tryz.func5.symm.trans hfn)).symm
      exact ⟨by kernel_rfl, fun j t ht => by
        rw [Tryz.params5] at ht
        have hm : t ∈ [33, 33, 3] := by simpa using Array.mem_of_getElem? ht
        have hall : ([33, 33, 3].all fun u => !Tryz.prog.wantsStandIn u) = true := by kernel_rfl
        exact (show Tryz.prog.wantsStandIn t = false by simpa using List.all_eq_true.1 hall t hm)⟩)
    (by kernel_rfl)
#print axioms checksScores_holds
end Go.Proofs.YtgbjcphhcfmpgaaGreatDoor
