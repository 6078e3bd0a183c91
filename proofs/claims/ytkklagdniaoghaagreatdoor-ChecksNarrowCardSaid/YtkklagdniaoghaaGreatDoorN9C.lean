/- ChecksNarrow: for every two lists of parts, every list of draws and every two numbers that can be read, the law answers true, and each argument reads as it did; no condition beside the row's own. The listed variables of the library are tied to the text of the program by the card. -/
import Derived.Test.YtkklagdniaoghaaGreatDoorN9R
import Derived.Test.YtkklagdniaoghaaGreatDoorCards
import Derived.Test.YtkklagdniaoghaaGreatDoorTie
import Derived.SevenTiedAt
namespace Go.Proofs.YtkklagdniaoghaaGreatDoor
open Go.RowKit Go.ChangeShapes Go.WideShapes Go.ChangeAt Go.Deep

theorem checksNarrow_holds : Rows.ChecksNarrowCardSaid :=
  Claim7.holds_tied_plain_at .later [] [.data, .data, .data, .data, .sentinel, .sentinel, .pinned] true (true, "b26d71432b80c1ae548d6596708ca78b004b4c23a0d0e857fbaebc19c62443a0") true
    checksNarrow_row (fun _ h => by cases h) (by kernel_rfl) (fun _ h => by cases h) checksNarrow_row_tie rfl ⟨rfl, rfl⟩ (by kernel_rfl) rfl
    (fun f fn hf hfn => by
      obtain rfl : f = 5 := Option.some.inj ((show Tryz.prog.funcNamed "truchman/truchmanlaw08.ChecksNarrow" = some 5 by kernel_rfl).symm.trans hf) |>.symm
      obtain rfl : fn = Tryz.f5 := (Option.some.inj (Tryz.func5.symm.trans hfn)).symm
      exact ⟨by kernel_rfl, fun j t ht => by
        rw [Tryz.params5] at ht
        have hm : t ∈ [34, 34, 29, 3, 3] := by simpa using Array.mem_of_getElem? ht
        have hall : ([34, 34, 29, 3, 3].all fun u => !Tryz.prog.wantsStandIn u) = true := by kernel_rfl
        exact (show Tryz.prog.wantsStandIn t = false by simpa using List.all_eq_true.1 hall t hm)⟩)
    (by kernel_rfl)
#print axioms checksNarrow_holds
end Go.Proofs.YtkklagdniaoghaaGreatDoor
