/- ChecksIntervals: for every two lists of parts, every list of draws and every number that can be read, the law answers true, and each argument reads as it did; no condition beside the row's own. The listed variables of the library are tied to the text of the program by the card. -/
import Derived.Test.YtkklagdniaoghaaGreatDoorI9R
import Derived.Test.YtkklagdniaoghaaGreatDoorCards
import Derived.Test.YtkklagdniaoghaaGreatDoorTie
import Derived.SevenTiedAt
namespace Go.Proofs.YtkklagdniaoghaaGreatDoor
open Go.RowKit Go.ChangeShapes Go.WideShapes Go.ChangeAt Go.Deep

theorem checksIntervals_holds : Rows.ChecksIntervalsCardSaid :=
  Claim7.holds_tied_plain_at .later [] [.data, .data, .data, .data, .sentinel, .sentinel, .pinned] true (true, "b26d71432b80c1ae548d6596708ca78b004b4c23a0d0e857fbaebc19c62443a0") true
    checksIntervals_row (fun _ h => by cases h) (by kernel_rfl) (fun _ h => by cases h) checksIntervals_row_tie rfl ⟨rfl, rfl⟩ (by kernel_rfl) rfl
    (fun f fn hf hfn => by
      obtain rfl : f = 4 := Option.some.inj ((show Tryz.prog.funcNamed "truchman/truchmanlaw08.ChecksIntervals" = some 4 by kernel_rfl).symm.trans hf) |>.symm
      obtain rfl : fn = Tryz.f4 := (Option.some.inj (Tryz.func4.symm.trans hfn)).symm
      exact ⟨by kernel_rfl, fun j t ht => by
        rw [Tryz.params4] at ht
        have hm : t ∈ [34, 34, 29, 3] := by simpa using Array.mem_of_getElem? ht
        have hall : ([34, 34, 29, 3].all fun u => !Tryz.prog.wantsStandIn u) = true := by kernel_rfl
        exact (show Tryz.prog.wantsStandIn t = false by simpa using List.all_eq_true.1 hall t hm)⟩)
    (by kernel_rfl)
#print axioms checksIntervals_holds
end Go.Proofs.YtkklagdniaoghaaGreatDoor
