/- ChecksSteps: for every three lists of words and every word that can be read, the law answers true, and each argument reads as it did; no condition beside the row's own. The listed variables of the library are tied to the text of the program by the card. -/
import Derived.Test.YtdiamfejibicbaaGreatDoorR4
import Derived.Test.YtdiamfejibicbaaGreatDoorCards
import Derived.Test.YtdiamfejibicbaaGreatDoorTie
import Derived.SevenTiedAt
namespace Go.Proofs.YtdiamfejibicbaaGreatDoor
open Go.RowKit Go.ChangeShapes Go.WideShapes Go.ChangeAt Go.Deep Go.Proofs.Lev

theorem checksSteps_holds : Rows.ChecksStepsCardSaid :=
  Claim7.holds_tied_plain_at .later [] [.data, .data, .data, .data, .sentinel, .sentinel, .pinned] true (true, "c51b7305bea002f09a09bc70f67ee142332d9505d769b423d4f3f45403c6986b") true
    checksSteps_row (fun _ h => by cases h) (by kernel_rfl) (fun _ h => by cases h) checksSteps_row_tie rfl ⟨rfl, rfl⟩ (by kernel_rfl) rfl
    (fun f fn hf hfn => by
      obtain rfl : f = 3 := Option.some.inj ((show Tryz.prog.funcNamed "truchman/truchmanlaw08.ChecksSteps" = some 3 by kernel_rfl).symm.trans hf) |>.symm
      obtain rfl : fn = Tryz.f3 := (Option.some.inj (Tryz.func3.symm.trans hfn)).symm
      exact ⟨by kernel_rfl, fun j t ht => by
        rw [Tryz.params3] at ht
        have hm : t ∈ [22, 22, 22, 9] := by simpa using Array.mem_of_getElem? ht
        have hall : ([22, 22, 22, 9].all fun u => !Tryz.prog.wantsStandIn u) = true := by kernel_rfl
        exact (show Tryz.prog.wantsStandIn t = false by simpa using List.all_eq_true.1 hall t hm)⟩)
    (by kernel_rfl)
#print axioms checksSteps_holds
end Go.Proofs.YtdiamfejibicbaaGreatDoor
