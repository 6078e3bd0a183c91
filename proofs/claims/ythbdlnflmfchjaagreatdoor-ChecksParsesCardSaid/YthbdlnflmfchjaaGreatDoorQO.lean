/- ChecksParses: its card, of its row. -/
import Derived.Test.YthbdlnflmfchjaaGreatDoorCards
import Derived.Test.YthbdlnflmfchjaaGreatDoorTie
import Derived.SevenTiedAt
import Derived.ProofKit
set_option linter.unusedVariables false
set_option linter.unusedSimpArgs false
namespace Go.Proofs.YthbdlnflmfchjaaGreatDoor
open Go.RowKit
theorem checksParses_card (hr:Rows.ChecksParsesSaid):Rows.ChecksParsesCardSaid:=
  Claim7.holds_tied_plain_at .later [] [.data, .data, .data, .data, .sentinel, .sentinel, .pinned] true (true, "97ad5c830a3f2489ce096cd5bed83d21d94ae283f61bd623af45e4b6cb6276f4") true
    hr (fun _ h=>by cases h) (by as_aux_lemma=>kernel_rfl) (fun _ h=>by cases h) checksParses_row_tie rfl ⟨rfl,rfl⟩ (by as_aux_lemma=>kernel_rfl) rfl
    (fun f fn hf hfn=>by
      obtain rfl : f = 4 := Option.some.inj ((show Tryz.prog.funcNamed "truchman/truchmanlaw08.ChecksParses" = some 4 by as_aux_lemma=>kernel_rfl).symm.trans hf) |>.symm
      obtain rfl:fn=Tryz.f4:=(Option.some.inj (Tryz.func4.symm.trans hfn)).symm
      exact ⟨by as_aux_lemma=>kernel_rfl,fun j t ht=>by
        rw [Tryz.params4] at ht
        have hm:t ∈ [9,39,39]:=by simpa using Array.mem_of_getElem? ht
        have hall:([9,39,39].all fun u=>!Tryz.prog.wantsStandIn u)=true:=by as_aux_lemma=>kernel_rfl
        exact (show Tryz.prog.wantsStandIn t=false by simpa using List.all_eq_true.1 hall t hm)⟩)
    (by as_aux_lemma=>kernel_rfl)
end Go.Proofs.YthbdlnflmfchjaaGreatDoor
