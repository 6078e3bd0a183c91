/- ChecksParses: the closed facts of its row. -/
import Derived.Test.YthbdlnflmfchjaaGreatDoorRows
import Derived.ProofKit
namespace Go.Proofs.YthbdlnflmfchjaaGreatDoor
open Go.RowKit

set_option maxHeartbeats 16000000 in
theorem checksParses_facts : joinedFacts Tryz.prog 4 Tryz.f4 Rows.checksParsesSpec Rows.checksParsesRow = true := by
  unfold joinedFacts
  repeat' (with_reducible refine Bool.and_eq_true_iff.2 ⟨?_, ?_⟩)
  all_goals as_aux_lemma => kernel_rfl
end Go.Proofs.YthbdlnflmfchjaaGreatDoor
