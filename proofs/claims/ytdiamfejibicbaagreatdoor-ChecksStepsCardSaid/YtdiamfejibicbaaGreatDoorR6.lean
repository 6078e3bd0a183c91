/- ChecksSteps: the closed facts of its row. -/
import Derived.Test.YtdiamfejibicbaaGreatDoorRows
import Derived.ProofKit
namespace Go.Proofs.YtdiamfejibicbaaGreatDoor
open Go.RowKit

set_option maxHeartbeats 16000000 in
theorem closedFacts : joinedFacts Tryz.prog 3 Tryz.f3 Rows.checksStepsSpec Rows.checksStepsRow = true := by
  unfold joinedFacts
  repeat' (with_reducible refine Bool.and_eq_true_iff.2 ⟨?_, ?_⟩)
  all_goals as_aux_lemma => kernel_rfl
end Go.Proofs.YtdiamfejibicbaaGreatDoor
