/- ChecksScores: the closed facts of its row. -/
import Derived.Test.YtgbjcphhcfmpgaaGreatDoorRows
import Derived.ProofKit
namespace Go.Proofs.YtgbjcphhcfmpgaaGreatDoor
open Go.RowKit

set_option maxHeartbeats 16000000 in
theorem checksScores_facts : joinedFacts Tryz.prog 5 Tryz.f5 Rows.checksScoresSpec Rows.checksScoresRow = true := by
  unfold joinedFacts
  repeat' (with_reducible refine Bool.and_eq_true_iff.2 ⟨?_, ?_⟩)
  all_goals as_aux_lemma => kernel_rfl
end Go.Proofs.YtgbjcphhcfmpgaaGreatDoor
