/- Closed facts of the program ChecksSteps runs in, and the law at whatever lists. -/
import Derived.Test.YtdiamfejibicbaaGreatDoorR1
import Derived.Test.YtdiamfejibicbaaGreatDoorS6
import Derived.Test.YtdiamfejibicbaaGreatDoorS7
namespace Go.Proofs.YtdiamfejibicbaaGreatDoor
open Go.RowKit Go.ChangeShapes Go.WideShapes Go.ChangeAt Go.Deep Go.Proofs.Lev

theorem own : ownKnob Tryz.prog.godebug = none := by kernel_rfl
theorem laidOut : laidOutB Tryz.prog = true := by kernel_rfl
theorem readable : ∀ t ∈ [22, 22, 22, 9], Tryz.prog.readableRec t = true ∧ t < Tryz.prog.types.size := by
  intro t ht
  simp only [List.mem_cons, List.not_mem_nil, or_false] at ht
  rcases ht with rfl | rfl | rfl | rfl
  · exact ⟨by kernel_rfl, by decide +kernel⟩
  · exact ⟨by kernel_rfl, by decide +kernel⟩
  · exact ⟨by kernel_rfl, by decide +kernel⟩
  · exact ⟨by kernel_rfl, by decide +kernel⟩

/-- The law, at whatever lists. -/
theorem law_all (a b c : Ws) (word : ByteArray) (w : World) (A C D : Option Addr) (cA cC cD : Nat) (hA : StrAt w w.heap.size A a) (hC : StrAt w w.heap.size C b) (hD : StrAt w w.heap.size D c)
    (la : a.length ≤ 9223372036854775807) (lb : b.length ≤ 9223372036854775807) (lc : c.length ≤ 9223372036854775807) :
    Calls Tryz.prog 3 #[.slice A a.length cA, .slice C b.length cC, .slice D c.length cD, .string word] w fun e w' => e = .returned (.bool true) ∧ w.Since w.heap.size w' := by
  by_cases h1 : 39 < a.length
  · exact law_big a b c word w A C D cA cC cD hA hC hD la lb lc (.inl h1)
  by_cases h2 : 39 < b.length
  · exact law_big a b c word w A C D cA cC cD hA hC hD la lb lc (.inr (.inl h2))
  by_cases h3 : 39 < c.length
  · exact law_big a b c word w A C D cA cC cD hA hC hD la lb lc (.inr (.inr (.inl h3)))
  by_cases h4 : 100 < word.size
  · exact law_big a b c word w A C D cA cC cD hA hC hD la lb lc (.inr (.inr (.inr h4)))
  exact law_small a b c word w A C D cA cC cD hA hC hD (by omega) (by omega) (by omega) (by omega)

end Go.Proofs.YtdiamfejibicbaaGreatDoor
