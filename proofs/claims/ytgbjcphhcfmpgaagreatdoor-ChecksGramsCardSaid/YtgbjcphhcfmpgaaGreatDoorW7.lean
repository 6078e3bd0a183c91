/- The law ChecksGrams, at whatever lists. -/
import Derived.Test.YtgbjcphhcfmpgaaGreatDoorW6
namespace Go.Proofs.YtgbjcphhcfmpgaaGreatDoor
open Go.RowKit Go.Proofs.MapEnt
theorem law_grams (a b : Ws) (n : Int) (w : World) (A C : Option Addr) (cA cC : Nat) (hA : In w A cA a) (hC : In w C cC b) (ka : cA ≤ 9223372036854775807) (kc : cC ≤ 9223372036854775807)
    (hn1 : -9223372036854775808 ≤ n) (hn2 : n ≤ 9223372036854775807) :
    Calls Tryz.prog 4 #[.slice A a.length cA, .slice C b.length cC, .int .i64 n] w fun e w' => e = .returned (.bool true) ∧ w.Since w.heap.size w' := by
  by_cases h : 40 < a.length ∨ 40 < b.length ∨ n < 1 ∨ 4 < n
  · exact grams_big a b n w A C cA cC hA hC ka kc hn1 hn2 h
  · obtain ⟨k, rfl⟩ : ∃ k : Nat, n = k := ⟨n.toNat, by omega⟩
    exact grams_small a b k w A C cA cC hA hC ka kc (by omega) (by omega) (by omega) (by omega)
end Go.Proofs.YtgbjcphhcfmpgaaGreatDoor
