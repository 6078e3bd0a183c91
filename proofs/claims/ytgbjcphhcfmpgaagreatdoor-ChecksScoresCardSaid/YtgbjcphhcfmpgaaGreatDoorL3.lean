/- How long the script is: plain. -/
import Derived.Test.YtgbjcphhcfmpgaaGreatDoorL2
namespace Go.Proofs.Lev
theorem scr_len_ : ∀ (n : Nat) (a b : Ws) (i k : Nat), (a.length - i) + (b.length - k) = n → (scr a b i k).length ≤ n := by
  intro n
  induction n using Nat.strongRecOn with
  | _ n ih =>
    intro a b i k hn
    rw [scr]
    split
    · rename_i h
      have := ih ((a.length - (i + 1)) + (b.length - (k + 1))) (by omega) a b (i + 1) (k + 1) rfl
      simp only [List.length_cons]
      omega
    · split
      · rename_i h
        have := ih ((a.length - (i + 1)) + (b.length - (k + 1))) (by omega) a b (i + 1) (k + 1) rfl
        simp only [List.length_cons]
        omega
      · split
        · rename_i h
          have := ih ((a.length - (i + 1)) + (b.length - k)) (by omega) a b (i + 1) k rfl
          simp only [List.length_cons]
          omega
        · split
          · rename_i h
            have := ih ((a.length - i) + (b.length - (k + 1))) (by omega) a b i (k + 1) rfl
            simp only [List.length_cons]
            omega
          · simp
theorem scr_len (a b : Ws) : (scr a b 0 0).length ≤ a.length + b.length := scr_len_ _ a b 0 0 (by omega)
end Go.Proofs.Lev
