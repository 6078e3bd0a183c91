/- What UnitF computes, plain: two sums of quotients, and their mean. -/
import Derived.Test.YtkklagdniaoghaaGreatDoorV2
import Derived.Test.YtkklagdniaoghaaGreatDoorV6
namespace Go.Proofs.YtkklagdniaoghaaGreatDoor
open Go.Proofs.Frac (fr fr_den fr_num_le fr_den_le)

/-- One share: the matches of length n over the runs of length n in c. -/
def share (a b c : Ws) (n : Nat) : Nat × Nat := fr (Bag.mt a b n) (c.length + 1 - n)
/-- The sum of the shares of lengths 1 to n. -/
def shares (a b c : Ws) : Nat → Nat × Nat
  | 0 => (0, 1)
  | n + 1 => plusR (shares a b c n) (share a b c (n + 1))
/-- The mean of two quotients, beta squared = q. -/
def meanF (q : Nat) (p r : Nat × Nat) : Nat × Nat := fr ((1 + q) * p.1 * r.1) (q * p.1 * r.2 + r.1 * p.2)
/-- UnitF's answer: the quotient and the error's number. -/
def unitR (s t : ByteArray) (n b : Int) : (Nat × Nat) × Nat :=
  if (isT s && isT t) = false then ((0, 0), 4)
  else if 200 < (uni s).length ∨ 200 < (uni t).length then ((0, 0), 3)
  else if n < 1 ∨ 3 < n ∨ b < 1 ∨ 3 < b then ((0, 0), 1)
  else
    let P := shares (uni s) (uni t) (uni s) n.toNat
    let R := shares (uni s) (uni t) (uni t) n.toNat
    (meanF (b.toNat * b.toNat) (fr P.1 (P.2 * n.toNat)) (fr R.1 (R.2 * n.toNat)), 0)
theorem share_den (a b c : Ws) (n : Nat) (hc : c.length ≤ 200) (hn : 1 ≤ n) : 0 < (share a b c n).2 ∧ (share a b c n).2 ≤ 200 := by
  refine ⟨fr_den _ _, ?_⟩
  unfold share
  by_cases h : 0 < c.length + 1 - n
  · exact Nat.le_trans (fr_den_le h) (by omega)
  · rw [Go.Proofs.Frac.fr_zero (.inr (by omega))]
    decide
theorem share_num (a b c : Ws) (n : Nat) (hm : Bag.mt a b n ≤ 200) : (share a b c n).1 ≤ 200 := Nat.le_trans (fr_num_le _ _) hm
theorem shares_le (a b c : Ws) (hc : c.length ≤ 200) (hm : ∀ n, Bag.mt a b (n + 1) ≤ 200) : ∀ n, (shares a b c n).1 ≤ n * 200 ^ n ∧ 0 < (shares a b c n).2 ∧ (shares a b c n).2 ≤ 200 ^ n
  | 0 => ⟨Nat.zero_le _, Nat.one_pos, Nat.le_refl _⟩
  | n + 1 => by
    obtain ⟨h1, h2, h3⟩ := shares_le a b c hc hm n
    obtain ⟨d1, d2⟩ := share_den a b c (n + 1) hc (by omega)
    have e := share_num a b c (n + 1) (hm _)
    unfold shares plusR
    generalize shares a b c n = x at *
    generalize share a b c (n + 1) = y at *
    refine ⟨Nat.le_trans (fr_num_le _ _) ?_, fr_den _ _, Nat.le_trans (fr_den_le (Nat.mul_pos h2 d1)) ?_⟩
    · have p1 : x.1 * y.2 ≤ n * 200 ^ n * 200 := Nat.mul_le_mul h1 d2
      have p2 : y.1 * x.2 ≤ 200 * 200 ^ n := Nat.mul_le_mul e h3
      have p3 : (n + 1) * 200 ^ (n + 1) = n * 200 ^ n * 200 + 200 * 200 ^ n := by
        rw [Nat.pow_succ, Nat.add_mul, Nat.one_mul, Nat.mul_assoc, Nat.mul_comm 200 (200 ^ n)]
      omega
    · rw [Nat.pow_succ]
      exact Nat.mul_le_mul h3 d2
theorem shares_small (a b c : Ws) (hc : c.length ≤ 200) (hm : ∀ n, Bag.mt a b (n + 1) ≤ 200) {n : Nat} (hn : n ≤ 3) : (shares a b c n).1 ≤ 24000000 ∧ 0 < (shares a b c n).2 ∧ (shares a b c n).2 ≤ 8000000 := by
  obtain ⟨h1, h2, h3⟩ := shares_le a b c hc hm n
  have : n = 0 ∨ n = 1 ∨ n = 2 ∨ n = 3 := by omega
  rcases this with rfl | rfl | rfl | rfl <;> exact ⟨Nat.le_trans h1 (by decide), h2, Nat.le_trans h3 (by decide)⟩
end Go.Proofs.YtkklagdniaoghaaGreatDoor
