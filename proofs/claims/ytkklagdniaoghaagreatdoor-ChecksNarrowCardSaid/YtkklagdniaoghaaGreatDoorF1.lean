/- Quotients in lowest terms: plain. -/
namespace Go.Proofs.Frac
/-- A quotient in lowest terms. -/
def fr (n d : Nat) : Nat × Nat := if n = 0 ∨ d = 0 then (0, 1) else (n / Nat.gcd n d, d / Nat.gcd n d)
theorem fr_zero {n d : Nat} (h : n = 0 ∨ d = 0) : fr n d = (0, 1) := if_pos h
theorem fr_pos {n d : Nat} (h : ¬ (n = 0 ∨ d = 0)) : fr n d = (n / Nat.gcd n d, d / Nat.gcd n d) := if_neg h
theorem fr_mul {n d k : Nat} (hk : 0 < k) : fr (n * k) (d * k) = fr n d := by
  by_cases h : n = 0 ∨ d = 0
  · rw [fr_zero h, fr_zero]
    rcases h with h | h
    · exact .inl (by rw [h, Nat.zero_mul])
    · exact .inr (by rw [h, Nat.zero_mul])
  · have h' : ¬ (n * k = 0 ∨ d * k = 0) := by
      intro e
      rcases e with e | e
      · rcases Nat.mul_eq_zero.1 e with e | e
        · exact h (.inl e)
        · omega
      · rcases Nat.mul_eq_zero.1 e with e | e
        · exact h (.inr e)
        · omega
    rw [fr_pos h, fr_pos h', Nat.gcd_mul_right, Nat.mul_div_mul_right _ _ hk, Nat.mul_div_mul_right _ _ hk]
/-- Two quotients that are equal have one form. -/
theorem fr_eq {a b c d : Nat} (hb : 0 < b) (hd : 0 < d) (h : a * d = c * b) : fr a b = fr c d := by
  rw [← fr_mul (n := a) (d := b) hd, ← fr_mul (n := c) (d := d) hb, h, Nat.mul_comm b d]
theorem fr_den (n d : Nat) : 0 < (fr n d).2 := by
  by_cases h : n = 0 ∨ d = 0
  · rw [fr_zero h]; exact Nat.one_pos
  · rw [fr_pos h]
    have hd : 0 < d := by omega
    exact Nat.div_pos (Nat.le_of_dvd hd (Nat.gcd_dvd_right n d)) (Nat.gcd_pos_of_pos_right _ hd)
theorem fr_num_le (n d : Nat) : (fr n d).1 ≤ n := by
  by_cases h : n = 0 ∨ d = 0
  · rw [fr_zero h]; exact Nat.zero_le _
  · rw [fr_pos h]; exact Nat.div_le_self _ _
theorem fr_den_le {n d : Nat} (hd : 0 < d) : (fr n d).2 ≤ d := by
  by_cases h : n = 0 ∨ d = 0
  · rw [fr_zero h]; exact hd
  · rw [fr_pos h]; exact Nat.div_le_self _ _
/-- A quotient and its form, crosswise. -/
theorem fr_cross {n d : Nat} (hd : 0 < d) : (fr n d).1 * d = n * (fr n d).2 := by
  by_cases h : n = 0 ∨ d = 0
  · have : n = 0 := by omega
    rw [fr_zero h, this]; simp
  · rw [fr_pos h]
    obtain ⟨x, hx⟩ := Nat.gcd_dvd_left n d
    obtain ⟨y, hy⟩ := Nat.gcd_dvd_right n d
    have hg : 0 < Nat.gcd n d := Nat.gcd_pos_of_pos_right _ hd
    generalize Nat.gcd n d = g at *
    subst hx hy
    simp only [Nat.mul_div_cancel_left _ hg]
    rw [Nat.mul_left_comm, Nat.mul_assoc]
/-- The sum, reckoned as the program does, and as the specification does. -/
theorem plus_eq {a b c d : Nat} (hb : 0 < b) (hd : 0 < d) :
    fr (a * (d / Nat.gcd b d) + c * (b / Nat.gcd b d)) (b / Nat.gcd b d * d) = fr (a * d + c * b) (b * d) := by
  obtain ⟨x, hx⟩ := Nat.gcd_dvd_left b d
  obtain ⟨y, hy⟩ := Nat.gcd_dvd_right b d
  have hg : 0 < Nat.gcd b d := Nat.gcd_pos_of_pos_right _ hd
  generalize Nat.gcd b d = g at *
  subst hx hy
  simp only [Nat.mul_div_cancel_left _ hg]
  have e : ∀ p q r : Nat, p * (q * r) = p * r * q := fun p q r => by rw [Nat.mul_comm q r, Nat.mul_assoc]
  have h1 : a * (g * y) + c * (g * x) = (a * y + c * x) * g := by rw [Nat.add_mul, e, e]
  have h2 : g * x * (g * y) = (x * (g * y)) * g := by rw [Nat.mul_comm g x, Nat.mul_assoc, Nat.mul_comm g (g * y), ← Nat.mul_assoc]
  rw [h1, h2, fr_mul hg]
end Go.Proofs.Frac
