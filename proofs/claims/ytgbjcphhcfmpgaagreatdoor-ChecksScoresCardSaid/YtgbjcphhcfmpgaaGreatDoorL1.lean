/- Steps that make one list of another: how many at least; what holds of that number. Plain. -/
namespace Go.Proofs.Lev
variable {α : Type}

/-- One list can be made of the other by n steps. -/
inductive Al : List α → List α → Nat → Prop
  | nil : Al [] [] 0
  | keep {x : α} {a b : List α} {n : Nat} (h : Al a b n) : Al (x :: a) (x :: b) n
  | swap {x y : α} {a b : List α} {n : Nat} (h : Al a b n) : Al (x :: a) (y :: b) (n + 1)
  | drop {x : α} {a b : List α} {n : Nat} (h : Al a b n) : Al (x :: a) b (n + 1)
  | put {y : α} {a b : List α} {n : Nat} (h : Al a b n) : Al a (y :: b) (n + 1)
theorem Al.same : ∀ (a : List α), Al a a 0
  | [] => .nil
  | _ :: a => .keep (Al.same a)
theorem Al.dropAll : ∀ (a : List α), Al a [] a.length
  | [] => .nil
  | _ :: a => .drop (Al.dropAll a)
theorem Al.putAll : ∀ (b : List α), Al [] b b.length
  | [] => .nil
  | _ :: b => .put (Al.putAll b)
theorem Al.symm {a b : List α} {n : Nat} (h : Al a b n) : Al b a n := by
  induction h with
  | nil => exact .nil
  | keep _ ih => exact .keep ih
  | swap _ ih => exact .swap ih
  | drop _ ih => exact .put ih
  | put _ ih => exact .drop ih
theorem Al.nil_le {b : List α} {n : Nat} (h : Al [] b n) : b.length ≤ n := by
  generalize ha : ([] : List α) = a at h
  induction h with
  | nil => exact Nat.le_refl _
  | keep _ _ => cases ha
  | swap _ _ => cases ha
  | drop _ _ => cases ha
  | put _ ih => have := ih ha; simp only [List.length_cons]; omega
/-- Two ways, one behind the other. -/
theorem Al.trans {a b c : List α} {m n : Nat} (h1 : Al a b m) : Al b c n → ∃ k, k ≤ m + n ∧ Al a c k := by
  induction h1 generalizing c n with
  | nil => exact fun h => ⟨n, by omega, h⟩
  | @keep x a b m h ih =>
    intro h2
    generalize hb : x :: b = l at h2
    induction h2 with
    | nil => cases hb
    | keep h2 _ => cases hb; obtain ⟨k, h3, h4⟩ := ih h2; exact ⟨k, h3, .keep h4⟩
    | swap h2 _ => cases hb; obtain ⟨k, h3, h4⟩ := ih h2; exact ⟨k + 1, by omega, .swap h4⟩
    | drop h2 _ => cases hb; obtain ⟨k, h3, h4⟩ := ih h2; exact ⟨k + 1, by omega, .drop h4⟩
    | put h2 ih2 => obtain ⟨k, h3, h4⟩ := ih2 hb; exact ⟨k + 1, by omega, .put h4⟩
  | @swap x y a b m h ih =>
    intro h2
    generalize hb : y :: b = l at h2
    induction h2 with
    | nil => cases hb
    | keep h2 _ => cases hb; obtain ⟨k, h3, h4⟩ := ih h2; exact ⟨k + 1, by omega, .swap h4⟩
    | swap h2 _ => cases hb; obtain ⟨k, h3, h4⟩ := ih h2; exact ⟨k + 1, by omega, .swap h4⟩
    | drop h2 _ => cases hb; obtain ⟨k, h3, h4⟩ := ih h2; exact ⟨k + 1, by omega, .drop h4⟩
    | put h2 ih2 => obtain ⟨k, h3, h4⟩ := ih2 hb; exact ⟨k + 1, by omega, .put h4⟩
  | drop h ih =>
    intro h2
    obtain ⟨k, h3, h4⟩ := ih h2
    exact ⟨k + 1, by omega, .drop h4⟩
  | @put y a b m h ih =>
    intro h2
    generalize hb : y :: b = l at h2
    induction h2 with
    | nil => cases hb
    | keep h2 _ => cases hb; obtain ⟨k, h3, h4⟩ := ih h2; exact ⟨k + 1, by omega, .put h4⟩
    | swap h2 _ => cases hb; obtain ⟨k, h3, h4⟩ := ih h2; exact ⟨k + 1, by omega, .put h4⟩
    | drop h2 _ => cases hb; obtain ⟨k, h3, h4⟩ := ih h2; exact ⟨k, by omega, h4⟩
    | put h2 ih2 => obtain ⟨k, h3, h4⟩ := ih2 hb; exact ⟨k + 1, by omega, .put h4⟩
/-- A word more at the end. -/
theorem Al.keepEnd {a b : List α} {n : Nat} (w : α) (h : Al a b n) : Al (a ++ [w]) (b ++ [w]) n := by
  induction h with
  | nil => exact .keep .nil
  | keep _ ih => exact .keep ih
  | swap _ ih => exact .swap ih
  | drop _ ih => exact .drop ih
  | put _ ih => exact .put ih
theorem Al.app {a b c d : List α} {m n : Nat} (h : Al a b m) (h2 : Al c d n) : Al (a ++ c) (b ++ d) (m + n) := by
  induction h with
  | nil => rw [Nat.zero_add]; exact h2
  | keep _ ih => exact .keep ih
  | swap _ ih => rw [Nat.add_right_comm]; exact .swap ih
  | drop _ ih => rw [Nat.add_right_comm]; exact .drop ih
  | put _ ih => rw [Nat.add_right_comm]; exact .put ih
theorem Al.rev {a b : List α} {n : Nat} (h : Al a b n) : Al a.reverse b.reverse n := by
  induction h with
  | nil => exact .nil
  | keep _ ih => simp only [List.reverse_cons]; exact ih.app (.keep .nil)
  | swap _ ih => simp only [List.reverse_cons]; exact ih.app (.swap .nil)
  | @drop x a b n _ ih =>
    simp only [List.reverse_cons]
    have := ih.app (c := [x]) (d := []) (.drop .nil)
    rwa [List.append_nil] at this
  | @put y a b n _ ih =>
    simp only [List.reverse_cons]
    have := ih.app (c := []) (d := [y]) (.put .nil)
    rwa [List.append_nil] at this
theorem Al.uncons {w : α} {a b : List α} {n : Nat} (h : Al (w :: a) (w :: b) n) : ∃ k, k ≤ n ∧ Al a b k := by
  cases h with
  | keep h => exact ⟨n, Nat.le_refl _, h⟩
  | swap h => exact ⟨_, Nat.le_succ _, h⟩
  | drop h => exact (h.trans (.drop (Al.same b)))
  | put h => 
    obtain ⟨k, h1, h2⟩ := (Al.put (y := w) (Al.same a)).trans h
    exact ⟨k, by omega, h2⟩
theorem Al.unEnd {w : α} {a b : List α} {n : Nat} (h : Al (a ++ [w]) (b ++ [w]) n) : ∃ k, k ≤ n ∧ Al a b k := by
  have := h.rev
  simp only [List.reverse_append, List.reverse_cons, List.reverse_nil, List.nil_append, List.singleton_append] at this
  obtain ⟨k, h1, h2⟩ := this.uncons
  have := h2.rev
  rw [List.reverse_reverse, List.reverse_reverse] at this
  exact ⟨k, h1, this⟩
theorem Al.zero {a b : List α} (h : Al a b 0) : a = b := by
  generalize hn : 0 = n at h
  induction h with
  | nil => rfl
  | keep _ ih => rw [ih hn]
  | swap _ _ => cases hn
  | drop _ _ => cases hn
  | put _ _ => cases hn
theorem Al.len {a b : List α} {n : Nat} (h : Al a b n) : a.length ≤ b.length + n ∧ b.length ≤ a.length + n := by
  induction h with
  | nil => simp
  | keep _ ih => simp only [List.length_cons]; omega
  | swap _ ih => simp only [List.length_cons]; omega
  | drop _ ih => simp only [List.length_cons]; omega
  | put _ ih => simp only [List.length_cons]; omega
theorem Al.most : ∀ (a b : List α), ∃ n, n ≤ max a.length b.length ∧ Al a b n
  | [], b => ⟨b.length, by simp, Al.putAll b⟩
  | x :: a, [] => ⟨(x :: a).length, by simp, Al.dropAll _⟩
  | x :: a, y :: b => by
    obtain ⟨n, h1, h2⟩ := Al.most a b
    exact ⟨n + 1, by simp only [List.length_cons]; omega, .swap h2⟩

variable [DecidableEq α]
/-- The least number of steps, reckoned as the program does. -/
def lev : List α → List α → Nat
  | [], b => b.length
  | _ :: a, [] => a.length + 1
  | x :: a, y :: b => if x = y then min (1 + min (min (lev a b) (lev a (y :: b))) (lev (x :: a) b)) (lev a b) else 1 + min (min (lev a b) (lev a (y :: b))) (lev (x :: a) b)
termination_by a b => a.length + b.length
theorem lev_nil (b : List α) : lev [] b = b.length := by rw [lev]
theorem lev_end (a : List α) : lev a [] = a.length := by cases a with
  | nil => rw [lev]
  | cons x a => rw [lev]; simp
theorem lev_cons (x : α) (a : List α) (y : α) (b : List α) : lev (x :: a) (y :: b) = if x = y then min (1 + min (min (lev a b) (lev a (y :: b))) (lev (x :: a) b)) (lev a b) else 1 + min (min (lev a b) (lev a (y :: b))) (lev (x :: a) b) := by rw [lev]
omit [DecidableEq α] in
theorem Al.one {n m : Nat} {a b : List α} (h : Al a b n) (e : m = n) : Al a b m := e ▸ h
theorem lev_al : ∀ (k : Nat) (a b : List α), a.length + b.length = k → Al a b (lev a b) := by
  intro k
  induction k using Nat.strongRecOn with
  | _ k ih =>
    intro a b hk
    match a, b with
    | [], b => rw [lev_nil]; exact Al.putAll b
    | x :: a, [] => rw [lev_end]; exact Al.dropAll _
    | x :: a, y :: b =>
      simp only [List.length_cons] at hk
      have h1 := ih (a.length + b.length) (by omega) a b rfl
      have h2 := ih (a.length + (y :: b).length) (by simp only [List.length_cons]; omega) a (y :: b) rfl
      have h3 := ih ((x :: a).length + b.length) (by simp only [List.length_cons]; omega) (x :: a) b rfl
      have hm : Al (x :: a) (y :: b) (1 + min (min (lev a b) (lev a (y :: b))) (lev (x :: a) b)) := by
        rcases Nat.le_total (min (lev a b) (lev a (y :: b))) (lev (x :: a) b) with h | h
        · rcases Nat.le_total (lev a b) (lev a (y :: b)) with h' | h'
          · exact (Al.swap h1).one (by omega)
          · exact (Al.drop h2).one (by omega)
        · exact (Al.put h3).one (by omega)
      rw [lev_cons]
      split
      · rename_i hxy
        subst hxy
        rcases Nat.le_total (1 + min (min (lev a b) (lev a (x :: b))) (lev (x :: a) b)) (lev a b) with h | h
        · rw [Nat.min_eq_left h]; exact hm
        · rw [Nat.min_eq_right h]; exact .keep h1
      · exact hm
theorem al_lev (a b : List α) : Al a b (lev a b) := lev_al _ a b rfl
theorem lev_le {a b : List α} {n : Nat} (h : Al a b n) : lev a b ≤ n := by
  induction h with
  | nil => rw [lev_nil]; exact Nat.le_refl _
  | keep _ ih => rw [lev_cons, if_pos rfl]; omega
  | swap _ ih => rw [lev_cons]; split <;> omega
  | @drop x a b n _ ih =>
    cases b with
    | nil => rw [lev_end] at ih ⊢; simp only [List.length_cons]; omega
    | cons y b => rw [lev_cons]; split <;> omega
  | @put y a b n _ ih =>
    cases a with
    | nil => rw [lev_nil] at ih ⊢; simp only [List.length_cons]; omega
    | cons x a => rw [lev_cons]; split <;> omega
theorem lev_symm (a b : List α) : lev a b = lev b a := Nat.le_antisymm (lev_le (al_lev b a).symm) (lev_le (al_lev a b).symm)
theorem lev_tri (a b c : List α) : lev a b ≤ lev a c + lev c b := by
  obtain ⟨k, h1, h2⟩ := (al_lev a c).trans (al_lev c b)
  exact Nat.le_trans (lev_le h2) h1
theorem lev_snoc (a b : List α) (w : α) : lev (a ++ [w]) (b ++ [w]) = lev a b := by
  refine Nat.le_antisymm (lev_le ((al_lev a b).keepEnd w)) ?_
  obtain ⟨k, h1, h2⟩ := (al_lev (a ++ [w]) (b ++ [w])).unEnd
  exact Nat.le_trans (lev_le h2) h1
theorem lev_zero (a b : List α) : lev a b = 0 ↔ a = b := by
  constructor
  · intro h
    have := al_lev a b
    rw [h] at this
    exact this.zero
  · intro h
    subst h
    exact Nat.le_zero.1 (lev_le (Al.same a))
theorem lev_max (a b : List α) : lev a b ≤ max a.length b.length := by
  obtain ⟨n, h1, h2⟩ := Al.most a b
  exact Nat.le_trans (lev_le h2) h1
theorem lev_min (a b : List α) : a.length ≤ b.length + lev a b ∧ b.length ≤ a.length + lev a b := (al_lev a b).len
end Go.Proofs.Lev
