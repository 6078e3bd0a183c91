/- Matches of two lists, one by one: plain facts. -/
namespace Go.Proofs.Bag
section
variable {α : Type} [BEq α] [LawfulBEq α]

/-- Members of the first list, each of which uses up one of the second. -/
def mm : List α → List α → Nat
  | [], _ => 0
  | x :: l, m => if x ∈ m then 1 + mm l (m.erase x) else mm l m

/-- The same, told key by key. -/
def sk (ks l m : List α) : Nat := (ks.map fun g => min (l.count g) (m.count g)).sum

omit [LawfulBEq α] in
theorem sk_nil (ks m : List α) : sk ks [] m = 0 := by
  induction ks with
  | nil => rfl
  | cons k ks ih => simp only [sk, List.map_cons, List.sum_cons, List.count_nil, Nat.zero_min, Nat.zero_add] at ih ⊢; exact ih
theorem sk_cons (x : α) (l : List α) (m : List α) : ∀ ks : List α, ks.Nodup → sk ks (x :: l) m = (if x ∈ ks ∧ x ∈ m then 1 else 0) + sk ks l (m.erase x)
  | [], _ => by simp [sk]
  | k :: ks, h => by
    obtain ⟨hk, hn⟩ := List.nodup_cons.1 h
    have ih := sk_cons x l m ks hn
    simp only [sk, List.map_cons, List.sum_cons] at ih ⊢
    rw [ih]
    by_cases e : k = x
    · subst e
      have hp : k ∈ m ↔ 0 < m.count k := List.count_pos_iff.symm
      simp only [List.count_cons_self, List.count_erase_self, List.mem_cons, true_or, true_and, hk, false_and, if_false, hp]
      split <;> omega
    · have e' : ¬ x = k := fun h => e h.symm
      rw [List.count_cons_of_ne (Ne.symm e), List.count_erase_of_ne e]
      simp only [List.mem_cons, e', false_or]
      omega
theorem mm_sk : ∀ (l m ks : List α), ks.Nodup → (∀ x ∈ l, x ∈ m → x ∈ ks) → mm l m = sk ks l m
  | [], m, ks, _, _ => by rw [sk_nil]; rfl
  | x :: l, m, ks, hn, hs => by
    rw [sk_cons x l m ks hn]
    simp only [mm]
    by_cases hx : x ∈ m
    · have := hs x (List.mem_cons_self) hx
      rw [if_pos hx, if_pos ⟨this, hx⟩, mm_sk l (m.erase x) ks hn (fun y hy hy' => hs y (List.mem_cons_of_mem _ hy) (List.mem_of_mem_erase hy'))]
    · rw [if_neg hx, if_neg (fun h => hx h.2), List.erase_of_not_mem hx, Nat.zero_add, mm_sk l m ks hn (fun y hy hy' => hs y (List.mem_cons_of_mem _ hy) hy')]
theorem keys_of : ∀ l : List α, ∃ ks : List α, ks.Nodup ∧ ∀ x, x ∈ l → x ∈ ks
  | [] => ⟨[], List.nodup_nil, fun _ h => h⟩
  | x :: l => by
    obtain ⟨ks, h1, h2⟩ := keys_of l
    by_cases hx : x ∈ ks
    · exact ⟨ks, h1, fun y hy => by rcases List.mem_cons.1 hy with rfl | hy; exact hx; exact h2 y hy⟩
    · exact ⟨x :: ks, List.nodup_cons.2 ⟨hx, h1⟩, fun y hy => by rcases List.mem_cons.1 hy with rfl | hy; exact List.mem_cons_self; exact List.mem_cons_of_mem _ (h2 y hy)⟩
omit [LawfulBEq α] in
theorem sk_mono (ks : List α) {l l' m m' : List α} (h1 : ∀ g, l.count g ≤ l'.count g) (h2 : ∀ g, m.count g ≤ m'.count g) : sk ks l m ≤ sk ks l' m' := by
  induction ks with
  | nil => exact Nat.le_refl _
  | cons k ks ih =>
    simp only [sk, List.map_cons, List.sum_cons] at ih ⊢
    have := h1 k
    have := h2 k
    omega
omit [LawfulBEq α] in
theorem sk_comm (ks l m : List α) : sk ks l m = sk ks m l := by
  simp only [sk]; congr 1; exact List.map_congr_left fun g _ => Nat.min_comm _ _
theorem mm_mono {l l' m m' : List α} (h1 : ∀ g, l.count g ≤ l'.count g) (h2 : ∀ g, m.count g ≤ m'.count g) : mm l m ≤ mm l' m' := by
  obtain ⟨ks, hn, hs⟩ := keys_of (l ++ l')
  rw [mm_sk l m ks hn (fun x hx _ => hs x (List.mem_append_left _ hx)), mm_sk l' m' ks hn (fun x hx _ => hs x (List.mem_append_right _ hx))]
  exact sk_mono ks h1 h2
theorem mm_comm (l m : List α) : mm l m = mm m l := by
  obtain ⟨ks, hn, hs⟩ := keys_of (l ++ m)
  rw [mm_sk l m ks hn (fun x hx _ => hs x (List.mem_append_left _ hx)), mm_sk m l ks hn (fun x hx _ => hs x (List.mem_append_right _ hx)), sk_comm]
theorem mm_left : ∀ l m : List α, mm l m ≤ l.length
  | [], _ => Nat.le_refl _
  | x :: l, m => by
    simp only [mm, List.length_cons]
    split
    · have := mm_left l (m.erase x); omega
    · have := mm_left l m; omega
theorem mm_right (l m : List α) : mm l m ≤ m.length := by rw [mm_comm]; exact mm_left m l
theorem mm_self : ∀ l : List α, mm l l = l.length
  | [] => rfl
  | x :: l => by simp [mm, mm_self l]; omega
theorem mm_perm {l m m' : List α} (h : m.Perm m') : mm l m = mm l m' :=
  Nat.le_antisymm (mm_mono (fun _ => Nat.le_refl _) (fun g => Nat.le_of_eq (h.count_eq g))) (mm_mono (fun _ => Nat.le_refl _) (fun g => Nat.le_of_eq (h.count_eq g).symm))
theorem mm_map {β : Type} [BEq β] [LawfulBEq β] (f : α → β) : ∀ l m : List α, mm l m ≤ mm (l.map f) (m.map f)
  | [], _ => Nat.zero_le _
  | x :: l, m => by
    simp only [mm, List.map_cons]
    by_cases hx : x ∈ m
    · have hp : ((m.map f).erase (f x)).Perm ((m.erase x).map f) := by
        have h1 : (m.map f).Perm (f x :: (m.erase x).map f) := (List.perm_cons_erase hx).map f
        have h2 := h1.erase (f x)
        rwa [List.erase_cons_head] at h2
      rw [if_pos hx, if_pos (List.mem_map.2 ⟨x, hx, rfl⟩), mm_perm hp]
      exact Nat.add_le_add_left (mm_map f l _) 1
    · rw [if_neg hx]
      refine Nat.le_trans (mm_map f l m) ?_
      have : mm (l.map f) (m.map f) ≤ mm (f x :: l.map f) (m.map f) := mm_mono (fun g => by rw [List.count_cons]; omega) (fun _ => Nat.le_refl _)
      simpa only [mm] using this

/-- The grams of a list: n neighbours each. -/
def grams (a : List α) (n : Nat) : List (List α) := (List.range (a.length + 1 - n)).map fun i => (a.drop i).take n
omit [BEq α] [LawfulBEq α] in
theorem grams_length (a : List α) (n : Nat) : (grams a n).length = a.length + 1 - n := by simp [grams]
/-- How many matches two lists have. -/
def mt (a b : List α) (n : Nat) : Nat := mm (grams a n) (grams b n)
theorem mt_comm (a b : List α) (n : Nat) : mt a b n = mt b a n := mm_comm _ _
theorem mt_left (a b : List α) (n : Nat) : mt a b n ≤ a.length + 1 - n := by have := mm_left (grams a n) (grams b n); rwa [grams_length] at this
theorem mt_right (a b : List α) (n : Nat) : mt a b n ≤ b.length + 1 - n := by have := mm_right (grams a n) (grams b n); rwa [grams_length] at this
theorem mt_self (a : List α) (n : Nat) : mt a a n = a.length + 1 - n := by rw [mt, mm_self, grams_length]
omit [BEq α] [LawfulBEq α] in
theorem grams_short (a : List α) (n : Nat) : ((grams a (n + 1)).map (List.take n)).Sublist (grams a n) := by
  simp only [grams, List.map_map]
  have e : (List.take n ∘ fun i => (a.drop i).take (n + 1)) = fun i => (a.drop i).take n := by
    funext i
    simp only [Function.comp, List.take_take]
    congr 1
    omega
  rw [e]
  refine List.Sublist.map _ ?_
  exact List.range_sublist.2 (by omega)
theorem mt_more (a b : List α) (n : Nat) : mt a b (n + 1) ≤ mt a b n :=
  Nat.le_trans (mm_map (List.take n) _ _) (mm_mono (fun g => (grams_short a n).count_le g) (fun g => (grams_short b n).count_le g))
end
end Go.Proofs.Bag
