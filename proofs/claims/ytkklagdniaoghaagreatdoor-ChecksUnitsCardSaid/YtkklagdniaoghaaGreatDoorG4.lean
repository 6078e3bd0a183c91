/- Places of a list used up one by one: plain. -/
import Derived.Test.YtkklagdniaoghaaGreatDoorG1
namespace Go.Proofs.Bag
section
variable {α : Type} [BEq α] [LawfulBEq α]
/-- What is left of a list when the marked places are gone. -/
def rest : List α → (Nat → Bool) → List α
  | [], _ => []
  | x :: l, u => if u 0 then rest l (fun i => u (i + 1)) else x :: rest l (fun i => u (i + 1))
def mark (u : Nat → Bool) (k : Nat) : Nat → Bool := fun i => if i = k then true else u i
omit [BEq α] [LawfulBEq α] in
theorem rest_none : ∀ l : List α, rest l (fun _ => false) = l
  | [] => rfl
  | x :: l => by simp only [rest, Bool.false_eq_true, if_false, rest_none l]
omit [BEq α] [LawfulBEq α] in
theorem rest_mem {g : α} : ∀ {l : List α} {u : Nat → Bool}, g ∈ rest l u → ∃ k, ∃ h : k < l.length, u k = false ∧ l[k] = g
  | [], _, h => by cases h
  | x :: l, u, h => by
    simp only [rest] at h
    split at h
    · obtain ⟨k, h1, h2, h3⟩ := rest_mem h
      exact ⟨k + 1, by simp; omega, h2, h3⟩
    · rename_i hu
      rcases List.mem_cons.1 h with rfl | h
      · exact ⟨0, by simp, by simpa using hu, rfl⟩
      · obtain ⟨k, h1, h2, h3⟩ := rest_mem h
        exact ⟨k + 1, by simp; omega, h2, h3⟩
omit [BEq α] [LawfulBEq α] in
theorem mem_rest : ∀ {l : List α} {u : Nat → Bool} (k : Nat) (h : k < l.length), u k = false → l[k] ∈ rest l u
  | x :: l, u, 0, _, hu => by simp [rest, hu]
  | x :: l, u, k + 1, h, hu => by
    have ih := mem_rest (l := l) (u := fun i => u (i + 1)) k (by simpa using h) hu
    simp only [rest, List.getElem_cons_succ]
    split
    · exact ih
    · exact List.mem_cons_of_mem _ ih
theorem rest_mark : ∀ {l : List α} {u : Nat → Bool} (k : Nat) (h : k < l.length), u k = false → (∀ j (hj : j < k), u j = false → l[j] ≠ l[k]) → rest l (mark u k) = (rest l u).erase l[k]
  | x :: l, u, 0, _, hu, _ => by
    have e : (fun i => mark u 0 (i + 1)) = fun i => u (i + 1) := by funext i; simp [mark]
    simp only [rest, e]
    simp [mark, hu]
  | x :: l, u, k + 1, h, hu, hno => by
    have e : (fun i => mark u (k + 1) (i + 1)) = mark (fun i => u (i + 1)) k := by funext i; simp [mark]
    have ih := rest_mark (l := l) (u := fun i => u (i + 1)) k (by simpa using h) hu (fun j hj hj' => by
      have := hno (j + 1) (by omega) hj'
      simpa using this)
    have e0 : mark u (k + 1) 0 = u 0 := by simp [mark]
    simp only [rest, e, e0, List.getElem_cons_succ]
    split
    · exact ih
    · rename_i hx
      have hne := hno 0 (by omega) (by simpa using hx)
      simp only [List.getElem_cons_zero, List.getElem_cons_succ] at hne
      rw [List.erase_cons_tail (by simpa using hne), ih]
theorem mm_hit {x : α} {l m : List α} (h : x ∈ m) : mm (x :: l) m = 1 + mm l (m.erase x) := by simp only [mm]; rw [if_pos h]
theorem mm_miss {x : α} {l m : List α} (h : x ∉ m) : mm (x :: l) m = mm l m := by simp only [mm]; rw [if_neg h]
/-- One round: a place is found that is free and the first of its kind. -/
theorem mm_found {ga gb : List α} {u : Nat → Bool} {i k : Nat} (hi : i < ga.length) (hk : k < gb.length) (hu : u k = false) (he : ga[i] = gb[k]) (hno : ∀ j (hj : j < k), u j = false → gb[j] ≠ ga[i]) :
    mm (ga.drop i) (rest gb u) = 1 + mm (ga.drop (i + 1)) (rest gb (mark u k)) := by
  rw [rest_mark k hk hu (fun j hj hj' => by rw [← he]; exact hno j hj hj'), List.drop_eq_getElem_cons hi, mm_hit (by rw [he]; exact mem_rest k hk hu), he]
theorem mm_none {ga gb : List α} {u : Nat → Bool} {i : Nat} (hi : i < ga.length) (hno : ∀ j (hj : j < gb.length), u j = false → gb[j] ≠ ga[i]) :
    mm (ga.drop i) (rest gb u) = mm (ga.drop (i + 1)) (rest gb u) := by
  rw [List.drop_eq_getElem_cons hi, mm_miss (fun h => by obtain ⟨k, h1, h2, h3⟩ := rest_mem h; exact hno k h1 h2 h3)]
end
end Go.Proofs.Bag
