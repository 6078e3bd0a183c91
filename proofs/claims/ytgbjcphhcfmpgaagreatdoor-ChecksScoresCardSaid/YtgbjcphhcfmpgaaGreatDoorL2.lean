/- The table of costs and the script of steps: plain. -/
import Derived.Test.YtgbjcphhcfmpgaaGreatDoorL1
namespace Go.Proofs.Lev
abbrev Ws := List ByteArray
/-! ### the table -/
def L (a b : Ws) (i k : Nat) : Nat := lev (a.drop i) (b.drop k)
theorem L_endA (a b : Ws) (k : Nat) : L a b a.length k = b.length - k := by simp [L, lev_nil]
theorem L_endB (a b : Ws) (i : Nat) : L a b i b.length = a.length - i := by simp [L, lev_end]
theorem L_step {a b : Ws} {i k : Nat} (hi : i < a.length) (hk : k < b.length) :
    L a b i k = if a[i] = b[k] then min (1 + min (min (L a b (i + 1) (k + 1)) (L a b (i + 1) k)) (L a b i (k + 1))) (L a b (i + 1) (k + 1)) else 1 + min (min (L a b (i + 1) (k + 1)) (L a b (i + 1) k)) (L a b i (k + 1)) := by
  unfold L
  rw [List.drop_eq_getElem_cons hi, List.drop_eq_getElem_cons hk, lev_cons]
theorem L_eq {a b : Ws} {i k : Nat} (hi : i < a.length) (hk : k < b.length) (e : a[i] = b[k]) :
    L a b i k = min (1 + min (min (L a b (i + 1) (k + 1)) (L a b (i + 1) k)) (L a b i (k + 1))) (L a b (i + 1) (k + 1)) := by rw [L_step hi hk, if_pos e]
theorem L_ne {a b : Ws} {i k : Nat} (hi : i < a.length) (hk : k < b.length) (e : a[i] ≠ b[k]) :
    L a b i k = 1 + min (min (L a b (i + 1) (k + 1)) (L a b (i + 1) k)) (L a b i (k + 1)) := by rw [L_step hi hk, if_neg e]
theorem L_le (a b : Ws) (i k : Nat) : L a b i k ≤ a.length + b.length := by
  have := lev_max (a.drop i) (b.drop k)
  simp only [List.length_drop] at this
  unfold L
  omega

/-! ### scripts -/
def run (a b : Ws) : List Nat → Nat → Nat → Nat → Option (Nat × Nat × Nat)
  | [], i, k, c => some (i, k, c)
  | 0 :: s, i, k, c => if i < a.length ∧ k < b.length ∧ a[i]? = b[k]? then run a b s (i + 1) (k + 1) c else none
  | 1 :: s, i, k, c => if i < a.length ∧ k < b.length then run a b s (i + 1) (k + 1) (c + 1) else none
  | 2 :: s, i, k, c => if i < a.length then run a b s (i + 1) k (c + 1) else none
  | 3 :: s, i, k, c => if k < b.length then run a b s i (k + 1) (c + 1) else none
  | _ :: _, _, _, _ => none
theorem run_app {a b : Ws} : ∀ {s t : List Nat} {i k c : Nat} {x : Nat × Nat × Nat}, run a b s i k c = some x → run a b (s ++ t) i k c = run a b t x.1 x.2.1 x.2.2
  | [], t, i, k, c, x, h => by cases h; rfl
  | o :: s, t, i, k, c, x, h => by
    match o, h with
    | 0, h => simp only [run] at h; split at h; exact (by rename_i q; simp only [List.cons_append, run, if_pos q]; exact run_app h); cases h
    | 1, h => simp only [run] at h; split at h; exact (by rename_i q; simp only [List.cons_append, run, if_pos q]; exact run_app h); cases h
    | 2, h => simp only [run] at h; split at h; exact (by rename_i q; simp only [List.cons_append, run, if_pos q]; exact run_app h); cases h
    | 3, h => simp only [run] at h; split at h; exact (by rename_i q; simp only [List.cons_append, run, if_pos q]; exact run_app h); cases h
    | n + 4, h => simp [run] at h
theorem run_len {a b : Ws} : ∀ {s : List Nat} {i k c : Nat} {x : Nat × Nat × Nat}, run a b s i k c = some x → i ≤ x.1 ∧ k ≤ x.2.1 ∧ s.length + i + k ≤ x.1 + x.2.1
  | [], i, k, c, x, h => by cases h; simp
  | o :: s, i, k, c, x, h => by
    match o, h with
    | 0, h => simp only [run] at h; split at h; exact (by have := run_len h; simp only [List.length_cons]; omega); cases h
    | 1, h => simp only [run] at h; split at h; exact (by have := run_len h; simp only [List.length_cons]; omega); cases h
    | 2, h => simp only [run] at h; split at h; exact (by have := run_len h; simp only [List.length_cons]; omega); cases h
    | 3, h => simp only [run] at h; split at h; exact (by have := run_len h; simp only [List.length_cons]; omega); cases h
    | n + 4, h => simp [run] at h


theorem L_most (a b : Ws) (i k : Nat) : L a b i k ≤ max (a.length - i) (b.length - k) := by
  have := lev_max (a.drop i) (b.drop k)
  simp only [List.length_drop] at this
  exact this
/-- The same table, reckoned as the specification does. -/
theorem L_ref_eq {a b : Ws} {i k : Nat} (hi : i < a.length) (hk : k < b.length) (e : a[i] = b[k]) :
    min (min (min (min ((a.length - i) + (b.length - k)) (L a b (i + 1) k + 1)) (L a b i (k + 1) + 1)) (L a b (i + 1) (k + 1) + 1)) (L a b (i + 1) (k + 1)) = L a b i k := by
  rw [L_eq hi hk e]
  have := L_most a b (i + 1) (k + 1)
  omega
theorem L_ref_ne {a b : Ws} {i k : Nat} (hi : i < a.length) (hk : k < b.length) (e : a[i] ≠ b[k]) :
    min (min (min ((a.length - i) + (b.length - k)) (L a b (i + 1) k + 1)) (L a b i (k + 1) + 1)) (L a b (i + 1) (k + 1) + 1) = L a b i k := by
  rw [L_ne hi hk e]
  have := L_most a b (i + 1) (k + 1)
  omega

/-- The script: step by step the least kind with which the fewest are left. -/
def scr (a b : Ws) (i k : Nat) : List Nat :=
  if i < a.length ∧ k < b.length ∧ a[i]? = b[k]? ∧ L a b (i + 1) (k + 1) = L a b i k then 0 :: scr a b (i + 1) (k + 1)
  else if i < a.length ∧ k < b.length ∧ L a b (i + 1) (k + 1) + 1 = L a b i k then 1 :: scr a b (i + 1) (k + 1)
  else if i < a.length ∧ L a b (i + 1) k + 1 = L a b i k then 2 :: scr a b (i + 1) k
  else if k < b.length then 3 :: scr a b i (k + 1)
  else []
termination_by (a.length - i) + (b.length - k)
theorem scr_keep {a b : Ws} {I K : Nat} (hI : I < a.length) (hK : K < b.length) (e : a[I] = b[K]) (he : L a b (I + 1) (K + 1) = L a b I K) : scr a b I K = 0 :: scr a b (I + 1) (K + 1) := by
  rw [scr, if_pos ⟨hI, hK, by rw [List.getElem?_eq_getElem hI, List.getElem?_eq_getElem hK, e], he⟩]
theorem no_keep {a b : Ws} {I K : Nat} (hI : I < a.length) (hK : K < b.length) (e : a[I] = b[K] → L a b (I + 1) (K + 1) ≠ L a b I K) : ¬ (I < a.length ∧ K < b.length ∧ a[I]? = b[K]? ∧ L a b (I + 1) (K + 1) = L a b I K) := by
  rintro ⟨_, _, h1, h2⟩
  rw [List.getElem?_eq_getElem hI, List.getElem?_eq_getElem hK, Option.some.injEq] at h1
  exact e h1 h2
theorem scr_swap {a b : Ws} {I K : Nat} (hI : I < a.length) (hK : K < b.length) (n1 : a[I] = b[K] → L a b (I + 1) (K + 1) ≠ L a b I K) (he : L a b (I + 1) (K + 1) + 1 = L a b I K) : scr a b I K = 1 :: scr a b (I + 1) (K + 1) := by
  rw [scr, if_neg (no_keep hI hK n1), if_pos ⟨hI, hK, he⟩]
theorem scr_drop {a b : Ws} {I K : Nat} (hI : I < a.length) (n1 : ∀ (hK : K < b.length), a[I] = b[K] → L a b (I + 1) (K + 1) ≠ L a b I K) (n2 : K < b.length → L a b (I + 1) (K + 1) + 1 ≠ L a b I K) (he : L a b (I + 1) K + 1 = L a b I K) : scr a b I K = 2 :: scr a b (I + 1) K := by
  rw [scr, if_neg (fun h => no_keep hI h.2.1 (n1 h.2.1) h), if_neg (fun h => n2 h.2.1 h.2.2), if_pos ⟨hI, he⟩]
theorem scr_put {a b : Ws} {I K : Nat} (hK : K < b.length) (n1 : ∀ (hI : I < a.length), a[I] = b[K] → L a b (I + 1) (K + 1) ≠ L a b I K) (n2 : I < a.length → L a b (I + 1) (K + 1) + 1 ≠ L a b I K) (n3 : I < a.length → L a b (I + 1) K + 1 ≠ L a b I K) : scr a b I K = 3 :: scr a b I (K + 1) := by
  rw [scr, if_neg (fun h => no_keep h.1 hK (n1 h.1) h), if_neg (fun h => n2 h.1 h.2.2), if_neg (fun h => n3 h.1 h.2), if_pos hK]
theorem scr_end (a b : Ws) : scr a b a.length b.length = [] := by
  rw [scr, if_neg (fun h => by omega), if_neg (fun h => by omega), if_neg (fun h => by omega), if_neg (by omega)]

/-- How far a script has come, and what is still to pay. -/
structure Half (a b : Ws) (I K : Nat) (s : List Nat) : Prop where
  le : s.length ≤ I + K
  ex : ∃ c, run a b s 0 0 0 = some (I, K, c) ∧ c + L a b I K = L a b 0 0
  det : s ++ scr a b I K = scr a b 0 0
theorem half_start (a b : Ws) : Half a b 0 0 [] := ⟨by simp, ⟨0, rfl, by omega⟩, rfl⟩
theorem half_keep {a b : Ws} {I K : Nat} {s : List Nat} (h : Half a b I K s) (hI : I < a.length) (hK : K < b.length) (e : a[I] = b[K]) (he : L a b (I + 1) (K + 1) = L a b I K) : Half a b (I + 1) (K + 1) (s ++ [0]) := by
  obtain ⟨h0, ⟨c, h1, h2⟩, h3⟩ := h
  refine ⟨by simp; omega, ⟨c, ?_, by omega⟩, ?_⟩
  · rw [run_app h1]
    simp only [run]
    rw [if_pos ⟨hI, hK, by rw [List.getElem?_eq_getElem hI, List.getElem?_eq_getElem hK, e]⟩]
  · rw [← h3, scr_keep hI hK e he]; simp
theorem half_swap {a b : Ws} {I K : Nat} {s : List Nat} (h : Half a b I K s) (hI : I < a.length) (hK : K < b.length) (n1 : a[I] = b[K] → L a b (I + 1) (K + 1) ≠ L a b I K) (he : L a b (I + 1) (K + 1) + 1 = L a b I K) : Half a b (I + 1) (K + 1) (s ++ [1]) := by
  obtain ⟨h0, ⟨c, h1, h2⟩, h3⟩ := h
  refine ⟨by simp; omega, ⟨c + 1, ?_, by omega⟩, ?_⟩
  · rw [run_app h1]
    simp only [run]
    rw [if_pos ⟨hI, hK⟩]
  · rw [← h3, scr_swap hI hK n1 he]; simp
theorem half_drop {a b : Ws} {I K : Nat} {s : List Nat} (h : Half a b I K s) (hI : I < a.length) (n1 : ∀ (hK : K < b.length), a[I] = b[K] → L a b (I + 1) (K + 1) ≠ L a b I K) (n2 : K < b.length → L a b (I + 1) (K + 1) + 1 ≠ L a b I K) (he : L a b (I + 1) K + 1 = L a b I K) : Half a b (I + 1) K (s ++ [2]) := by
  obtain ⟨h0, ⟨c, h1, h2⟩, h3⟩ := h
  refine ⟨by simp; omega, ⟨c + 1, ?_, by omega⟩, ?_⟩
  · rw [run_app h1]
    simp only [run]
    rw [if_pos hI]
  · rw [← h3, scr_drop hI n1 n2 he]; simp
theorem half_put {a b : Ws} {I K : Nat} {s : List Nat} (h : Half a b I K s) (hK : K < b.length) (n1 : ∀ (hI : I < a.length), a[I] = b[K] → L a b (I + 1) (K + 1) ≠ L a b I K) (n2 : I < a.length → L a b (I + 1) (K + 1) + 1 ≠ L a b I K) (n3 : I < a.length → L a b (I + 1) K + 1 ≠ L a b I K) (he : L a b I (K + 1) + 1 = L a b I K) : Half a b I (K + 1) (s ++ [3]) := by
  obtain ⟨h0, ⟨c, h1, h2⟩, h3⟩ := h
  refine ⟨by simp; omega, ⟨c + 1, ?_, by omega⟩, ?_⟩
  · rw [run_app h1]
    simp only [run]
    rw [if_pos hK]
  · rw [← h3, scr_put hK n1 n2 n3]; simp
theorem half_done {a b : Ws} {s : List Nat} (h : Half a b a.length b.length s) : run a b s 0 0 0 = some (a.length, b.length, lev a b) := by
  obtain ⟨h0, ⟨c, h1, h2⟩, h3⟩ := h
  rw [L_endA] at h2
  have : L a b 0 0 = lev a b := by simp [L]
  rw [this] at h2
  rw [h1, ← h2]
  simp
theorem half_scr {a b : Ws} {s : List Nat} (h : Half a b a.length b.length s) : s = scr a b 0 0 := by
  have := h.det
  rwa [scr_end, List.append_nil] at this
end Go.Proofs.Lev
