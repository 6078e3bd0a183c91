/- What the law ChecksNarrow leans on, plain. -/
import Derived.Test.YtkklagdniaoghaaGreatDoorPB
namespace Go.Proofs.YtkklagdniaoghaaGreatDoor
open Go.Proofs.Rank Go.Sort
open Go.Proofs.Frac (fr)

theorem cmp_le {x y : Nat × Nat} (h : le x y) : cmpQ x y ≤ 0 := Int.not_lt.1 (fun h2 => (cmpQ_pos x y).1 h2 h)
/-- How many scores lie between two. -/
def inC (a : List (Int × Int)) (lo hi : Nat × Nat) (ds : List (List Int)) : Nat := ds.countP fun d => decide (cmpQ lo (sc a d) ≤ 0) && decide (cmpQ (sc a d) hi ≤ 0)
theorem inC_take (a : List (Int × Int)) (lo hi : Nat × Nat) (ds : List (List Int)) {I : Nat} (h : I < ds.length) : inC a lo hi (ds.take (I + 1)) = inC a lo hi (ds.take I) + (if cmpQ lo (sc a ds[I]) ≤ 0 ∧ cmpQ (sc a ds[I]) hi ≤ 0 then 1 else 0) := by
  unfold inC
  rw [List.take_succ_eq_append_getElem h, List.countP_append]
  simp [List.countP_cons]
theorem cmp_iff (x y : Nat × Nat) : cmpQ x y ≤ 0 ↔ le x y := by
  have := cmpQ_pos x y
  constructor
  · intro h
    exact Decidable.of_not_not (fun h2 => by have := this.2 h2; omega)
  · exact cmp_le
theorem getD_L {L : List (Nat × Nat)} {i : Nat} (h : i < L.length) : L.getD i (0, 0) = L[i] := by simp [List.getD, h]
/-- What a good interval is. -/
structure Nar (a : List (Int × Int)) (ds : List (List Int)) (O : Nat) (lo hi : Nat × Nat) : Prop where
  row : ∃ L, Ranks a ds L ∧ lo = L.getD (place ds.length O) (0, 0) ∧ hi = L.getD (ds.length - 1 - place ds.length O) (0, 0)
  ok : OkS a ds
  half : O ≤ 499
variable {a : List (Int × Int)} {ds : List (List Int)} {O M : Nat} {lo hi lo' hi' : Nat × Nat}
theorem Nar.order (h : Nar a ds O lo hi) : cmpQ lo hi ≤ 0 := by
  obtain ⟨⟨L, hR, rfl, rfl⟩, hk, ho⟩ := h
  have hl := ranks_len hR
  have h2 := place_half hk.nd ho
  rw [getD_L (by omega), getD_L (by omega)]
  exact cmp_le (up_le hR.1 (by omega) (by omega))
theorem Nar.inside (h : Nar a ds O lo hi) : ds.length - 2 * place ds.length O ≤ inC a lo hi ds := by
  obtain ⟨⟨L, hR, rfl, rfl⟩, hk, ho⟩ := h
  have hl := ranks_len hR
  have h2 := place_half hk.nd ho
  have h3 := inside_many hR.1 (k := place ds.length O) (by omega)
  rw [hR.2.countP_eq, List.countP_map] at h3
  simp only [hl] at h3
  rw [getD_L (by omega), getD_L (by omega)]
  refine Nat.le_trans h3 (Nat.le_of_eq ?_)
  unfold inC
  refine List.countP_congr (fun d _ => ?_)
  simp only [Function.comp, Bool.and_eq_true, decide_eq_true_eq, cmp_iff]
theorem Nar.more (h : Nar a ds O lo hi) (h' : Nar a ds M lo' hi') (hm : O ≤ M) : cmpQ lo lo' ≤ 0 ∧ cmpQ hi' hi ≤ 0 := by
  obtain ⟨⟨L, hR, rfl, rfl⟩, hk, ho⟩ := h
  obtain ⟨⟨L', hR', rfl, rfl⟩, _, hM⟩ := h'
  obtain rfl := ranks_one hR hR'
  have hl := ranks_len hR
  have h2 := place_half hk.nd ho
  have h3 := place_half hk.nd hM
  have h4 := place_mono (n := ds.length) hm
  rw [getD_L (by omega), getD_L (by omega), getD_L (by omega), getD_L (by omega)]
  exact ⟨cmp_le (up_le hR.1 h4 (by omega)), cmp_le (up_le hR.1 (by omega) (by omega))⟩
theorem Nar.small (h : Nar a ds O lo hi) : (lo.1 ≤ 256000000 ∧ 0 < lo.2 ∧ lo.2 ≤ 256000000) ∧ (hi.1 ≤ 256000000 ∧ 0 < hi.2 ∧ hi.2 ≤ 256000000) := by
  obtain ⟨⟨L, hR, rfl, rfl⟩, hk, ho⟩ := h
  have hl := ranks_len hR
  have h2 := place_half hk.nd ho
  have hs : ∀ q ∈ L, q.1 ≤ 256000000 ∧ 0 < q.2 ∧ q.2 ≤ 256000000 := fun q hq => by
    obtain ⟨d, hd, rfl⟩ := List.mem_map.1 (hR.2.mem_iff.1 hq)
    obtain ⟨h1, h2, h3⟩ := sc_small hk d (hk.dd d hd).2.1
    exact ⟨h1, h3, h2⟩
  rw [getD_L (by omega), getD_L (by omega)]
  exact ⟨hs _ (List.getElem_mem _), hs _ (List.getElem_mem _)⟩
theorem sc_sm (hk : OkS a ds) {I : Nat} (hI : I < ds.length) : (sc a ds[I]).1 ≤ 256000000 ∧ 0 < (sc a ds[I]).2 ∧ (sc a ds[I]).2 ≤ 256000000 := by
  obtain ⟨h1, h2, h3⟩ := sc_small hk ds[I] (hk.dd _ (List.getElem_mem hI)).2.1
  exact ⟨h1, h3, h2⟩
/-- Each part once, from behind. -/
def onceL (n k : Nat) : List Int := (List.range k).map fun i : Nat => ((n : Int) - 1 - (i : Int))
theorem onceL_succ (n k : Nat) : onceL n (k + 1) = onceL n k ++ [(n : Int) - 1 - (k : Int)] := by
  unfold onceL
  rw [List.range_succ, List.map_append]
  rfl
theorem onceL_len (n k : Nat) : (onceL n k).length = k := by unfold onceL; simp
theorem onceL_mem {n : Nat} {x : Int} (h : x ∈ onceL n n) : 0 ≤ x ∧ x < (n : Int) := by
  unfold onceL at h
  obtain ⟨i, hi, rfl⟩ := List.mem_map.1 h
  have := List.mem_range.1 hi
  omega
theorem once_good (hk : OkS a ds) : sampE a [onceL a.length a.length, onceL a.length a.length, onceL a.length a.length] = 0 := by
  have hn := hk.np
  have hl := hk.lp
  have h1 : a.any badP = false := by
    rw [List.any_eq_false]
    intro p hp
    have := hk.pp p hp
    unfold badP
    rw [decide_eq_true_eq]
    omega
  have h2 : badD a.length (onceL a.length a.length) = false := by
    unfold badD
    rw [Bool.or_eq_false_iff, onceL_len]
    refine ⟨decide_eq_false (by omega), ?_⟩
    rw [List.any_eq_false]
    intro x hx
    have := onceL_mem hx
    unfold badI
    rw [decide_eq_true_eq]
    omega
  unfold sampE
  rw [if_neg (by rw [h1]; simp; exact List.ne_nil_of_length_pos hn), if_neg (by omega), if_neg (by simp), if_neg (by simp), if_neg (by simp [h2])]
theorem once_ivl (hk : OkS a ds) (O : Nat) (h : O ≤ 499) : ivlE a [onceL a.length a.length, onceL a.length a.length, onceL a.length a.length] (O : Int) = 0 := by
  unfold ivlE
  rw [once_good hk, if_neg (by decide), if_neg (by omega)]
theorem once_one {O : Nat} (h : O ≤ 499) (hL : ∃ L, Ranks a [onceL a.length a.length, onceL a.length a.length, onceL a.length a.length] L ∧ lo = L.getD (place 3 O) (0, 0) ∧ hi = L.getD (3 - 1 - place 3 O) (0, 0)) :
    lo = sc a (onceL a.length a.length) ∧ hi = sc a (onceL a.length a.length) := by
  obtain ⟨L, hR, rfl, rfl⟩ := hL
  generalize onceL a.length a.length = o at *
  have hl := ranks_len hR
  have hall : ∀ q ∈ L, q = sc a o := fun q hq => by
    obtain ⟨d, hd, rfl⟩ := List.mem_map.1 (hR.2.mem_iff.1 hq)
    simp only [List.mem_cons, List.not_mem_nil, or_false] at hd
    rcases hd with rfl | rfl | rfl <;> rfl
  have hp : place 3 O ≤ 1 := by unfold place; omega
  have h3 : L.length = 3 := hl
  rw [getD_L (by omega), getD_L (by omega)]
  exact ⟨hall _ (List.getElem_mem _), hall _ (List.getElem_mem _)⟩
theorem once_ok (hk : OkS a ds) : OkQ a (onceL a.length a.length) := ⟨hk.pp, by rw [onceL_len]; exact hk.lp, fun _ hx => onceL_mem hx⟩
variable {b : List (Int × Int)}
theorem bet_both (h : sampE a ds = 0) : betE a b ds ≠ 0 ↔ betE b a ds ≠ 0 := by
  by_cases h2 : sampE b ds = 0
  · by_cases h3 : a.length = b.length
    · rw [betE_0 h h2 h3, betE_0 h2 h h3.symm]
    · rw [betE_3 h h2 h3, betE_3 h2 h (Ne.symm h3)]
  · rw [betE_2 h h2, betE_1 h2]
theorem bet_self (h : sampE a ds = 0) : betE a a ds = 0 := betE_0 h h rfl
end Go.Proofs.YtkklagdniaoghaaGreatDoor
