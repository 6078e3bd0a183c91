/- Quotients in order, plain: less-or-equal crosswise, sorted lists, the interval's places. -/
import Derived.Test.YtkklagdniaoghaaGreatDoorF1
namespace Go.Proofs.Rank
open Go.Proofs.Frac

/-- Less or equal, crosswise. -/
def le (a b : Nat × Nat) : Prop := a.1 * b.2 ≤ b.1 * a.2
instance (a b : Nat × Nat) : Decidable (le a b) := inferInstanceAs (Decidable (_ ≤ _))
theorem le_refl (a : Nat × Nat) : le a a := Nat.le_refl _
theorem le_total (a b : Nat × Nat) : le a b ∨ le b a := Nat.le_total _ _
theorem le_trans {a b c : Nat × Nat} (hb : 0 < b.2) (h1 : le a b) (h2 : le b c) : le a c := by
  unfold le at *
  refine Nat.le_of_mul_le_mul_left ?_ hb
  have e1 := Nat.mul_le_mul_right c.2 h1
  have e2 := Nat.mul_le_mul_right a.2 h2
  have e3 : b.2 * (a.1 * c.2) = a.1 * b.2 * c.2 := by rw [← Nat.mul_assoc, Nat.mul_comm b.2]
  have e4 : b.2 * (c.1 * a.2) = c.1 * b.2 * a.2 := by rw [← Nat.mul_assoc, Nat.mul_comm b.2]
  have e5 : b.1 * a.2 * c.2 = b.1 * c.2 * a.2 := Nat.mul_right_comm _ _ _
  omega
/-- In lowest terms. -/
def Red (a : Nat × Nat) : Prop := fr a.1 a.2 = a ∧ 0 < a.2
theorem red_fr (n d : Nat) : Red (fr n d) := by
  refine ⟨?_, fr_den _ _⟩
  by_cases hd : d = 0
  · rw [fr_zero (.inr hd)]
    decide
  · have h : fr (fr n d).1 (fr n d).2 = fr n d := fr_eq (fr_den _ _) (by omega) (fr_cross (by omega))
    exact h
theorem le_antisymm {a b : Nat × Nat} (ha : Red a) (hb : Red b) (h1 : le a b) (h2 : le b a) : a = b := by
  rw [← ha.1, ← hb.1]
  exact fr_eq ha.2 hb.2 (Nat.le_antisymm h1 h2)
/-- What comparing says. -/
def cmpQ (a b : Nat × Nat) : Int := if a.1 * b.2 < b.1 * a.2 then -1 else if b.1 * a.2 < a.1 * b.2 then 1 else 0
theorem cmpQ_pos (a b : Nat × Nat) : 0 < cmpQ a b ↔ ¬ le a b := by
  unfold cmpQ le
  generalize a.1 * b.2 = x
  generalize b.1 * a.2 = y
  split <;> (try split) <;> omega
theorem cmpQ_neg (a b : Nat × Nat) : cmpQ a b < 0 ↔ ¬ le b a := by
  unfold cmpQ le
  generalize a.1 * b.2 = x
  generalize b.1 * a.2 = y
  split <;> (try split) <;> omega
theorem cmpQ_swap (a b : Nat × Nat) : cmpQ b a = - cmpQ a b := by
  unfold cmpQ
  generalize a.1 * b.2 = x
  generalize b.1 * a.2 = y
  split <;> (try split) <;> (try split) <;> omega
theorem cmpQ_self (a : Nat × Nat) : cmpQ a a = 0 := by
  unfold cmpQ
  simp
theorem cmpQ_cases (a b : Nat × Nat) : cmpQ a b = -1 ∨ cmpQ a b = 0 ∨ cmpQ a b = 1 := by
  unfold cmpQ
  split
  · exact .inl rfl
  · split
    · exact .inr (.inr rfl)
    · exact .inr (.inl rfl)
/-- Sorted, and all in lowest terms. -/
def Up (l : List (Nat × Nat)) : Prop := l.Pairwise le ∧ ∀ a ∈ l, Red a
theorem up_nil : Up [] := ⟨.nil, fun _ h => by cases h⟩
theorem up_eq {l m : List (Nat × Nat)} (hl : Up l) (hm : Up m) (h : l.Perm m) : l = m :=
  List.Perm.eq_of_pairwise (le := le) (fun a b ha hb h1 h2 => le_antisymm (hl.2 a ha) (hm.2 b hb) h1 h2) hl.1 hm.1 h
/-- A number put in its place. -/
theorem up_put {l : List (Nat × Nat)} {x : Nat × Nat} (hl : Up l) (hx : Red x) {k : Nat} (hk : k ≤ l.length) (h1 : ∀ (h : 0 < k), le (l[k - 1]'(by omega)) x) (h2 : ∀ i (h : i < l.length), k ≤ i → le x l[i]) : Up (l.take k ++ x :: l.drop k) := by
  refine ⟨?_, fun a ha => ?_⟩
  · rw [List.pairwise_append]
    refine ⟨List.Pairwise.sublist (List.take_sublist _ _) hl.1, ?_, ?_⟩
    · rw [List.pairwise_cons]
      refine ⟨fun a ha => ?_, List.Pairwise.sublist (List.drop_sublist _ _) hl.1⟩
      obtain ⟨i, hi, rfl⟩ := List.mem_iff_getElem.1 ha
      rw [List.getElem_drop]
      exact h2 _ _ (by omega)
    · intro a ha b hb
      obtain ⟨i, hi, rfl⟩ := List.mem_iff_getElem.1 ha
      rw [List.getElem_take]
      rw [List.length_take] at hi
      have hax : le (l[i]'(by omega)) x := by
        by_cases e : i = k - 1
        · subst e
          exact h1 (by omega)
        · exact le_trans (hl.2 _ (List.getElem_mem _)).2 (List.pairwise_iff_getElem.1 hl.1 i (k - 1) (by omega) (by omega) (by omega)) (h1 (by omega))
      rcases List.mem_cons.1 hb with rfl | hb
      · exact hax
      · obtain ⟨j, hj, rfl⟩ := List.mem_iff_getElem.1 hb
        rw [List.getElem_drop]
        rw [List.length_drop] at hj
        exact List.pairwise_iff_getElem.1 hl.1 i (k + j) (by omega) (by omega) (by omega)
  · rcases List.mem_append.1 ha with h | h
    · exact hl.2 a (List.mem_of_mem_take h)
    · rcases List.mem_cons.1 h with rfl | h
      · exact hx
      · exact hl.2 a (List.mem_of_mem_drop h)
theorem put_perm (l : List (Nat × Nat)) (x : Nat × Nat) (k : Nat) : (l.take k ++ x :: l.drop k).Perm (l ++ [x]) := by
  refine List.perm_middle.trans ?_
  rw [List.take_append_drop]
  exact (List.perm_append_singleton x l).symm
theorem up_le {l : List (Nat × Nat)} (h : Up l) {i j : Nat} (hij : i ≤ j) (hj : j < l.length) : le (l[i]'(by omega)) l[j] := by
  by_cases e : i = j
  · subst e; exact le_refl _
  · exact List.pairwise_iff_getElem.1 h.1 i j (by omega) hj (by omega)
/-- Many of a sorted list lie between the k-th and the k-th from behind. -/
theorem inside_many {l : List (Nat × Nat)} (h : Up l) {k : Nat} (hk : 2 * k < l.length) :
    l.length - 2 * k ≤ l.countP (fun x => decide (le (l[k]'(by omega)) x) && decide (le x (l[l.length - 1 - k]'(by omega)))) := by
  have hs : ((l.drop k).take (l.length - 2 * k)).Sublist l := (List.take_sublist _ _).trans (List.drop_sublist _ _)
  have h1 := hs.countP_le (p := fun x => decide (le (l[k]'(by omega)) x) && decide (le x (l[l.length - 1 - k]'(by omega))))
  have h2 : ((l.drop k).take (l.length - 2 * k)).countP (fun x => decide (le (l[k]'(by omega)) x) && decide (le x (l[l.length - 1 - k]'(by omega)))) = ((l.drop k).take (l.length - 2 * k)).length := by
    rw [List.countP_eq_length]
    intro x hx
    obtain ⟨i, hi, rfl⟩ := List.mem_iff_getElem.1 hx
    rw [List.length_take, List.length_drop] at hi
    rw [List.getElem_take, List.getElem_drop]
    have e1 := up_le h (i := k) (j := k + i) (by omega) (by omega)
    have e2 := up_le h (i := k + i) (j := l.length - 1 - k) (by omega) (by omega)
    simp [e1, e2]
  rw [h2, List.length_take, List.length_drop] at h1
  omega
/-- The place of the interval's low end. -/
def place (n out : Nat) : Nat := n * out / 1000
theorem place_half {n out : Nat} (hn : 0 < n) (ho : out ≤ 499) : 2 * place n out < n := by
  unfold place
  have h : n * out ≤ n * 499 := Nat.mul_le_mul_left n ho
  generalize n * out = x at *
  omega
theorem place_mono {n o1 o2 : Nat} (h : o1 ≤ o2) : place n o1 ≤ place n o2 := Nat.div_le_div_right (Nat.mul_le_mul_left n h)

/-! ### parts and draws -/
def badP (x : Int × Int) : Bool := decide (x.1 < 0 ∨ 1000000 < x.1 ∨ x.2 < 0 ∨ 1000000 < x.2)
def badI (n : Nat) (x : Int) : Bool := decide (x < 0 ∨ (n : Int) ≤ x)
def badD (n : Nat) (d : List Int) : Bool := decide (d.length = 0 ∨ 256 < d.length) || d.any (badI n)
/-- The error's number of parts and draws. -/
def sampE (ps : List (Int × Int)) (ds : List (List Int)) : Nat :=
  if ps.length = 0 ∨ ps.any badP = true then 1
  else if 256 < ps.length then 3
  else if ds.length = 0 then 1
  else if 1000 < ds.length then 3
  else if ds.any (badD ps.length) = true then 1
  else 0
/-- What a part adds. -/
def pN (ps : List (Int × Int)) (i : Int) : Nat := (ps.getD i.toNat (0, 0)).1.toNat
def pD (ps : List (Int × Int)) (i : Int) : Nat := (ps.getD i.toNat (0, 0)).2.toNat
def sumN (f : Int → Nat) (d : List Int) : Nat := (d.map f).sum
def sc (ps : List (Int × Int)) (d : List Int) : Nat × Nat := fr (sumN (pN ps) d) (sumN (pD ps) d)
theorem sumN_take (f : Int → Nat) (d : List Int) {i : Nat} (h : i < d.length) : sumN f (d.take (i + 1)) = sumN f (d.take i) + f d[i] := by
  unfold sumN
  rw [List.take_succ_eq_append_getElem h, List.map_append, List.sum_append]
  simp
structure OkS (ps : List (Int × Int)) (ds : List (List Int)) : Prop where
  np : 0 < ps.length
  pp : ∀ p ∈ ps, 0 ≤ p.1 ∧ p.1 ≤ 1000000 ∧ 0 ≤ p.2 ∧ p.2 ≤ 1000000
  lp : ps.length ≤ 256
  nd : 0 < ds.length
  ld : ds.length ≤ 1000
  dd : ∀ d ∈ ds, 0 < d.length ∧ d.length ≤ 256 ∧ ∀ x ∈ d, 0 ≤ x ∧ x < (ps.length : Int)
theorem okS_of {ps : List (Int × Int)} {ds : List (List Int)} (h : sampE ps ds = 0) : OkS ps ds := by
  unfold sampE at h
  split at h; · cases h
  rename_i h1
  split at h; · cases h
  rename_i h2
  split at h; · cases h
  rename_i h3
  split at h; · cases h
  rename_i h4
  split at h; · cases h
  rename_i h5
  refine ⟨by omega, fun p hp => ?_, by omega, by omega, by omega, fun d hd => ?_⟩
  · have hb : badP p = false := by
      cases e : badP p with
      | false => rfl
      | true => exact absurd (List.any_eq_true.2 ⟨p, hp, e⟩) (fun e => h1 (.inr e))
    unfold badP at hb
    have hb := of_decide_eq_false hb
    omega
  · have hb : badD ps.length d = false := by
      cases e : badD ps.length d with
      | false => rfl
      | true => exact absurd (List.any_eq_true.2 ⟨d, hd, e⟩) h5
    unfold badD at hb
    rw [Bool.or_eq_false_iff] at hb
    have hb1 := of_decide_eq_false hb.1
    refine ⟨by omega, by omega, fun x hx => ?_⟩
    have hx1 : badI ps.length x = false := by
      cases e : badI ps.length x with
      | false => rfl
      | true => rw [List.any_eq_true.2 ⟨x, hx, e⟩] at hb; cases hb.2
    unfold badI at hx1
    have := of_decide_eq_false hx1
    omega
theorem sampE_le (ps : List (Int × Int)) (ds : List (List Int)) : sampE ps ds ≤ 3 := by
  unfold sampE
  split; · decide
  split; · decide
  split; · decide
  split; · decide
  split; · decide
  decide
theorem getD_at {α : Type} {l : List α} {i : Nat} {x : α} (h : i < l.length) : l.getD i x = l[i] := by simp [List.getD, h]
theorem sum_le {f : Int → Nat} {B : Nat} : ∀ (d : List Int), (∀ x ∈ d, f x ≤ B) → sumN f d ≤ d.length * B
  | [], _ => Nat.zero_le _
  | x :: d, h => by
    have h1 := sum_le d (fun y hy => h y (List.mem_cons_of_mem _ hy))
    have h2 := h x (List.mem_cons_self ..)
    unfold sumN at *
    rw [List.map_cons, List.sum_cons, List.length_cons, Nat.succ_mul]
    omega
theorem part_le {ps : List (Int × Int)} {ds : List (List Int)} (h : OkS ps ds) {x : Int} : pN ps x ≤ 1000000 ∧ pD ps x ≤ 1000000 := by
  unfold pN pD
  by_cases hx : x.toNat < ps.length
  · rw [getD_at hx]
    have := h.pp _ (List.getElem_mem hx)
    omega
  · have e : ps.getD x.toNat (0, 0) = (0, 0) := by simp [List.getD, Nat.le_of_not_lt hx]
    rw [e]
    decide
theorem sum_small {ps : List (Int × Int)} {ds : List (List Int)} (h : OkS ps ds) (d : List Int) (hd : d.length ≤ 256) : sumN (pN ps) d ≤ 256000000 ∧ sumN (pD ps) d ≤ 256000000 := by
  have h1 := sum_le (f := pN ps) (B := 1000000) d (fun x _ => (part_le h).1)
  have h2 := sum_le (f := pD ps) (B := 1000000) d (fun x _ => (part_le h).2)
  omega
theorem sc_small {ps : List (Int × Int)} {ds : List (List Int)} (h : OkS ps ds) (d : List Int) (hd : d.length ≤ 256) : (sc ps d).1 ≤ 256000000 ∧ (sc ps d).2 ≤ 256000000 ∧ 0 < (sc ps d).2 := by
  obtain ⟨h1, h2⟩ := sum_small h d hd
  refine ⟨Nat.le_trans (fr_num_le _ _) h1, ?_, fr_den _ _⟩
  unfold sc
  by_cases e : sumN (pD ps) d = 0
  · rw [fr_zero (.inr e)]
    decide
  · exact Nat.le_trans (fr_den_le (by omega)) h2
theorem sc_red (ps : List (Int × Int)) (d : List Int) : Red (sc ps d) := red_fr _ _
/-- Better and worse. -/
def more (a b : List (Int × Int)) (ds : List (List Int)) : Nat := ds.countP fun d => decide (0 < cmpQ (sc a d) (sc b d))
theorem more_both (a b : List (Int × Int)) (ds : List (List Int)) : more a b ds + more b a ds ≤ ds.length := by
  unfold more
  induction ds with
  | nil => exact Nat.le_refl _
  | cons d ds ih =>
    rw [List.countP_cons, List.countP_cons, List.length_cons, cmpQ_swap (sc a d) (sc b d)]
    generalize cmpQ (sc a d) (sc b d) = c
    by_cases h1 : 0 < c
    · have h2 : ¬ 0 < -c := by omega
      rw [decide_eq_true h1, decide_eq_false h2]
      simp only [if_true, Bool.false_eq_true, if_false]
      omega
    · rw [decide_eq_false h1]
      simp only [Bool.false_eq_true, if_false]
      split <;> omega
theorem more_self (a : List (Int × Int)) (ds : List (List Int)) : more a a ds = 0 := by
  unfold more
  rw [List.countP_eq_zero]
  intro d _
  rw [cmpQ_self]
  decide
/-- Better's error. -/
def betE (a b : List (Int × Int)) (ds : List (List Int)) : Nat :=
  if sampE a ds ≠ 0 then sampE a ds else if sampE b ds ≠ 0 then sampE b ds else if a.length ≠ b.length then 1 else 0
/-- Interval's error. -/
def ivlE (a : List (Int × Int)) (ds : List (List Int)) (out : Int) : Nat :=
  if sampE a ds ≠ 0 then sampE a ds else if out < 0 ∨ 499 < out then 1 else 0
/-- L is the sorted list of the scores. -/
def Ranks (a : List (Int × Int)) (ds : List (List Int)) (L : List (Nat × Nat)) : Prop := Up L ∧ L.Perm (ds.map (sc a))
theorem ranks_one {a : List (Int × Int)} {ds : List (List Int)} {L M : List (Nat × Nat)} (h1 : Ranks a ds L) (h2 : Ranks a ds M) : L = M := up_eq h1.1 h2.1 (h1.2.trans h2.2.symm)
theorem ranks_len {a : List (Int × Int)} {ds : List (List Int)} {L : List (Nat × Nat)} (h : Ranks a ds L) : L.length = ds.length := by
  have := h.2.length_eq
  simpa using this
theorem ranks_nil (a : List (Int × Int)) : Ranks a [] [] := ⟨up_nil, List.Perm.refl _⟩
theorem ranks_put {a : List (Int × Int)} {ds : List (List Int)} {L : List (Nat × Nat)} (h : Ranks a ds L) (d : List Int) {k : Nat} (hk : k ≤ L.length) (h1 : ∀ (h : 0 < k), le (L[k - 1]'(by omega)) (sc a d)) (h2 : ∀ i (h : i < L.length), k ≤ i → le (sc a d) L[i]) : Ranks a (ds ++ [d]) (L.take k ++ sc a d :: L.drop k) := by
  refine ⟨up_put h.1 (sc_red a d) hk h1 h2, (put_perm _ _ _).trans ?_⟩
  rw [List.map_append]
  exact List.Perm.append h.2 (List.Perm.refl _)
end Go.Proofs.Rank
