import Derived.Test.YtcniiphmepgfeaaA2
/- plain laws: what a valid model is -/
namespace Go.Proofs.Ytcniiphmepgfeaa
open Go.RowKit

theorem bytesLess_trans : ∀ a b c : List UInt8, Op.bytesLess a b = true → Op.bytesLess b c = true → Op.bytesLess a c = true
  | _, [], _, h, _ => by simp [Op.bytesLess] at h
  | _, _ :: _, [], _, h => by simp [Op.bytesLess] at h
  | [], _ :: _, _ :: _, _, _ => rfl
  | x :: a, y :: b, z :: c, h1, h2 => by
    simp only [Op.bytesLess, Bool.or_eq_true, decide_eq_true_eq, Bool.and_eq_true, beq_iff_eq] at *
    rcases h1 with h1 | ⟨rfl, h1⟩
    · rcases h2 with h2 | ⟨rfl, h2⟩
      · exact .inl (UInt8.lt_trans h1 h2)
      · exact .inl h1
    · rcases h2 with h2 | ⟨rfl, h2⟩
      · exact .inl h2
      · exact .inr ⟨rfl, bytesLess_trans a b c h1 h2⟩
def lessS (a b : ByteArray) : Prop := Op.bytesLess a.toList b.toList = true
def eqS (a b : ByteArray) : Prop := (a.toList == b.toList) = true
theorem lessS_trans {a b c : ByteArray} (h : lessS a b) (h' : lessS b c) : lessS a c := bytesLess_trans _ _ _ h h'
theorem lessS_ne {a b : ByteArray} (h : lessS a b) : a ≠ b := by
  rintro rfl
  unfold lessS at h
  rw [bytesLess_irrefl] at h
  cases h
theorem eqS_iff {a b : ByteArray} : (a.toList == b.toList) = true ↔ a = b := by
  rw [beq_iff_eq]
  constructor
  · intro h; rw [ByteArray.toList_eq, ByteArray.toList_eq] at h; exact WideShapes.bytes_inj h
  · rintro rfl; rfl
theorem eqS_false {a b : ByteArray} : (a.toList == b.toList) = false ↔ a ≠ b := by
  rw [← Bool.not_eq_true, eqS_iff]

structure Valid (m : Mdl) : Prop where
  unknown : 0 ≤ m.unknown ∧ m.unknown ≤ 10000
  words : ∀ x ∈ m.words, x.word.size ≤ 24 ∧ 0 ≤ x.cost ∧ x.cost ≤ 10000 ∧ 0 ≤ x.back ∧ x.back ≤ 10000
  pairs : ∀ x ∈ m.pairs, x.first.size ≤ 24 ∧ x.second.size ≤ 24 ∧ 0 ≤ x.cost ∧ x.cost ≤ 10000
  wu : ∀ i j (hi : i < m.words.length) (hj : j < m.words.length), i < j → m.words[i].word ≠ m.words[j].word
  pu : ∀ i j (hi : i < m.pairs.length) (hj : j < m.pairs.length), i < j → ¬ (m.pairs[i].first = m.pairs[j].first ∧ m.pairs[i].second = m.pairs[j].second)
  lw : m.words.length ≤ 512
  lp : m.pairs.length ≤ 2048


theorem costB_iff {n : Int} : costB n = true ↔ 0 ≤ n ∧ n ≤ 10000 := by simp [costB]
theorem endB_size {s : ByteArray} (h : endB s = true) : s.size ≤ 24 := by
  unfold endB wordB at h
  simp only [Bool.or_eq_true, Bool.and_eq_true, decide_eq_true_eq] at h
  rcases h with h | h
  · rw [ByteArray.toList_eq] at h
    have : s.data.toList.length = 0 := by rw [List.isEmpty_iff.1 h]; rfl
    have h2 : s.size = s.data.toList.length := by simp
    omega
  · exact h.1.2
theorem firstErr_zero {f : Nat → Int} : ∀ n i, firstErr f n i = 0 → ∀ j, i ≤ j → j < i + n → f j = 0
  | 0, _, _, j, h1, h2 => by omega
  | n + 1, i, h, j, h1, h2 => by
    unfold firstErr at h
    by_cases e : f i = 0
    · rw [if_pos e] at h
      by_cases hj : j = i
      · rw [hj]; exact e
      · exact firstErr_zero n (i + 1) h j (by omega) (by omega)
    · rw [if_neg e] at h; exact absurd h e
theorem adj_trans {R : Nat → Nat → Prop} (htr : ∀ a b c, R a b → R b c → R a c) {n : Nat} (h : ∀ i, i + 1 < n → R i (i + 1)) : ∀ d i, i + d + 1 < n → R i (i + d + 1)
  | 0, i, hi => h i hi
  | d + 1, i, hi => htr _ _ _ (adj_trans htr h d i (by omega)) (h (i + d + 1) (by omega))

theorem valid_of_chk {m : Mdl} (h : chk m = 0) : Valid m := by
  unfold chk at h
  by_cases hu : costB m.unknown = false
  · rw [if_pos hu] at h; cases h
  rw [if_neg hu] at h
  by_cases hl : 512 < m.words.length ∨ 2048 < m.pairs.length
  · rw [if_pos hl] at h; cases h
  rw [if_neg hl] at h
  by_cases hw : firstErr (wErr m.words) m.words.length 0 = 0
  case neg => rw [if_neg hw] at h; exact absurd h hw
  rw [if_pos hw] at h
  have hW : ∀ j, j < m.words.length → wErr m.words j = 0 := fun j hj => firstErr_zero _ _ hw j (by omega) (by omega)
  have hP : ∀ j, j < m.pairs.length → pErr m.pairs j = 0 := fun j hj => firstErr_zero _ _ h j (by omega) (by omega)
  have badw : ∀ j (hj : j < m.words.length), badW m.words[j] = false := fun j hj => by
    have := hW j hj
    unfold wErr at this
    rw [List.getElem?_eq_getElem hj] at this
    cases e : badW m.words[j]
    · rfl
    · simp [e] at this
  have badp : ∀ j (hj : j < m.pairs.length), badP m.pairs[j] = false := fun j hj => by
    have := hP j hj
    unfold pErr at this
    rw [List.getElem?_eq_getElem hj] at this
    cases e : badP m.pairs[j]
    · rfl
    · simp [e] at this
  have adjw : ∀ j, (hj : j + 1 < m.words.length) → lessS m.words[j].word m.words[j + 1].word := fun j hj => by
    have := hW (j + 1) hj
    unfold wErr at this
    rw [List.getElem?_eq_getElem hj] at this
    simp only [badw (j + 1) hj, Bool.false_eq_true, if_false, eqB, gtB, List.getElem?_eq_getElem (show j < m.words.length by omega)] at this
    unfold lessS
    cases e1 : Op.bytesLess m.words[j].word.toList m.words[j + 1].word.toList
    · cases e2 : (m.words[j].word.toList == m.words[j + 1].word.toList) <;> simp [e1, e2] at this
    · rfl
  have adjp : ∀ j, (hj : j + 1 < m.pairs.length) → lessS m.pairs[j].first m.pairs[j + 1].first ∨ (m.pairs[j].first = m.pairs[j + 1].first ∧ lessS m.pairs[j].second m.pairs[j + 1].second) := fun j hj => by
    have := hP (j + 1) hj
    unfold pErr at this
    rw [List.getElem?_eq_getElem hj] at this
    simp only [badp (j + 1) hj, Bool.false_eq_true, if_false, List.getElem?_eq_getElem (show j < m.pairs.length by omega)] at this
    rw [← eqS_iff]
    unfold lessS
    generalize Op.bytesLess m.pairs[j].first.toList m.pairs[j + 1].first.toList = l1 at *
    generalize (m.pairs[j].first.toList == m.pairs[j + 1].first.toList) = e1 at *
    generalize Op.bytesLess m.pairs[j].second.toList m.pairs[j + 1].second.toList = l2 at *
    generalize (m.pairs[j].second.toList == m.pairs[j + 1].second.toList) = e2 at *
    revert this
    cases l1 <;> cases e1 <;> cases l2 <;> cases e2 <;> simp [pB]
  refine ⟨?_, fun x hx => ?_, fun x hx => ?_, fun i j hi hj hij => ?_, fun i j hi hj hij => ?_, by omega, by omega⟩
  · exact costB_iff.1 (by simpa using hu)
  · obtain ⟨j, hj, rfl⟩ := List.mem_iff_getElem.1 hx
    have hb := badw j hj
    simp only [badW, Bool.or_eq_false_iff, Bool.not_eq_false'] at hb
    exact ⟨endB_size hb.1.1, (costB_iff.1 hb.1.2).1, (costB_iff.1 hb.1.2).2, (costB_iff.1 hb.2).1, (costB_iff.1 hb.2).2⟩
  · obtain ⟨j, hj, rfl⟩ := List.mem_iff_getElem.1 hx
    have hb := badp j hj
    simp only [badP, Bool.or_eq_false_iff, Bool.not_eq_false'] at hb
    exact ⟨endB_size hb.1.1, endB_size hb.1.2, (costB_iff.1 hb.2).1, (costB_iff.1 hb.2).2⟩
  · have hf : ∀ i, (h : i < m.words.length) → (m.words.getD i ⟨.empty, 0, 0⟩) = m.words[i] := fun i h => by simp [List.getD, h]
    have := adj_trans (R := fun a b => lessS (m.words.getD a ⟨.empty, 0, 0⟩).word (m.words.getD b ⟨.empty, 0, 0⟩).word) (n := m.words.length) (fun a b c h1 h2 => lessS_trans h1 h2)
      (fun a ha => by rw [hf a (by omega), hf (a + 1) ha]; exact adjw a ha) (j - i - 1) i (by omega)
    rw [show i + (j - i - 1) + 1 = j by omega, hf i hi, hf j hj] at this
    exact lessS_ne this
  · have hf : ∀ i, (h : i < m.pairs.length) → (m.pairs.getD i ⟨.empty, .empty, 0⟩) = m.pairs[i] := fun i h => by simp [List.getD, h]
    have := adj_trans (R := fun a b => lessS (m.pairs.getD a ⟨.empty, .empty, 0⟩).first (m.pairs.getD b ⟨.empty, .empty, 0⟩).first ∨
        ((m.pairs.getD a ⟨.empty, .empty, 0⟩).first = (m.pairs.getD b ⟨.empty, .empty, 0⟩).first ∧ lessS (m.pairs.getD a ⟨.empty, .empty, 0⟩).second (m.pairs.getD b ⟨.empty, .empty, 0⟩).second)) (n := m.pairs.length)
      (fun a b c h1 h2 => by
        rcases h1 with h1 | ⟨h1, h3⟩
        · rcases h2 with h2 | ⟨h2, h4⟩
          · exact .inl (lessS_trans h1 h2)
          · exact .inl (h2 ▸ h1)
        · rcases h2 with h2 | ⟨h2, h4⟩
          · exact .inl (h1 ▸ h2)
          · exact .inr ⟨h1.trans h2, lessS_trans h3 h4⟩)
      (fun a ha => by rw [hf a (by omega), hf (a + 1) ha]; exact adjp a ha) (j - i - 1) i (by omega)
    rw [show i + (j - i - 1) + 1 = j by omega, hf i hi, hf j hj] at this
    rintro ⟨e1, e2⟩
    rcases this with h1 | ⟨_, h1⟩
    · exact lessS_ne h1 e1
    · exact lessS_ne h1 e2

/-! ### steps and scores -/
def isP (a b : ByteArray) (x : BiD) : Bool := decide (x.first = a) && decide (x.second = b)
def isW (a : ByteArray) (x : UniD) : Bool := decide (x.word = a)
def backM (m : Mdl) (a : ByteArray) : Int := match m.words.find? (isW a) with | some x => x.back | none => 0
def oneM (m : Mdl) (b : ByteArray) : Int := match m.words.find? (isW b) with | some x => x.cost | none => m.unknown
def stepM (m : Mdl) (a b : ByteArray) : Int := match m.pairs.find? (isP a b) with | some x => x.cost | none => backM m a + oneM m b
/-- the word in front of place k -/
def lastOf (ws : List ByteArray) : Nat → ByteArray
  | 0 => .empty
  | k + 1 => ws.getD k .empty
/-- the sum over the first k words -/
def sumTo (m : Mdl) (ws : List ByteArray) : Nat → Int
  | 0 => 0
  | k + 1 => sumTo m ws k + stepM m (lastOf ws k) (ws.getD k .empty)
def totalM (m : Mdl) (ws : List ByteArray) : Int := sumTo m ws ws.length + stepM m (lastOf ws ws.length) .empty
/-- back and one over the first k words -/
def backT (m : Mdl) (a : ByteArray) (k : Nat) : Int := match (m.words.take k).find? (isW a) with | some x => x.back | none => 0
def oneT (m : Mdl) (b : ByteArray) (k : Nat) : Int := match (m.words.take k).find? (isW b) with | some x => x.cost | none => m.unknown

theorem backM_bd {m : Mdl} (h : Valid m) (a : ByteArray) : 0 ≤ backM m a ∧ backM m a ≤ 10000 := by
  unfold backM
  cases e : m.words.find? (isW a) with
  | none => simp
  | some x => have := h.words x (List.mem_of_find?_eq_some e); exact ⟨this.2.2.2.1, this.2.2.2.2⟩
theorem oneM_bd {m : Mdl} (h : Valid m) (a : ByteArray) : 0 ≤ oneM m a ∧ oneM m a ≤ 10000 := by
  unfold oneM
  cases e : m.words.find? (isW a) with
  | none => exact h.unknown
  | some x => have := h.words x (List.mem_of_find?_eq_some e); exact ⟨this.2.1, this.2.2.1⟩
theorem stepM_bd {m : Mdl} (h : Valid m) (a b : ByteArray) : 0 ≤ stepM m a b ∧ stepM m a b ≤ 20000 := by
  unfold stepM
  cases e : m.pairs.find? (isP a b) with
  | none => have := backM_bd h a; have := oneM_bd h b; simp; omega
  | some x => have := h.pairs x (List.mem_of_find?_eq_some e); simp; omega

theorem find_word {m : Mdl} (h : Valid m) {a : ByteArray} {i : Nat} (hi : i < m.words.length) (e : m.words[i].word = a) : m.words.find? (isW a) = some m.words[i] := by
  rw [List.find?_eq_some_iff_getElem]
  refine ⟨by simp [isW, e], i, hi, rfl, fun j hj => ?_⟩
  have := h.wu j i (by omega) hi hj
  simp [isW]; intro e2; exact this (e2.trans e.symm)
theorem find_pair {m : Mdl} (h : Valid m) {a b : ByteArray} {i : Nat} (hi : i < m.pairs.length) (e : m.pairs[i].first = a ∧ m.pairs[i].second = b) : m.pairs.find? (isP a b) = some m.pairs[i] := by
  rw [List.find?_eq_some_iff_getElem]
  refine ⟨by simp [isP, e], i, hi, rfl, fun j hj => ?_⟩
  have := h.pu j i (by omega) hi hj
  by_cases e2 : m.pairs[j].first = a
  · by_cases e3 : m.pairs[j].second = b
    · exact absurd ⟨e2.trans e.1.symm, e3.trans e.2.symm⟩ this
    · simp [isP, e3]
  · simp [isP, e2]
theorem sumTo_bd {m : Mdl} (h : Valid m) (ws : List ByteArray) : ∀ k, 0 ≤ sumTo m ws k ∧ sumTo m ws k ≤ 20000 * k
  | 0 => by simp [sumTo]
  | k + 1 => by
    have := sumTo_bd h ws k
    have := stepM_bd h (lastOf ws k) (ws.getD k .empty)
    unfold sumTo
    omega
theorem find_take_hit {m : Mdl} (h : Valid m) {a : ByteArray} {k : Nat} (hk : k < m.words.length) (e : m.words[k].word = a) : (m.words.take (k + 1)).find? (isW a) = some m.words[k] := by
  rw [List.find?_eq_some_iff_getElem]
  refine ⟨by simp [isW, e], k, by simp; omega, by simp, fun j hj => ?_⟩
  have := h.wu j k (by omega) hk hj
  simp [isW]; intro e2; exact this (e2.trans e.symm)
theorem find_take_miss {m : Mdl} {a : ByteArray} {k : Nat} (hk : k < m.words.length) (e : m.words[k].word ≠ a) : (m.words.take (k + 1)).find? (isW a) = (m.words.take k).find? (isW a) := by
  rw [List.take_succ_eq_append_getElem hk, List.find?_append]
  simp [isW, e]
theorem backT_hit {m : Mdl} (h : Valid m) {a : ByteArray} {k : Nat} (hk : k < m.words.length) (e : m.words[k].word = a) : backT m a (k + 1) = m.words[k].back := by
  simp [backT, find_take_hit h hk e]
theorem backT_miss {m : Mdl} {a : ByteArray} {k : Nat} (hk : k < m.words.length) (e : m.words[k].word ≠ a) : backT m a (k + 1) = backT m a k := by
  simp [backT, find_take_miss hk e]
theorem oneT_hit {m : Mdl} (h : Valid m) {a : ByteArray} {k : Nat} (hk : k < m.words.length) (e : m.words[k].word = a) : oneT m a (k + 1) = m.words[k].cost := by
  simp [oneT, find_take_hit h hk e]
theorem oneT_miss {m : Mdl} {a : ByteArray} {k : Nat} (hk : k < m.words.length) (e : m.words[k].word ≠ a) : oneT m a (k + 1) = oneT m a k := by
  simp [oneT, find_take_miss hk e]
theorem backT_all (m : Mdl) (a : ByteArray) : backT m a m.words.length = backM m a := by simp [backT, backM]
theorem oneT_all (m : Mdl) (a : ByteArray) : oneT m a m.words.length = oneM m a := by simp [oneT, oneM]
theorem stepM_pair {m : Mdl} (h : Valid m) {a b : ByteArray} {i : Nat} (hi : i < m.pairs.length) (e1 : m.pairs[i].first = a) (e2 : m.pairs[i].second = b) : stepM m a b = m.pairs[i].cost := by
  simp [stepM, find_pair h hi ⟨e1, e2⟩]
theorem stepM_none {m : Mdl} {a b : ByteArray} (h : ∀ i (hi : i < m.pairs.length), ¬ (m.pairs[i].first = a ∧ m.pairs[i].second = b)) : stepM m a b = backM m a + oneM m b := by
  have : m.pairs.find? (isP a b) = none := by
    rw [List.find?_eq_none]
    intro x hx
    obtain ⟨i, hi, rfl⟩ := List.mem_iff_getElem.1 hx
    simpa [isP] using h i hi
  simp [stepM, this]
end Go.Proofs.Ytcniiphmepgfeaa
