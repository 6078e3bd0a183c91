/- A region that draws its order, with loads, calls that make memory, and late stores: whatever is loaded may be taken first, and what is known of the cells need not hold behind the late operations, which all wait for what was taken. -/
import Derived.Deep.RegionHeld3
namespace Go
section
variable {P : Program} {ops : Array Oper} {Q : Exit → Act → World → Prop} {md : Region.Mode} {S : World → Prop} {L : List Nat}

/-- As wpAnyH, but behind an operation of L nothing is asked of the world. -/
def wpAnyFree (P : Program) (md : Region.Mode) (ops : Array Oper) (Q : Exit → Act → World → Prop) (S : World → Prop) (L : List Nat) : Nat → Array Bool → Act → World → Prop
  | 0, listed, a, w => Region.ready md ops listed = [] ∧ Q .normal a w
  | fuel + 1, listed, a, w =>
    (Region.ready md ops listed = [] → Q .normal a w) ∧
    ∀ i ∈ Region.ready md ops listed, wpOp P ops Q i (fun a' w' => (L.contains i = false → S w → S w') ∧ wpAnyFree P md ops Q S L fuel (listed.setIfInBounds i true) a' w') a w

theorem wpAny_of_free : ∀ (fuel : Nat) (listed : Array Bool) (a : Act) (w : World), wpAnyFree P md ops Q S L fuel listed a w → wpAny P md ops Q fuel listed a w
  | 0, _, _, _, h => h
  | fuel + 1, _, _, _, h => ⟨h.1, fun i hi => wpOp_mono (fun a' w' h' => wpAny_of_free fuel _ a' w' h'.2) (h.2 i hi)⟩

/-- Number k waits for number i, by one step or several. -/
def waitsFor2 (md : Region.Mode) (ops : Array Oper) (i : Nat) : Nat → Nat → Bool
  | 0, _ => false
  | f + 1, k => match ops[k]? with
    | none => false
    | some o => o.after.any fun e => Region.binds md e && (e.on == i || waitsFor2 md ops i f e.on)
/-- The late operations wait for number i. -/
def lateOk2 (md : Region.Mode) (ops : Array Oper) (L : List Nat) (i : Nat) : Bool := L.all fun k => waitsFor2 md ops i ops.size k
/-- What has come up has nothing that it waited for behind it. -/
def listedOk2 (md : Region.Mode) (ops : Array Oper) (listed : Array Bool) : Bool :=
  (List.range ops.size).all fun k => !listed.getD k false || match ops[k]? with
    | none => true
    | some o => o.after.all fun e => !Region.binds md e || listed.getD e.on false

theorem listedOk2_at {listed : Array Bool} (h : listedOk2 md ops listed = true) {k : Nat} {o : Oper} (hk : listed.getD k false = true) (ho : ops[k]? = some o) :
    ∀ e ∈ o.after, Region.binds md e = true → listed.getD e.on false = true := by
  have h1 := List.all_eq_true.1 h k (List.mem_range.2 (Array.getElem?_eq_some_iff.1 ho).1)
  rw [hk, ho] at h1
  simp only [Bool.not_true, Bool.false_or] at h1
  rw [Array.all_eq_true] at h1
  intro e he hb
  obtain ⟨q, hq, rfl⟩ := Array.mem_iff_getElem.1 he
  have h2 := h1 q hq
  rw [hb] at h2
  simpa using h2
theorem listedOk2_set {listed : Array Bool} (h : listedOk2 md ops listed = true) {j : Nat} (hj : j ∈ Region.ready md ops listed) : listedOk2 md ops (listed.setIfInBounds j true) = true := by
  obtain ⟨_, oj, hoj, hall⟩ := mem_ready.1 hj
  refine List.all_eq_true.2 fun k _ => ?_
  cases hk : (listed.setIfInBounds j true).getD k false with
  | false => rfl
  | true =>
    cases ho : ops[k]? with
    | none => rfl
    | some o =>
      simp only [Bool.not_true, Bool.false_or]
      rw [Array.all_eq_true]
      intro q hq
      have hm : o.after[q] ∈ o.after := Array.getElem_mem hq
      cases hb : Region.binds md o.after[q] with
      | false => rfl
      | true =>
        simp only [Bool.not_true, Bool.false_or]
        refine getD_set_true ?_
        by_cases hjk : j = k
        · subst hjk
          rw [hoj] at ho
          cases ho
          exact hall _ hm hb
        · rw [getD_set_ne false hjk] at hk
          exact listedOk2_at h hk ho _ hm hb
/-- Who has come up, and waited for number i: then i has come up. -/
theorem waits_listed2 {listed : Array Bool} (h : listedOk2 md ops listed = true) {i : Nat} : ∀ (f k : Nat), waitsFor2 md ops i f k = true → listed.getD k false = true → listed.getD i false = true
  | 0, _, hw, _ => by cases hw
  | f + 1, k, hw, hk => by
    unfold waitsFor2 at hw
    cases ho : ops[k]? with
    | none => rw [ho] at hw; cases hw
    | some o =>
      rw [ho] at hw
      simp only at hw
      rw [Array.any_eq_true] at hw
      obtain ⟨q, hq, h5⟩ := hw
      simp only [Bool.and_eq_true, Bool.or_eq_true, beq_iff_eq] at h5
      have hm := listedOk2_at h hk ho _ (Array.getElem_mem hq) h5.1
      rcases h5.2 with h6 | h6
      · rw [h6] at hm; exact hm
      · exact waits_listed2 h f _ h6 hm

/-- What yields under S may be taken first, if the late operations wait for it. -/
theorem wpAnyFree_first {i : Nat} {oi : Oper} {v : Value} (hi : ops[i]? = some oi) (hsel : ∀ (j : Nat) (o : Oper) cs b, ops[j]? = some o → o.op ≠ .select cs b)
    (hQ : ∀ c a w, Q (.panic c) (a.put oi.dst v) w → Q (.panic c) a w) (hL : lateOk2 md ops L i = true) :
    ∀ (fuel : Nat) (listed : Array Bool) (a : Act) (w : World),
      (∀ j oj, ops[j]? = some oj → j ≠ i → listed.getD j true = false → (∀ e ∈ oj.after, Region.binds md e = true → e.on ≠ i) → oi.apart ops oj = true) →
      i ∈ Region.ready md ops listed → listedOk2 md ops listed = true → YieldsIf P ops S oi v a → S w →
      wpAnyFree P md ops Q S L fuel (listed.setIfInBounds i true) (a.put oi.dst v) w → wpAnyFree P md ops Q S L (fuel + 1) listed a w := by
  intro fuel
  induction fuel with
  | zero =>
    intro listed a w _ hr _ hy hS H
    refine ⟨fun h => (by rw [h] at hr; cases hr), fun j hj => ?_⟩
    by_cases hji : j = i
    · subst hji; exact hy.wpOp hi hS ⟨fun _ h => h, H⟩
    · have := ready_mono hj hji
      rw [H.1] at this
      cases this
  | succ fuel ih =>
    intro listed a w hfree hr hn hy hS H
    refine ⟨fun h => (by rw [h] at hr; cases hr), fun j hj => ?_⟩
    by_cases hji : j = i
    · subst hji; exact hy.wpOp hi hS ⟨fun _ h => h, H⟩
    · have h1 := H.2 j (ready_mono hj hji)
      obtain ⟨hjun, oj, hoj, hall⟩ := mem_ready.1 hj
      have hun : ∀ k, listed.getD k true = false → listed.getD k false = true → False := fun k h0 h1 => by
        rcases Nat.lt_or_ge k listed.size with h' | h'
        · simp [h'] at h0 h1; rw [h0] at h1; cases h1
        · simp [Array.getElem?_eq_none h'] at h1
      have hnot : ∀ e ∈ oj.after, Region.binds md e = true → e.on ≠ i := fun e he hb heq => by
        have h1 := hall e he hb
        rw [heq] at h1
        exact hun i (mem_ready.1 hr).1 h1
      have hnl : L.contains j = false := by
        cases hc : L.contains j with
        | false => rfl
        | true =>
          exfalso
          have h3 := List.all_eq_true.1 hL j (by simpa using hc)
          cases hz : ops.size with
          | zero => rw [hz] at h3; cases h3
          | succ f =>
            rw [hz] at h3
            unfold waitsFor2 at h3
            rw [hoj] at h3
            simp only at h3
            rw [Array.any_eq_true] at h3
            obtain ⟨q, hq, h5⟩ := h3
            simp only [Bool.and_eq_true, Bool.or_eq_true, beq_iff_eq] at h5
            have hm : oj.after[q] ∈ oj.after := Array.getElem_mem hq
            rcases h5.2 with h6 | h6
            · exact hnot _ hm h5.1 h6
            · exact hun i (mem_ready.1 hr).1 (waits_listed2 hn f _ h6 (hall _ hm h5.1))
      have h2 := wpOp_putIf hoj (hfree j oj hoj hji hjun hnot) (fun cs b => hsel i oi cs b hi) (fun cs b => hsel j oj cs b hoj) hQ hy h1
      have hfree' : ∀ k ok, ops[k]? = some ok → k ≠ i → (listed.setIfInBounds j true).getD k true = false →
          (∀ e ∈ ok.after, Region.binds md e = true → e.on ≠ i) → oi.apart ops ok = true := fun k ok hk hki hun hno => by
        refine hfree k ok hk hki ?_ hno
        by_cases hjk : j = k
        · subst hjk; exact hjun
        · rw [getD_set_ne true hjk] at hun; exact hun
      refine wpOp_mono (fun a' w' h3 => ⟨h3.2.1, ih (listed.setIfInBounds j true) a' w' hfree' (ready_mono hr (Ne.symm hji)) (listedOk2_set hn hj) h3.1 (h3.2.1 hnl hS) ?_⟩) h2
      rw [Array.setIfInBounds_comm _ _ hji]
      exact h3.2.2

/-- What yields in whatever world may be taken first. -/
theorem wpAnyFree_firstFree {i : Nat} {oi : Oper} {v : Value} (hi : ops[i]? = some oi) (hsel : ∀ (j : Nat) (o : Oper) cs b, ops[j]? = some o → o.op ≠ .select cs b)
    (hQ : ∀ c a w, Q (.panic c) (a.put oi.dst v) w → Q (.panic c) a w) :
    ∀ (fuel : Nat) (listed : Array Bool) (a : Act) (w : World),
      (∀ j oj, ops[j]? = some oj → j ≠ i → listed.getD j true = false → (∀ e ∈ oj.after, Region.binds md e = true → e.on ≠ i) → oi.apart ops oj = true) →
      i ∈ Region.ready md ops listed → YieldsIf P ops (fun _ => True) oi v a →
      wpAnyFree P md ops Q S L fuel (listed.setIfInBounds i true) (a.put oi.dst v) w → wpAnyFree P md ops Q S L (fuel + 1) listed a w := by
  intro fuel
  induction fuel with
  | zero =>
    intro listed a w _ hr hy H
    refine ⟨fun h => (by rw [h] at hr; cases hr), fun j hj => ?_⟩
    by_cases hji : j = i
    · subst hji; exact hy.wpOp hi trivial ⟨fun _ h => h, H⟩
    · have := ready_mono hj hji
      rw [H.1] at this
      cases this
  | succ fuel ih =>
    intro listed a w hfree hr hy H
    refine ⟨fun h => (by rw [h] at hr; cases hr), fun j hj => ?_⟩
    by_cases hji : j = i
    · subst hji; exact hy.wpOp hi trivial ⟨fun _ h => h, H⟩
    · have h1 := H.2 j (ready_mono hj hji)
      obtain ⟨hjun, oj, hoj, hall⟩ := mem_ready.1 hj
      have hnot : ∀ e ∈ oj.after, Region.binds md e = true → e.on ≠ i := fun e he hb heq => by
        have h1 := hall e he hb
        have h0 := (mem_ready.1 hr).1
        rw [heq] at h1
        rcases Nat.lt_or_ge i listed.size with h' | h'
        · simp [h'] at h0 h1; rw [h0] at h1; cases h1
        · simp [Array.getElem?_eq_none h'] at h1
      have h2 := wpOp_putIf hoj (hfree j oj hoj hji hjun hnot) (fun cs b => hsel i oi cs b hi) (fun cs b => hsel j oj cs b hoj) hQ hy h1
      have hfree' : ∀ k ok, ops[k]? = some ok → k ≠ i → (listed.setIfInBounds j true).getD k true = false →
          (∀ e ∈ ok.after, Region.binds md e = true → e.on ≠ i) → oi.apart ops ok = true := fun k ok hk hki hun hno => by
        refine hfree k ok hk hki ?_ hno
        by_cases hjk : j = k
        · subst hjk; exact hjun
        · rw [getD_set_ne true hjk] at hun; exact hun
      refine wpOp_mono (fun a' w' h3 => ⟨h3.2.1, ih (listed.setIfInBounds j true) a' w' hfree' (ready_mono hr (Ne.symm hji)) h3.1 ?_⟩) h2
      rw [Array.setIfInBounds_comm _ _ hji]
      exact h3.2.2

/-! ### The moves -/
theorem wpAnyFree_take (i : Nat) {oi : Oper} {v : Value} {fuel : Nat} {listed : Array Bool} {a : Act} {w : World} (hi : ops[i]? = some oi)
    (hs : Region.noSelect ops = true) (hf : Region.free md ops listed i = true) (hr : (Region.ready md ops listed).contains i = true) (hL : lateOk2 md ops L i = true) (hn : listedOk2 md ops listed = true)
    (hQ : ∀ c a w, Q (.panic c) (a.put oi.dst v) w → Q (.panic c) a w) (hS : S w) (hw : Region.wanted oi (yielded ops a.tmps) = true)
    (hy : ∀ w, S w → (execOp a.eval oi).run P w = .ok (.value v) w)
    (h : wpAnyFree P md ops Q S L fuel (listed.setIfInBounds i true) (a.put oi.dst v) w) : wpAnyFree P md ops Q S L (fuel + 1) listed a w :=
  wpAnyFree_first hi (Region.noSelect_spec hs) hQ hL fuel listed a w (Region.free_spec hi hf) (by simpa using hr) hn (.inl ⟨hw, hy⟩) hS h
theorem wpAnyFree_free (i : Nat) {oi : Oper} {v : Value} {fuel : Nat} {listed : Array Bool} {a : Act} {w : World} (hi : ops[i]? = some oi)
    (hs : Region.noSelect ops = true) (hf : Region.free md ops listed i = true) (hr : (Region.ready md ops listed).contains i = true)
    (hQ : ∀ c a w, Q (.panic c) (a.put oi.dst v) w → Q (.panic c) a w) (hw : Region.wanted oi (yielded ops a.tmps) = true)
    (hy : ∀ w, (execOp a.eval oi).run P w = .ok (.value v) w)
    (h : wpAnyFree P md ops Q S L fuel (listed.setIfInBounds i true) (a.put oi.dst v) w) : wpAnyFree P md ops Q S L (fuel + 1) listed a w :=
  wpAnyFree_firstFree hi (Region.noSelect_spec hs) hQ fuel listed a w (Region.free_spec hi hf) (by simpa using hr) (.inl ⟨hw, fun w _ => hy w⟩) h
/-- Number i alone may come up, and it is not late. -/
theorem wpAnyFree_call (i : Nat) {o : Oper} {fuel : Nat} {listed : Array Bool} {a : Act} {w : World} (hr : Region.ready md ops listed = [i]) (ho : ops[i]? = some o) (hw : Region.wanted o (yielded ops a.tmps) = true)
    (h : ∀ K' : Act → World → Prop, Shut (∀ a w, S w → (S w → wpAnyFree P md ops Q S L fuel (listed.setIfInBounds i true) a w) → K' a w) → Oper.wp P o a w K' Q) : wpAnyFree P md ops Q S L (fuel + 1) listed a w :=
  ⟨fun h0 => (by rw [h0] at hr; cases hr), fun j hj => by
    rw [hr] at hj
    obtain rfl : j = i := by simpa using hj
    exact wpOp_step ho (fun K' hK => by
      rw [if_pos hw]
      exact h K' (fun a w hS hW => hK a w ⟨fun _ _ => hS, hW hS⟩))⟩
/-- Number i alone may come up, and it is late. -/
theorem wpAnyFree_late (i : Nat) {o : Oper} {fuel : Nat} {listed : Array Bool} {a : Act} {w : World} (hr : Region.ready md ops listed = [i]) (hl : L.contains i = true) (ho : ops[i]? = some o) (hw : Region.wanted o (yielded ops a.tmps) = true)
    (h : ∀ K' : Act → World → Prop, Shut (∀ a w, wpAnyFree P md ops Q S L fuel (listed.setIfInBounds i true) a w → K' a w) → Oper.wp P o a w K' Q) : wpAnyFree P md ops Q S L (fuel + 1) listed a w :=
  ⟨fun h0 => (by rw [h0] at hr; cases hr), fun j hj => by
    rw [hr] at hj
    obtain rfl : j = i := by simpa using hj
    exact wpOp_step ho (fun K' hK => by
      rw [if_pos hw]
      exact h K' (fun a w hW => hK a w ⟨fun h => (by rw [hl] at h; cases h), hW⟩))⟩
/-- Two that are late may come up, in either order. -/
theorem wpAnyFree_late2 (i k : Nat) {o p : Oper} {fuel : Nat} {listed : Array Bool} {a : Act} {w : World} (hr : Region.ready md ops listed = [i, k]) (hl : L.contains i = true) (hl2 : L.contains k = true) (ho : ops[i]? = some o) (hp : ops[k]? = some p) (hw : Region.wanted o (yielded ops a.tmps) = true) (hw2 : Region.wanted p (yielded ops a.tmps) = true)
    (h : ∀ K' : Act → World → Prop, Shut (∀ a w, wpAnyFree P md ops Q S L fuel (listed.setIfInBounds i true) a w → K' a w) → Oper.wp P o a w K' Q)
    (h2 : ∀ K' : Act → World → Prop, Shut (∀ a w, wpAnyFree P md ops Q S L fuel (listed.setIfInBounds k true) a w → K' a w) → Oper.wp P p a w K' Q) : wpAnyFree P md ops Q S L (fuel + 1) listed a w :=
  ⟨fun h0 => (by rw [h0] at hr; cases hr), fun j hj => by
    rw [hr] at hj
    have hj : j = i ∨ j = k := by simpa using hj
    rcases hj with rfl | rfl
    · exact wpOp_step ho (fun K' hK => by
        rw [if_pos hw]
        exact h K' (fun a w hW => hK a w ⟨fun h => (by rw [hl] at h; cases h), hW⟩))
    · exact wpOp_step hp (fun K' hK => by
        rw [if_pos hw2]
        exact h2 K' (fun a w hW => hK a w ⟨fun h => (by rw [hl2] at h; cases h), hW⟩))⟩
theorem wpAnyFree_done {listed : Array Bool} {a : Act} {w : World} (hr : Region.ready md ops listed = []) (h : Q .normal a w) : ∀ fuel, wpAnyFree P md ops Q S L fuel listed a w
  | 0 => ⟨hr, h⟩
  | _ + 1 => ⟨fun _ => h, by rw [hr]; simp⟩
/-- The beginning. -/
theorem wp_region_free (S : World → Prop) (L : List Nat) {id : Nat} {a : Act} {w : World} (hm : P.follows .mixedOrders = true) (hS : S w.drew)
    (h : S w.drew → wpAnyFree P .any ops Q S L ops.size (Array.replicate ops.size false) a w.drew) : (Code.region id ops true).wp P Q a w :=
  wp_region_any hm (wpAny_of_free _ _ _ _ (h hS))
end
end Go
