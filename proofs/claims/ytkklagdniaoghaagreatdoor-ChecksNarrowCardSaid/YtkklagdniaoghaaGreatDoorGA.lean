/- Matches of two lists, one by one: plain facts. A map's block, told as the list of its entries: made, looked up, stored into, ranged over. Grams counted in a map: what a lookup and a store say; the sum over a range. One more of a gram: 'm[g]++' as the model has it, a lookup, an entry, a store into the entry. Places of a list used up one by one: plain. -/
import Derived.WalkKit
import Derived.WalkSpells
import Derived.Maps.Keyed
import Derived.Maps.OwnOps
import Derived.Maps.RangeWalk
import Derived.DeepKeys4
import Derived.Deep.Draws
import Derived.Laws.OwnMore
import Derived.Laws.Rows
import Derived.WideKeyEntry
namespace Go.Proofs.Bag
section
variable {α : Type} [BEq α] [LawfulBEq α]

/-- Members of the first list, each of which uses up one of the second. -/
def mm : List α → List α → Nat
  | [], _ => 0
  | x :: l, m => if x ∈ m then 1 + mm l (m.erase x) else mm l m

/-- The same, told key by key. -/
def sk (ks l m : List α) : Nat := (ks.map fun g => min (l.count g) (m.count g)).sum

omit [LawfulBEq α] in
theorem sk_nil (ks m : List α) : sk ks [] m = 0 := by
  induction ks with
  | nil => rfl
  | cons k ks ih => simp only [sk, List.map_cons, List.sum_cons, List.count_nil, Nat.zero_min, Nat.zero_add] at ih ⊢; exact ih
theorem sk_cons (x : α) (l : List α) (m : List α) : ∀ ks : List α, ks.Nodup → sk ks (x :: l) m = (if x ∈ ks ∧ x ∈ m then 1 else 0) + sk ks l (m.erase x)
  | [], _ => by simp [sk]
  | k :: ks, h => by
    obtain ⟨hk, hn⟩ := List.nodup_cons.1 h
    have ih := sk_cons x l m ks hn
    simp only [sk, List.map_cons, List.sum_cons] at ih ⊢
    rw [ih]
    by_cases e : k = x
    · subst e
      have hp : k ∈ m ↔ 0 < m.count k := List.count_pos_iff.symm
      simp only [List.count_cons_self, List.count_erase_self, List.mem_cons, true_or, true_and, hk, false_and, if_false, hp]
      split <;> omega
    · have e' : ¬ x = k := fun h => e h.symm
      rw [List.count_cons_of_ne (Ne.symm e), List.count_erase_of_ne e]
      simp only [List.mem_cons, e', false_or]
      omega
theorem mm_sk : ∀ (l m ks : List α), ks.Nodup → (∀ x ∈ l, x ∈ m → x ∈ ks) → mm l m = sk ks l m
  | [], m, ks, _, _ => by rw [sk_nil]; rfl
  | x :: l, m, ks, hn, hs => by
    rw [sk_cons x l m ks hn]
    simp only [mm]
    by_cases hx : x ∈ m
    · have := hs x (List.mem_cons_self) hx
      rw [if_pos hx, if_pos ⟨this, hx⟩, mm_sk l (m.erase x) ks hn (fun y hy hy' => hs y (List.mem_cons_of_mem _ hy) (List.mem_of_mem_erase hy'))]
    · rw [if_neg hx, if_neg (fun h => hx h.2), List.erase_of_not_mem hx, Nat.zero_add, mm_sk l m ks hn (fun y hy hy' => hs y (List.mem_cons_of_mem _ hy) hy')]
theorem keys_of : ∀ l : List α, ∃ ks : List α, ks.Nodup ∧ ∀ x, x ∈ l → x ∈ ks
  | [] => ⟨[], List.nodup_nil, fun _ h => h⟩
  | x :: l => by
    obtain ⟨ks, h1, h2⟩ := keys_of l
    by_cases hx : x ∈ ks
    · exact ⟨ks, h1, fun y hy => by rcases List.mem_cons.1 hy with rfl | hy; exact hx; exact h2 y hy⟩
    · exact ⟨x :: ks, List.nodup_cons.2 ⟨hx, h1⟩, fun y hy => by rcases List.mem_cons.1 hy with rfl | hy; exact List.mem_cons_self; exact List.mem_cons_of_mem _ (h2 y hy)⟩
omit [LawfulBEq α] in
theorem sk_mono (ks : List α) {l l' m m' : List α} (h1 : ∀ g, l.count g ≤ l'.count g) (h2 : ∀ g, m.count g ≤ m'.count g) : sk ks l m ≤ sk ks l' m' := by
  induction ks with
  | nil => exact Nat.le_refl _
  | cons k ks ih =>
    simp only [sk, List.map_cons, List.sum_cons] at ih ⊢
    have := h1 k
    have := h2 k
    omega
omit [LawfulBEq α] in
theorem sk_comm (ks l m : List α) : sk ks l m = sk ks m l := by
  simp only [sk]; congr 1; exact List.map_congr_left fun g _ => Nat.min_comm _ _
theorem mm_mono {l l' m m' : List α} (h1 : ∀ g, l.count g ≤ l'.count g) (h2 : ∀ g, m.count g ≤ m'.count g) : mm l m ≤ mm l' m' := by
  obtain ⟨ks, hn, hs⟩ := keys_of (l ++ l')
  rw [mm_sk l m ks hn (fun x hx _ => hs x (List.mem_append_left _ hx)), mm_sk l' m' ks hn (fun x hx _ => hs x (List.mem_append_right _ hx))]
  exact sk_mono ks h1 h2
theorem mm_comm (l m : List α) : mm l m = mm m l := by
  obtain ⟨ks, hn, hs⟩ := keys_of (l ++ m)
  rw [mm_sk l m ks hn (fun x hx _ => hs x (List.mem_append_left _ hx)), mm_sk m l ks hn (fun x hx _ => hs x (List.mem_append_right _ hx)), sk_comm]
theorem mm_left : ∀ l m : List α, mm l m ≤ l.length
  | [], _ => Nat.le_refl _
  | x :: l, m => by
    simp only [mm, List.length_cons]
    split
    · have := mm_left l (m.erase x); omega
    · have := mm_left l m; omega
theorem mm_right (l m : List α) : mm l m ≤ m.length := by rw [mm_comm]; exact mm_left m l
theorem mm_self : ∀ l : List α, mm l l = l.length
  | [] => rfl
  | x :: l => by simp [mm, mm_self l]; omega
theorem mm_perm {l m m' : List α} (h : m.Perm m') : mm l m = mm l m' :=
  Nat.le_antisymm (mm_mono (fun _ => Nat.le_refl _) (fun g => Nat.le_of_eq (h.count_eq g))) (mm_mono (fun _ => Nat.le_refl _) (fun g => Nat.le_of_eq (h.count_eq g).symm))
theorem mm_map {β : Type} [BEq β] [LawfulBEq β] (f : α → β) : ∀ l m : List α, mm l m ≤ mm (l.map f) (m.map f)
  | [], _ => Nat.zero_le _
  | x :: l, m => by
    simp only [mm, List.map_cons]
    by_cases hx : x ∈ m
    · have hp : ((m.map f).erase (f x)).Perm ((m.erase x).map f) := by
        have h1 : (m.map f).Perm (f x :: (m.erase x).map f) := (List.perm_cons_erase hx).map f
        have h2 := h1.erase (f x)
        rwa [List.erase_cons_head] at h2
      rw [if_pos hx, if_pos (List.mem_map.2 ⟨x, hx, rfl⟩), mm_perm hp]
      exact Nat.add_le_add_left (mm_map f l _) 1
    · rw [if_neg hx]
      refine Nat.le_trans (mm_map f l m) ?_
      have : mm (l.map f) (m.map f) ≤ mm (f x :: l.map f) (m.map f) := mm_mono (fun g => by rw [List.count_cons]; omega) (fun _ => Nat.le_refl _)
      simpa only [mm] using this

/-- The grams of a list: n neighbours each. -/
def grams (a : List α) (n : Nat) : List (List α) := (List.range (a.length + 1 - n)).map fun i => (a.drop i).take n
omit [BEq α] [LawfulBEq α] in
theorem grams_length (a : List α) (n : Nat) : (grams a n).length = a.length + 1 - n := by simp [grams]
/-- How many matches two lists have. -/
def mt (a b : List α) (n : Nat) : Nat := mm (grams a n) (grams b n)
theorem mt_comm (a b : List α) (n : Nat) : mt a b n = mt b a n := mm_comm _ _
theorem mt_left (a b : List α) (n : Nat) : mt a b n ≤ a.length + 1 - n := by have := mm_left (grams a n) (grams b n); rwa [grams_length] at this
theorem mt_right (a b : List α) (n : Nat) : mt a b n ≤ b.length + 1 - n := by have := mm_right (grams a n) (grams b n); rwa [grams_length] at this
theorem mt_self (a : List α) (n : Nat) : mt a a n = a.length + 1 - n := by rw [mt, mm_self, grams_length]
omit [BEq α] [LawfulBEq α] in
theorem grams_short (a : List α) (n : Nat) : ((grams a (n + 1)).map (List.take n)).Sublist (grams a n) := by
  simp only [grams, List.map_map]
  have e : (List.take n ∘ fun i => (a.drop i).take (n + 1)) = fun i => (a.drop i).take n := by
    funext i
    simp only [Function.comp, List.take_take]
    congr 1
    omega
  rw [e]
  refine List.Sublist.map _ ?_
  exact List.range_sublist.2 (by omega)
theorem mt_more (a b : List α) (n : Nat) : mt a b (n + 1) ≤ mt a b n :=
  Nat.le_trans (mm_map (List.take n) _ _) (mm_mono (fun g => (grams_short a n).count_le g) (fun g => (grams_short b n).count_le g))
end
end Go.Proofs.Bag
namespace Go.Proofs.MapEnt
open Go.RowKit
open Go.Maps (Keyed)

def kv (e : MapEntry) : Value × Value := (e.key, e.val)

/-- block b is a map that holds just these entries, in this order, no key twice; each key is one that the model lets be a key. -/
def MapHas (P : Program) (k : TypeId) (w : World) (b : Nat) (l : List (Value × Value)) : Prop :=
  ∃ es clock, w.heap[b]? = some (.map es clock) ∧ es.toList.map kv = l ∧ (∀ p ∈ l, ∃ q, keyOf P k p.1 = some q) ∧ (∀ e ∈ es.toList, e.born < clock) ∧ (es.toList.map (·.born)).Nodup ∧ (l.map (·.1)).Nodup

section
variable {P : Program} {k : TypeId} {w w' : World} {b : Nat} {l : List (Value × Value)}
theorem MapHas.new (P : Program) (k : TypeId) (w : World) : MapHas P k (w.alloc (.map #[] 0)) w.heap.size [] :=
  ⟨#[], 0, heap_alloc_new w _, rfl, fun _ h => (by cases h), fun _ h => (by cases h), List.nodup_nil, List.nodup_nil⟩
theorem MapHas.same (h : MapHas P k w b l) (e : w'.heap[b]? = w.heap[b]?) : MapHas P k w' b l := by
  obtain ⟨es, c, h1, h2⟩ := h
  exact ⟨es, c, e.trans h1, h2⟩
theorem MapHas.lt (h : MapHas P k w b l) : b < w.heap.size := by
  obtain ⟨es, c, h1, _⟩ := h
  exact (Array.getElem?_eq_some_iff.1 h1).1
theorem MapHas.alloc (h : MapHas P k w b l) (o : Obj) : MapHas P k (w.alloc o) b l := h.same (Below.heap_alloc w o b h.lt)
theorem MapHas.grown {row : Option Nat} (h : MapHas P k w b l) (hb : w.grownBy w' row) (hg : some b ≠ row) : MapHas P k w' b l := h.same (hb.block b h.lt hg)
theorem MapHas.nodup (h : MapHas P k w b l) : (l.map (·.1)).Nodup := by
  obtain ⟨_, _, _, _, _, _, _, h⟩ := h
  exact h

theorem MapHas.find (K : Keyed P k) (h : MapHas P k w b l) {key : Value} {q : Lit} (hk : keyOf P k key = some q) :
    ∃ es clock, w.heap[b]? = some (.map es clock) ∧ es.toList.map kv = l ∧ (∀ e ∈ es.toList, e.born < clock) ∧ (es.toList.map (·.born)).Nodup ∧
      (((Instr.findKey k key es.toList).run P w = .ok none w ∧ ∀ p ∈ l, p.1 ≠ key) ∨ ∃ j e, (Instr.findKey k key es.toList).run P w = .ok (some (j, e.val)) w ∧ es.toList[j]? = some e ∧ e.key = key ∧ (key, e.val) ∈ l) := by
  obtain ⟨es, c, h1, h2, h3, h4, h5, _⟩ := h
  refine ⟨es, c, h1, h2, h4, h5, ?_⟩
  rcases K.find w hk es.toList (fun e he => h3 (e.key, e.val) (by rw [← h2]; exact List.mem_map.2 ⟨e, he, rfl⟩)) with ⟨r1, r2⟩ | ⟨j, e, r1, r2, r3⟩
  · refine .inl ⟨r1, fun p hp => ?_⟩
    rw [← h2] at hp
    obtain ⟨e, he, rfl⟩ := List.mem_map.1 hp
    exact r2 e he
  · refine .inr ⟨j, e, r1, r2, r3, ?_⟩
    rw [← h2, ← r3]
    exact List.mem_map.2 ⟨e, List.mem_of_getElem? r2, rfl⟩

theorem MapHas.lookup {t e : TypeId} (K : Keyed P k) (ht : P.underlying t = some (.map k e)) {z : Value} (hz : (zeroValue e).run P w = .ok z w) (h : MapHas P k w b l)
    {key : Value} {q : Lit} (hk : keyOf P k key = some q) :
    (((Instr.lookup t (.map (some b)) key true).run P w = .ok (.tuple #[z, .bool false]) w ∧ (Instr.lookup t (.map (some b)) key false).run P w = .ok z w) ∧ ∀ p ∈ l, p.1 ≠ key) ∨
    ∃ v, ((Instr.lookup t (.map (some b)) key true).run P w = .ok (.tuple #[v, .bool true]) w ∧ (Instr.lookup t (.map (some b)) key false).run P w = .ok v w) ∧ (key, v) ∈ l := by
  obtain ⟨es, c, h1, h2, _, _, h3⟩ := h.find K hk
  have hg := MapKept.run_getObj_map (P := P) h1
  rcases h3 with ⟨r1, r2⟩ | ⟨j, e0, r1, _, _, r2⟩
  · exact .inl ⟨⟨by simp [Instr.lookup, run_underlying ht, hg, K.check w _ hk, r1, hz, Result.andThen], by simp [Instr.lookup, run_underlying ht, hg, K.check w _ hk, r1, hz, Result.andThen]⟩, r2⟩
  · exact .inr ⟨e0.val, ⟨by simp [Instr.lookup, run_underlying ht, hg, K.check w _ hk, r1, Result.andThen], by simp [Instr.lookup, run_underlying ht, hg, K.check w _ hk, r1, Result.andThen]⟩, r2⟩

/-- A store: a new key at the end, or a key that was there, its value turned. -/
theorem MapHas.put {t e : TypeId} (K : Keyed P k) (ht : P.underlying t = some (.map k e)) (h : MapHas P k w b l) {key val : Value} {q : Lit} (hk : keyOf P k key = some q) :
    ∃ w' l', (Instr.mapUpdate t (.map (some b)) key val).run P w = .ok () w' ∧ MapHas P k w' b l' ∧ w'.os = w.os ∧ w'.tape = w.tape ∧ w'.output = w.output ∧ w'.heap.size = w.heap.size ∧
      (∀ i, i ≠ b → w'.heap[i]? = w.heap[i]?) ∧ (((∀ p ∈ l, p.1 ≠ key) ∧ l' = l ++ [(key, val)]) ∨ ∃ l1 l2 old, l = l1 ++ (key, old) :: l2 ∧ l' = l1 ++ (key, val) :: l2) := by
  have hlt := h.lt
  have hnd := h.nodup
  obtain ⟨_, _, _, _, hkeys, _⟩ := id h
  obtain ⟨es, c, h1, h2, h4, h5, h3⟩ := h.find K hk
  have hg := MapKept.run_getObj_map (P := P) h1
  rcases h3 with ⟨r1, r2⟩ | ⟨j, e0, r1, r2, r3, r4⟩
  · refine ⟨{ w with heap := w.heap.setIfInBounds b (.map (es.push { key, val, born := c }) (c + 1)) }, l ++ [(key, val)], ?_, ⟨es.push { key, val, born := c }, c + 1, ?_, ?_, ?_, ?_, ?_, ?_⟩, rfl, rfl, rfl, by simp, fun i hi => ?_, .inl ⟨r2, rfl⟩⟩
    · simp [Instr.mapUpdate, run_underlying ht, hg, K.check w _ hk, r1, Result.andThen, setObj, Sem.run, h1]
    · simp [hlt]
    · simp [h2, kv]
    · intro p hp
      rcases List.mem_append.1 hp with hp | hp
      · exact hkeys p hp
      · obtain rfl := List.mem_singleton.1 hp; exact ⟨q, hk⟩
    · intro x hx
      simp only [Array.toList_push, List.mem_append, List.mem_singleton] at hx
      rcases hx with hx | rfl
      · have := h4 x hx; omega
      · exact Nat.lt_succ_self _
    · simp only [Array.toList_push, List.map_append, List.map_cons, List.map_nil]
      refine List.nodup_append.2 ⟨h5, by simp, fun x hx y hy => ?_⟩
      obtain ⟨z, hz, rfl⟩ := List.mem_map.1 hx
      obtain rfl := List.mem_singleton.1 hy
      have := h4 z hz
      omega
    · simp only [List.map_append, List.map_cons, List.map_nil]
      refine List.nodup_append.2 ⟨hnd, by simp, fun x hx y hy => ?_⟩
      obtain ⟨z, hz, rfl⟩ := List.mem_map.1 hx
      obtain rfl := List.mem_singleton.1 hy
      exact r2 z hz
    · simp [Ne.symm hi]
  · have hj : es[j]? = some e0 := by simpa using r2
    have hjl : j < es.toList.length := (List.getElem?_eq_some_iff.1 r2).1
    have hje : es.toList[j] = e0 := (List.getElem?_eq_some_iff.1 r2).2
    have hlist : (es.modify j (fun e' => { e' with key := key, val := val })).toList = es.toList.take j ++ { e0 with key := key, val := val } :: es.toList.drop (j + 1) := by
      rw [Array.toList_modify, List.modify_eq_take_cons_drop hjl, hje]
    have hold : es.toList = es.toList.take j ++ e0 :: es.toList.drop (j + 1) := by
      rw [← hje, List.getElem_cons_drop, List.take_append_drop]
    have hl : l = (es.toList.take j).map kv ++ (key, e0.val) :: (es.toList.drop (j + 1)).map kv := by
      rw [← h2]
      conv => lhs; rw [hold]
      simp [kv, r3]
    refine ⟨{ w with heap := w.heap.setIfInBounds b (.map (es.modify j (fun e' => { e' with key := key, val := val })) c) }, (es.toList.take j).map kv ++ (key, val) :: (es.toList.drop (j + 1)).map kv, ?_,
      ⟨es.modify j (fun e' => { e' with key := key, val := val }), c, ?_, ?_, ?_, ?_, ?_, ?_⟩, rfl, rfl, rfl, by simp, fun i hi => ?_, .inr ⟨_, _, _, hl, rfl⟩⟩
    · simp [Instr.mapUpdate, run_underlying ht, hg, K.check w _ hk, r1, hj, r3, K.stays w hk, Result.andThen, setObj, Sem.run, h1]
    · simp [hlt]
    · rw [hlist]; simp [kv]
    · intro p hp
      simp only [List.mem_append, List.mem_cons] at hp
      rcases hp with hp | rfl | hp
      · exact hkeys p (by rw [hl]; simp only [List.mem_append]; exact .inl hp)
      · exact ⟨q, hk⟩
      · exact hkeys p (by rw [hl]; simp only [List.mem_append, List.mem_cons]; exact .inr (.inr hp))
    · intro x hx
      rw [hlist] at hx
      simp only [List.mem_append, List.mem_cons] at hx
      rcases hx with hx | rfl | hx
      · exact h4 x (List.mem_of_mem_take hx)
      · exact h4 e0 (List.mem_of_getElem? r2)
      · exact h4 x (List.mem_of_mem_drop hx)
    · rw [hlist]
      rw [hold] at h5
      simpa using h5
    · rw [hl] at hnd
      simpa using hnd
    · simp [Ne.symm hi]
end

section
variable {P : Program} (w : World) {ops : Array Oper} {rest : List Oper} {o : Oper} {a : Act} {Q : Exit → Act → World → Prop}
theorem wpList_lookup_has
    (hg : o.guard = none) (m x : Operand) (t : TypeId) (ok : Bool) (hop : o.op = Op.lookup t m x ok)
    (k e : TypeId) (K : Keyed P k) (ht : P.underlying t = some (.map k e)) (z : Value) (hz : (zeroValue e).run P w = .ok z w) (b : Nat) (l : List (Value × Value))
    (hm : a.eval m = .map (some b)) (h : MapHas P k w b l) (key : Value) (kl : Lit) (hx : a.eval x = key) (hkey : keyOf P k key = some kl)
    (h0 : (∀ p ∈ l, p.1 ≠ key) → wpList P ops Q rest (a.put o.dst (if ok then .tuple #[z, .bool false] else z)) w)
    (h1 : ∀ v, (key, v) ∈ l → wpList P ops Q rest (a.put o.dst (if ok then .tuple #[v, .bool true] else v)) w) :
    wpList P ops Q (o :: rest) a w := by
  refine wpList_plain hg fun K' hK' => ?_
  unfold Oper.wp
  rcases h.lookup K ht hz hkey with ⟨⟨r1, r2⟩, r3⟩ | ⟨v, ⟨r1, r2⟩, r3⟩
  · cases ok
    · simp [execOp, hop, hm, hx, r2, Result.andThen]; exact hK' _ _ (h0 r3)
    · simp [execOp, hop, hm, hx, r1, Result.andThen]; exact hK' _ _ (h0 r3)
  · cases ok
    · simp [execOp, hop, hm, hx, r2, Result.andThen]; exact hK' _ _ (h1 v r3)
    · simp [execOp, hop, hm, hx, r1, Result.andThen]; exact hK' _ _ (h1 v r3)

theorem wpList_put
    (hg : o.guard = none) (m x v : Operand) (t : TypeId) (hop : o.op = Op.mapUpdate t m x v)
    (k e : TypeId) (K : Keyed P k) (ht : P.underlying t = some (.map k e)) (b : Nat) (l : List (Value × Value))
    (hm : a.eval m = .map (some b)) (h : MapHas P k w b l) (key val : Value) (kl : Lit) (hx : a.eval x = key) (hv : a.eval v = val) (hkey : keyOf P k key = some kl)
    (hK : ∀ w' l', MapHas P k w' b l' → w.grownBy w' (some b) → w'.heap.size = w.heap.size →
      (((∀ p ∈ l, p.1 ≠ key) ∧ l' = l ++ [(key, val)]) ∨ ∃ l1 l2 old, l = l1 ++ (key, old) :: l2 ∧ l' = l1 ++ (key, val) :: l2) → wpList P ops Q rest (a.put o.dst undef) w') :
    wpList P ops Q (o :: rest) a w := by
  refine wpList_plain hg fun K' hK' => ?_
  obtain ⟨w', l', r1, r2, r3, r4, r5, r6, r7, r8⟩ := h.put (e := e) K ht (val := val) hkey
  unfold Oper.wp
  simp [execOp, hop, hm, hx, hv, r1, Result.andThen]
  exact hK' _ _ (hK w' l' r2 ⟨r3, r4, r5, by omega, fun i _ hne => r7 i (fun e => hne (by rw [e]))⟩ r6 r8)
end

/-- 'for k, v := range m' under way: block b is a map with the entries l, block r an iterator over it; 'rest' is still to come. -/
def RangeOn (P : Program) (k : TypeId) (w : World) (b r : Nat) (l rest : List (Value × Value)) : Prop :=
  ∃ es clock since seen c0, w.heap[b]? = some (.map es clock) ∧ es.toList.map kv = l ∧ (∀ p ∈ l, ∃ q, keyOf P k p.1 = some q) ∧ (∀ e ∈ es.toList, e.born < clock) ∧ (es.toList.map (·.born)).Nodup ∧ (l.map (·.1)).Nodup ∧
    w.heap[r]? = some (.mapIter (some b) since seen c0) ∧ (∀ x ∈ es.toList, x.born < since) ∧ since ≤ c0 ∧ since ≤ clock ∧ (leftOf es seen).toList.map kv = rest

section
variable {P : Program} {k : TypeId} {w w' : World} {b r : Nat} {l rest : List (Value × Value)}
theorem RangeOn.has (h : RangeOn P k w b r l rest) : MapHas P k w b l := by
  obtain ⟨es, clock, since, seen, c0, h1, h2, h3, h4, h5, h6, _⟩ := h
  exact ⟨es, clock, h1, h2, h3, h4, h5, h6⟩
theorem RangeOn.lt (h : RangeOn P k w b r l rest) : r < w.heap.size := by
  obtain ⟨es, clock, since, seen, c0, _, _, _, _, _, _, h7, _⟩ := h
  exact (Array.getElem?_eq_some_iff.1 h7).1
theorem RangeOn.ne (h : RangeOn P k w b r l rest) : r ≠ b := by
  obtain ⟨es, clock, since, seen, c0, h1, _, _, _, _, _, h7, _⟩ := h
  intro e
  rw [e, h1] at h7
  cases h7
theorem RangeOn.kept {row : Option Nat} (h : RangeOn P k w b r l rest) (hg : w.grownBy w' row) (hb : some b ≠ row) (hr : some r ≠ row) : RangeOn P k w' b r l rest := by
  have e1 := hg.block b h.has.lt hb
  have e2 := hg.block r h.lt hr
  obtain ⟨es, clock, since, seen, c0, h1, h2, h3, h4, h5, h6, h7, h8⟩ := h
  exact ⟨es, clock, since, seen, c0, e1.trans h1, h2, h3, h4, h5, h6, e2.trans h7, h8⟩
theorem MapHas.ranged {t e : TypeId} (h : MapHas P k w b l) (ht : P.underlying t = some (.map k e)) :
    ∃ w', (Instr.range t (.map (some b))).run P w = .ok (.pointer (some ⟨w.heap.size, 0, none⟩)) w' ∧ RangeOn P k w' b w.heap.size l l ∧ w.grownBy w' none ∧ w'.heap.size = w.heap.size + 1 := by
  have hlt := h.lt
  obtain ⟨es, clock, h1, h2, h3, h4, h5, h6⟩ := h
  refine ⟨_, run_range_map w t k e b es clock ht h1, ⟨es, clock, clock, #[], clock, ((MapKept.heap_alloc w _).2 b hlt).trans h1, h2, h3, h4, h5, h6, (MapKept.heap_alloc w _).1, h4, Nat.le_refl _, Nat.le_refl _, ?_⟩, World.grownBy_alloc w _ none, by simp⟩
  rw [← h2]
  simp only [leftOf, Array.toList_filter]
  rw [List.filter_eq_self.2 (fun _ _ => by simp)]

theorem one_out {e : MapEntry} : ∀ {L : List MapEntry}, (L.map (·.born)).Nodup → e ∈ L → L.Perm (e :: L.filter fun x => !(x.born == e.born))
  | x :: L, hn, he => by
    simp only [List.map_cons, List.nodup_cons] at hn
    rcases List.mem_cons.1 he with rfl | he
    · have : (L.filter fun x => !(x.born == e.born)) = L := by
        rw [List.filter_eq_self]
        intro y hy
        have : y.born ≠ e.born := fun h => hn.1 (h ▸ List.mem_map.2 ⟨y, hy, rfl⟩)
        simp [this]
      simp [this]
    · have hx : x.born ≠ e.born := fun h => hn.1 (h ▸ List.mem_map.2 ⟨e, he, rfl⟩)
      have ih := one_out hn.2 he
      simp only [List.filter_cons, hx, Bool.not_eq_true', beq_eq_false_iff_ne, ne_eq, not_false_eq_true, if_true]
      exact (ih.cons x).trans (List.Perm.swap _ _ _)

theorem RangeOn.next (h : RangeOn P k w b r l rest) (ty : TypeId) :
    (rest = [] ∧ (Instr.next (.pointer (some ⟨r, 0, none⟩)) false ty).run P w = .ok (.tuple #[.bool false]) w) ∨
    ∃ p rest' w', p ∈ l ∧ rest.Perm (p :: rest') ∧ (Instr.next (.pointer (some ⟨r, 0, none⟩)) false ty).run P w = .ok (.tuple #[.bool true, p.1, p.2]) w' ∧ RangeOn P k w' b r l rest' ∧
      w.grownBy w' (some r) ∧ w'.heap.size = w.heap.size ∧ (Instr.entry (.pointer (some ⟨r, 0, none⟩))).run P w' = .ok (.tuple #[p.1, p.2]) w' := by
  have hne := h.ne
  obtain ⟨es, clock, since, seen, c0, hb, h2, h3, h4, h5, h6, hr, hold, hsc, hsk, hrest⟩ := h
  rcases run_next_at (P := P) w ty r b since c0 seen es clock hr hb hold hsc with ⟨h0, hrun⟩ | ⟨e, he, w1, hal, hrun⟩
  · refine .inl ⟨?_, hrun⟩
    rw [← hrest, Array.eq_empty_of_size_eq_zero h0]
    rfl
  · have hem : e ∈ es.toList := by
      simp only [leftOf, Array.toList_filter, List.mem_filter] at he
      exact he.1
    have hr1 : w1.heap[r]? = some (.mapIter (some b) since seen c0) := by rcases hal with rfl | rfl <;> exact hr
    have hb1 : w1.heap[b]? = some (.map es clock) := by rcases hal with rfl | rfl <;> exact hb
    have hrl : r < w1.heap.size := (Array.getElem?_eq_some_iff.1 hr1).1
    have hr' : (ChangeMaps.setBlock w1 r (.mapIter (some b) since (seen.push e.born) clock)).heap[r]? = some (.mapIter (some b) since (seen.push e.born) clock) := by
      simp [ChangeMaps.setBlock, hrl]
    have hb' : (ChangeMaps.setBlock w1 r (.mapIter (some b) since (seen.push e.born) clock)).heap[b]? = some (.map es clock) := by
      simp [ChangeMaps.setBlock, hne, hb1]
    have hpush : ∀ x : MapEntry, (!(seen.push e.born).contains x.born) = ((!seen.contains x.born) && !(x.born == e.born)) := fun x => by
      rw [Array.contains_push]
      cases seen.contains x.born <;> simp
    have hleft : (leftOf es (seen.push e.born)).toList = (leftOf es seen).toList.filter fun x => !(x.born == e.born) := by
      simp only [leftOf, Array.toList_filter, List.filter_filter]
      refine List.filter_congr fun x _ => ?_
      rw [hpush x, Bool.and_comm]
    have hnd : ((leftOf es seen).toList.map (·.born)).Nodup := by
      simp only [leftOf, Array.toList_filter]
      exact h5.sublist (List.Sublist.map _ List.filter_sublist)
    refine .inr ⟨kv e, (leftOf es (seen.push e.born)).toList.map kv, _, by rw [← h2]; exact List.mem_map.2 ⟨e, hem, rfl⟩, ?_, hrun,
      ⟨es, clock, since, seen.push e.born, clock, hb', h2, h3, h4, h5, h6, hr', hold, hsk, hsk, rfl⟩, ?_, ?_, ?_⟩
    · rw [← hrest, hleft]
      exact (one_out hnd he).map kv
    · rcases hal with rfl | rfl
      · exact ⟨rfl, rfl, rfl, by simp [ChangeMaps.setBlock], fun i _ hi => by
          have : r ≠ i := fun h => hi (by rw [h])
          simp [ChangeMaps.setBlock, this]⟩
      · exact ⟨rfl, rfl, rfl, by simp [ChangeMaps.setBlock], fun i _ hi => by
          have : r ≠ i := fun h => hi (by rw [h])
          simp [ChangeMaps.setBlock, this]; rfl⟩
    · rcases hal with rfl | rfl <;> simp [ChangeMaps.setBlock]
    · exact run_entry_at _ r b since seen es clock e hr' hb' hem h5
end

section
variable {P : Program} (w : World) {ops : Array Oper} {rest : List Oper} {o : Oper} {a : Act} {Q : Exit → Act → World → Prop}
theorem wpList_range_has (hg : o.guard = none) (m : Operand) (t : TypeId) (hop : o.op = Op.range t m) (k e : TypeId) (ht : P.underlying t = some (.map k e)) (b : Nat) (l : List (Value × Value))
    (hm : a.eval m = .map (some b)) (h : MapHas P k w b l)
    (hK : ∀ w', RangeOn P k w' b w.heap.size l l → w.grownBy w' none → w'.heap.size = w.heap.size + 1 → wpList P ops Q rest (a.put o.dst (.pointer (some ⟨w.heap.size, 0, none⟩))) w') :
    wpList P ops Q (o :: rest) a w := by
  refine wpList_plain hg fun K' hK' => ?_
  obtain ⟨w', hrun, r1, r2, r3⟩ := h.ranged ht
  unfold Oper.wp
  simp [execOp, hop, hm, hrun, Result.andThen]
  exact hK' _ _ (hK w' r1 r2 r3)
theorem wpList_next_on (hg : o.guard = none) (it : Operand) (hop : o.op = Op.next it false) (k : TypeId) (b r : Nat) (l left : List (Value × Value))
    (hit : a.eval it = .pointer (some ⟨r, 0, none⟩)) (h : RangeOn P k w b r l left)
    (hDone : left = [] → wpList P ops Q rest (a.put o.dst (.tuple #[.bool false])) w)
    (hMore : ∀ p left' w', p ∈ l → left.Perm (p :: left') → RangeOn P k w' b r l left' → w.grownBy w' (some r) → w'.heap.size = w.heap.size →
      (Instr.entry (.pointer (some ⟨r, 0, none⟩))).run P w' = .ok (.tuple #[p.1, p.2]) w' → wpList P ops Q rest (a.put o.dst (.tuple #[.bool true, p.1, p.2])) w') :
    wpList P ops Q (o :: rest) a w := by
  refine wpList_plain hg fun K' hK' => ?_
  unfold Oper.wp
  rcases h.next o.type with ⟨h0, hrun⟩ | ⟨p, rest', w', hp, hperm, hrun, hon, hgr, hsz, hen⟩
  · simp [execOp, hop, hit, hrun, Result.andThen]
    exact hK' _ _ (hDone h0)
  · simp [execOp, hop, hit, hrun, Result.andThen]
    exact hK' _ _ (hMore p rest' w' hp hperm hon hgr hsz hen)
end
end Go.Proofs.MapEnt
namespace Go.Proofs.MapEnt
open Go.RowKit Go.Proofs.Bag
open Go.Maps (Keyed)

instance : LawfulBEq ByteArray where
  eq_of_beq {a b} h := by
    have h' : (a.data == b.data) = true := h
    have := eq_of_beq h'
    cases a; cases b
    simp only at this
    rw [this]
  rfl {a} := by
    show (a.data == a.data) = true
    exact beq_self_eq_true _
abbrev Gram := List ByteArray
/-- A gram, as an array of four words. -/
def enc (g : Gram) : Value := .agg ((g ++ List.replicate (4 - g.length) ByteArray.empty).map Value.string).toArray
theorem enc_inj {g h : Gram} (hl : g.length = h.length) (e : enc g = enc h) : g = h := by
  simp only [enc, Value.agg.injEq] at e
  have e1 := congrArg Array.toList e
  simp only at e1
  have e2 := (List.map_inj_right (f := Value.string) (fun a b h => by cases h; rfl)).1 e1
  exact (List.append_inj e2 hl).1
def ent (gs : List Gram) (g : Gram) : Value × Value := (enc g, .int .i64 (gs.count g : Nat))

/-- Block b is a map that counts the grams gs. -/
def CMap (P : Program) (k : TypeId) (w : World) (b : Nat) (gs : List Gram) : Prop :=
  ∃ ks : List Gram, ks.Nodup ∧ (∀ g, g ∈ ks ↔ g ∈ gs) ∧ MapHas P k w b (ks.map (ent gs))

section
variable {P : Program} {k : TypeId} {w w' : World} {b n : Nat} {gs : List Gram} {g : Gram}
theorem CMap.new (P : Program) (k : TypeId) (w : World) : CMap P k (w.alloc (.map #[] 0)) w.heap.size [] := ⟨[], List.nodup_nil, fun _ => Iff.rfl, MapHas.new P k w⟩
theorem CMap.same (h : CMap P k w b gs) (e : w'.heap[b]? = w.heap[b]?) : CMap P k w' b gs := by
  obtain ⟨ks, h1, h2, h3⟩ := h
  exact ⟨ks, h1, h2, h3.same e⟩
theorem CMap.lt (h : CMap P k w b gs) : b < w.heap.size := by
  obtain ⟨ks, h1, h2, h3⟩ := h
  exact h3.lt
theorem look_none {ks : List Gram} (hm : ∀ g, g ∈ ks ↔ g ∈ gs) (h : ∀ p ∈ ks.map (ent gs), p.1 ≠ enc g) : gs.count g = 0 := by
  refine List.count_eq_zero.2 fun hg => ?_
  exact h _ (List.mem_map.2 ⟨g, (hm g).2 hg, rfl⟩) rfl
theorem look_some {ks : List Gram} (hm : ∀ g, g ∈ ks ↔ g ∈ gs) (hn : ∀ g ∈ gs, g.length = n) (hg : g.length = n) {v : Value} (h : (enc g, v) ∈ ks.map (ent gs)) : v = .int .i64 (gs.count g : Nat) := by
  obtain ⟨g', h1, h2⟩ := List.mem_map.1 h
  simp only [ent, Prod.mk.injEq] at h2
  have : g' = g := enc_inj (by rw [hn g' ((hm g').1 h1), hg]) h2.1
  subst this
  exact h2.2.symm
theorem CMap.put_ {l' : List (Value × Value)} {ks : List Gram} (h1 : ks.Nodup) (h2 : ∀ g, g ∈ ks ↔ g ∈ gs) (hn : ∀ g ∈ gs, g.length = n) (hg : g.length = n) (h : MapHas P k w' b l')
    (hl : ((∀ p ∈ ks.map (ent gs), p.1 ≠ enc g) ∧ l' = ks.map (ent gs) ++ [(enc g, .int .i64 ((gs.count g : Nat) + 1))]) ∨
      ∃ l1 l2 old, ks.map (ent gs) = l1 ++ (enc g, old) :: l2 ∧ l' = l1 ++ (enc g, .int .i64 ((gs.count g : Nat) + 1)) :: l2) : CMap P k w' b (gs ++ [g]) := by
  have hself : ent (gs ++ [g]) g = (enc g, .int .i64 ((gs.count g : Nat) + 1)) := by simp [ent]
  have hother : ∀ l : List Gram, g ∉ l → l.map (ent (gs ++ [g])) = l.map (ent gs) := fun l hl => by
    refine List.map_congr_left fun x hx => ?_
    have : g ≠ x := fun e => hl (e ▸ hx)
    simp only [ent, List.count_append]
    rw [List.count_cons_of_ne this, List.count_nil, Nat.add_zero]
  rcases hl with ⟨ha, rfl⟩ | ⟨l1, l2, old, e, rfl⟩
  · have hnot : g ∉ ks := fun hk => ha _ (List.mem_map.2 ⟨g, hk, rfl⟩) rfl
    refine ⟨ks ++ [g], List.nodup_append.2 ⟨h1, by simp, fun x hx y hy => ?_⟩, fun x => ?_, ?_⟩
    · obtain rfl := List.mem_singleton.1 hy
      exact fun e => hnot (e ▸ hx)
    · simp only [List.mem_append, List.mem_singleton, h2 x]
    · rw [List.map_append, hother ks hnot]
      simp only [List.map_cons, List.map_nil, hself]
      exact h
  · obtain ⟨k1, k3, rfl, rfl, e2⟩ := List.map_eq_append_iff.1 e
    obtain ⟨g', k2, rfl, e3, rfl⟩ := List.map_eq_cons_iff.1 e2
    have hg' : g' ∈ gs := (h2 g').1 (by simp)
    have : g' = g := enc_inj (by rw [hn g' hg', hg]) (Prod.mk.inj e3).1
    subst this
    have hnd := List.nodup_append.1 h1
    have hk1 : g' ∉ k1 := fun hx => hnd.2.2 g' hx g' (by simp) rfl
    have hk2 : g' ∉ k2 := (List.nodup_cons.1 hnd.2.1).1
    refine ⟨k1 ++ g' :: k2, h1, fun x => ?_, ?_⟩
    · rw [h2 x]
      simp only [List.mem_append, List.mem_singleton]
      exact ⟨.inl, fun h => h.elim id (fun e => e ▸ hg')⟩
    · rw [List.map_append, List.map_cons, hother k1 hk1, hother k2 hk2, hself]
      exact h
end

section
variable {P : Program} (w : World) {ops : Array Oper} {rest : List Oper} {o : Oper} {a : Act} {Q : Exit → Act → World → Prop}
theorem wpList_look_c (hgd : o.guard = none) (m x : Operand) (t : TypeId) (hop : o.op = Op.lookup t m x false)
    (k e : TypeId) (K : Keyed P k) (ht : P.underlying t = some (.map k e)) (hz : (zeroValue e).run P w = .ok (.int .i64 0) w) (b n : Nat) (gs : List Gram) (hn : ∀ g ∈ gs, g.length = n)
    (hm : a.eval m = .map (some b)) (h : CMap P k w b gs) (g : Gram) (hg : g.length = n) (kl : Lit) (hx : a.eval x = enc g) (hkey : keyOf P k (enc g) = some kl)
    (hK : wpList P ops Q rest (a.put o.dst (.int .i64 (gs.count g : Nat))) w) : wpList P ops Q (o :: rest) a w := by
  obtain ⟨ks, h1, h2, h3⟩ := h
  refine wpList_lookup_has w hgd m x t false hop k e K ht _ hz b _ hm h3 (enc g) kl hx hkey (fun hne => ?_) (fun v hv => ?_)
  · have := look_none h2 hne
    rw [this] at hK
    exact hK
  · rw [look_some h2 hn hg hv]
    exact hK
theorem wpList_put_c (hgd : o.guard = none) (m x v : Operand) (t : TypeId) (hop : o.op = Op.mapUpdate t m x v)
    (k e : TypeId) (K : Keyed P k) (ht : P.underlying t = some (.map k e)) (b n : Nat) (gs : List Gram) (hn : ∀ g ∈ gs, g.length = n)
    (hm : a.eval m = .map (some b)) (h : CMap P k w b gs) (g : Gram) (hg : g.length = n) (kl : Lit) (hx : a.eval x = enc g) (hkey : keyOf P k (enc g) = some kl) (hv : a.eval v = .int .i64 ((gs.count g : Nat) + 1))
    (hK : ∀ w', CMap P k w' b (gs ++ [g]) → w.grownBy w' (some b) → w'.heap.size = w.heap.size → wpList P ops Q rest (a.put o.dst undef) w') : wpList P ops Q (o :: rest) a w := by
  obtain ⟨ks, h1, h2, h3⟩ := h
  exact wpList_put w hgd m x v t hop k e K ht b _ hm h3 (enc g) _ kl hx hv hkey fun w' l' r1 r2 r3 r4 => hK w' (CMap.put_ h1 h2 hn hg r1 r4) r2 r3
end

/-- A range over the counts of gs is under way; rk is still to come. -/
def COn (P : Program) (k : TypeId) (w : World) (b r : Nat) (gs rk : List Gram) : Prop :=
  ∃ (ks : List Gram) (rest : List (Value × Value)), ks.Nodup ∧ (∀ g, g ∈ ks ↔ g ∈ gs) ∧ RangeOn P k w b r (ks.map (ent gs)) rest ∧ rest.Perm (rk.map (ent gs)) ∧ ∀ g ∈ rk, g ∈ gs
section
variable {P : Program} {k : TypeId} {w w' : World} {b r : Nat} {gs rk : List Gram}
theorem COn.has (h : COn P k w b r gs rk) : CMap P k w b gs := by
  obtain ⟨ks, rest, h1, h2, h3, _⟩ := h
  exact ⟨ks, h1, h2, h3.has⟩
theorem COn.kept {row : Option Nat} (h : COn P k w b r gs rk) (hg : w.grownBy w' row) (hb : some b ≠ row) (hr : some r ≠ row) : COn P k w' b r gs rk := by
  obtain ⟨ks, rest, h1, h2, h3, h4⟩ := h
  exact ⟨ks, rest, h1, h2, h3.kept hg hb hr, h4⟩
end
section
variable {P : Program} {k : TypeId} (w : World) {ops : Array Oper} {rest : List Oper} {o : Oper} {a : Act} {Q : Exit → Act → World → Prop}
theorem wpList_range_c (hgd : o.guard = none) (m : Operand) (t : TypeId) (hop : o.op = Op.range t m) (e : TypeId) (ht : P.underlying t = some (.map k e)) (b : Nat) (gs : List Gram)
    (hm : a.eval m = .map (some b)) (h : CMap P k w b gs)
    (hK : ∀ w' (ks : List Gram), ks.Nodup → (∀ g, g ∈ ks ↔ g ∈ gs) → COn P k w' b w.heap.size gs ks → w.grownBy w' none → w'.heap.size = w.heap.size + 1 → wpList P ops Q rest (a.put o.dst (.pointer (some ⟨w.heap.size, 0, none⟩))) w') :
    wpList P ops Q (o :: rest) a w := by
  obtain ⟨ks, h1, h2, h3⟩ := h
  exact wpList_range_has w hgd m t hop k e ht b _ hm h3 fun w' r1 r2 r3 => hK w' ks h1 h2 ⟨ks, _, h1, h2, r1, .refl _, fun g hg => (h2 g).1 hg⟩ r2 r3
theorem wpList_next_c (hgd : o.guard = none) (it : Operand) (hop : o.op = Op.next it false) (b r : Nat) (gs rk : List Gram)
    (hit : a.eval it = .pointer (some ⟨r, 0, none⟩)) (h : COn P k w b r gs rk)
    (hDone : rk = [] → wpList P ops Q rest (a.put o.dst (.tuple #[.bool false])) w)
    (hMore : ∀ g rk' w', g ∈ gs → rk.Perm (g :: rk') → COn P k w' b r gs rk' → w.grownBy w' (some r) → w'.heap.size = w.heap.size →
      (Instr.entry (.pointer (some ⟨r, 0, none⟩))).run P w' = .ok (.tuple #[enc g, .int .i64 (gs.count g : Nat)]) w' → wpList P ops Q rest (a.put o.dst (.tuple #[.bool true, enc g, .int .i64 (gs.count g : Nat)])) w') :
    wpList P ops Q (o :: rest) a w := by
  obtain ⟨ks, left, h1, h2, h3, h4, h5⟩ := h
  refine wpList_next_on w hgd it hop k b r _ left hit h3 (fun e => ?_) (fun p left' w' hp hperm hon hgr hsz hen => ?_)
  · subst e
    refine hDone ?_
    have := List.map_eq_nil_iff.1 (List.Perm.nil_eq h4).symm
    exact this
  · have hp' : p ∈ rk.map (ent gs) := (hperm.symm.trans h4).mem_iff.1 (by simp)
    obtain ⟨g, hg, rfl⟩ := List.mem_map.1 hp'
    have hsplit : rk.Perm (g :: rk.erase g) := List.perm_cons_erase hg
    have h6 : left'.Perm ((rk.erase g).map (ent gs)) := by
      have : (ent gs g :: left').Perm (ent gs g :: (rk.erase g).map (ent gs)) := (hperm.symm.trans h4).trans (hsplit.map (ent gs))
      exact this.cons_inv
    exact hMore g (rk.erase g) w' (h5 g hg) hsplit ⟨ks, left', h1, h2, hon, h6, fun x hx => h5 x (List.mem_of_mem_erase hx)⟩ hgr hsz hen
end

def zeroG (n : Nat) : Gram := List.replicate n ByteArray.empty
/-- What an entry adds to the sum. -/
def part (n : Nat) (gx gy : List Gram) (g : Gram) : Nat := if g = zeroG n ∧ n ≠ 1 then 0 else min (gx.count g) (gy.count g)
def sumP (n : Nat) (gx gy : List Gram) (l : List Gram) : Nat := (l.map (part n gx gy)).sum
theorem sumP_perm {n : Nat} {gx gy l l' : List Gram} (h : l.Perm l') : sumP n gx gy l = sumP n gx gy l' := by
  unfold sumP
  induction h with
  | nil => rfl
  | cons x _ ih => simp only [List.map_cons, List.sum_cons, ih]
  | swap x y l => simp only [List.map_cons, List.sum_cons]; omega
  | trans _ _ h1 h2 => exact h1.trans h2
theorem sumP_cons (n : Nat) (gx gy : List Gram) (g : Gram) (l : List Gram) : sumP n gx gy (g :: l) = part n gx gy g + sumP n gx gy l := rfl
theorem sumP_one {gx gy ks : List Gram} (h1 : ks.Nodup) (h2 : ∀ g, g ∈ ks ↔ g ∈ gx) : sumP 1 gx gy ks = mm gx gy := by
  rw [mm_sk gx gy ks h1 (fun x hx _ => (h2 x).2 hx)]
  unfold sumP sk
  congr 1
  refine List.map_congr_left fun g _ => ?_
  simp [part]
theorem sumP_more {n : Nat} (hn : n ≠ 1) {gx gy : List Gram} : ∀ {ks : List Gram}, ks.Nodup → sumP n gx gy ks + (if zeroG n ∈ ks then min (gx.count (zeroG n)) (gy.count (zeroG n)) else 0) = sk ks gx gy
  | [], _ => rfl
  | k :: ks, h => by
    obtain ⟨hk, hnd⟩ := List.nodup_cons.1 h
    have ih := sumP_more hn (gx := gx) (gy := gy) hnd
    simp only [sumP_cons, sk, List.map_cons, List.sum_cons] at ih ⊢
    by_cases e : k = zeroG n
    · subst e
      simp only [hk, if_false, List.mem_cons, true_or, if_true, part, hn, ne_eq, not_false_eq_true, and_self] at ih ⊢
      omega
    · have e' : ¬ zeroG n = k := fun h => e h.symm
      simp only [List.mem_cons, e', false_or, part, e, false_and, if_false] at ih ⊢
      omega
theorem sumP_all {n : Nat} (hn : n ≠ 1) {gx gy ks : List Gram} (h1 : ks.Nodup) (h2 : ∀ g, g ∈ ks ↔ g ∈ gx) : sumP n gx gy ks + min (gx.count (zeroG n)) (gy.count (zeroG n)) = mm gx gy := by
  rw [mm_sk gx gy ks h1 (fun x hx _ => (h2 x).2 hx), ← sumP_more hn h1]
  by_cases hz : zeroG n ∈ ks
  · rw [if_pos hz]
  · rw [if_neg hz, List.count_eq_zero.2 (fun h => hz ((h2 _).2 h))]
    simp
end Go.Proofs.MapEnt
namespace Go.Proofs.MapEnt
open Go.RowKit Go.Proofs.Bag
open Go.Maps (Keyed)
open Go.ChangeMaps (setBlock)

section
variable {P : Program} {k : TypeId} {w : World} {b n : Nat} {l : List (Value × Value)} {gs : List Gram} {g : Gram}
theorem one_key : ∀ {L : List MapEntry}, (L.map (·.key)).Nodup → ∀ {x y : MapEntry}, x ∈ L → y ∈ L → x.key = y.key → x = y
  | [], _, _, _, h, _, _ => by cases h
  | a :: L, hn, x, y, hx, hy, e => by
    simp only [List.map_cons, List.nodup_cons] at hn
    rcases List.mem_cons.1 hx with e1 | hx'
    · rcases List.mem_cons.1 hy with e2 | hy'
      · rw [e1, e2]
      · exact (hn.1 (List.mem_map.2 ⟨y, hy', by rw [← e, e1]⟩)).elim
    · rcases List.mem_cons.1 hy with e2 | hy'
      · exact (hn.1 (List.mem_map.2 ⟨x, hx', by rw [e, e2]⟩)).elim
      · exact one_key hn.2 hx' hy' e
theorem entry_store {t e : TypeId} (K : Keyed P k) (ht : P.underlying t = some (.map k e)) {z : Value} (hz : ∀ u : World, (zeroValue e).run P u = .ok z u) {es : Array MapEntry} {clock : Nat} (hb : w.heap[b]? = some (.map es clock))
    (hkeys : ∀ x ∈ es.toList, ∃ q, keyOf P k x.key = some q) (s1 : ∀ x ∈ es.toList, x.born < clock) (s2 : (es.toList.map (·.born)).Nodup) (hkn : (es.toList.map (·.key)).Nodup) {key : Value} {kl : Lit} (hkey : keyOf P k key = some kl) :
    ∃ (v0 : Value) (st : Nat) (es1 : Array MapEntry) (clock1 : Nat), (Instr.mapEntry t (.map (some b)) key).run P w = .ok (.tuple #[v0, .int .i64 st]) (setBlock w b (.map es1 clock1)) ∧
      ∀ (w2 : World) (val : Value), w2.heap[b]? = some (.map es1 clock1) → ∃ es' clock', (Instr.entryStore t (.map (some b)) (.int .i64 st) val).run P w2 = .ok () (setBlock w2 b (.map es' clock')) ∧
        (Instr.mapUpdate t (.map (some b)) key val).run P w = .ok () (setBlock w b (.map es' clock')) ∧
        ∃ v, (Instr.lookup t (.map (some b)) key false).run P w = .ok v w ∧ (Instr.lookup t (.map (some b)) key false).run P w2 = .ok v w2 := by
  rcases K.find w hkey es.toList hkeys with ⟨h1, h2⟩ | ⟨j, e0, h1, h2, h3⟩
  · refine ⟨z, clock, es.push ⟨key, z, clock⟩, clock + 1, ?_, fun w2 val hw2 => ⟨es.push ⟨key, val, clock⟩, clock + 1, ?_, ?_, z, ?_, ?_⟩⟩
    · simp [Instr.mapEntry, run_underlying ht, MapKept.run_getObj_map hb, K.check w false hkey, h1, hz, MapKept.run_setObj_map _ hb, Result.andThen, setBlock, goInt]
    · have hidx : (es.push ⟨key, z, clock⟩).findIdx? (fun e => ((e.born : Nat) : Int) == ((clock : Nat) : Int)) = some es.size := by
        rw [WideElems.findIdx_arr]
        have := WideElems.findIdx_born (l := (es.push ⟨key, z, clock⟩).toList) (j := es.size) (e0 := ⟨key, z, clock⟩) (by
          simp only [Array.toList_push, List.map_append, List.map_cons, List.map_nil]
          refine List.nodup_append.2 ⟨s2, by simp, fun a ha c hc e1 => ?_⟩
          simp only [List.mem_singleton] at hc
          obtain ⟨x, hx, rfl⟩ := List.mem_map.1 ha
          have := s1 x hx
          omega) (by simp)
        exact this
      have hmod : (es.push ⟨key, z, clock⟩).modify es.size (fun e => { e with val := val }) = es.push ⟨key, val, clock⟩ := by
        apply Array.ext'
        rw [Array.toList_modify, Array.toList_push, Array.toList_push, ← Array.length_toList, WideElems.modify_last]
      simp [Instr.entryStore, MapKept.run_getObj_map hw2, asInt, asIntOf, hidx, hmod, MapKept.run_setObj_map _ hw2, Result.andThen, setBlock]
    · simp [Instr.mapUpdate, run_underlying ht, MapKept.run_getObj_map hb, K.check w false hkey, h1, MapKept.run_setObj_map _ hb, Result.andThen, setBlock]
    · simp [Instr.lookup, run_underlying ht, MapKept.run_getObj_map hb, K.check w _ hkey, h1, hz, Result.andThen]
    · rcases K.find w2 hkey (es.push ⟨key, z, clock⟩).toList (fun x hx => by
        simp only [Array.toList_push, List.mem_append, List.mem_singleton] at hx
        rcases hx with hx | rfl
        · exact hkeys x hx
        · exact ⟨kl, hkey⟩) with ⟨_, q2⟩ | ⟨j, e1, q1, q2, q3⟩
      · exact absurd rfl (q2 ⟨key, z, clock⟩ (by simp))
      · have hm := List.mem_of_getElem? q2
        simp only [Array.toList_push, List.mem_append, List.mem_singleton] at hm
        have hv : e1.val = z := by
          rcases hm with hm | rfl
          · exact absurd q3 (h2 e1 hm)
          · rfl
        rw [hv] at q1
        simp only [Array.toList_push] at q1
        simp [Instr.lookup, run_underlying ht, MapKept.run_getObj_map hw2, K.check w2 _ hkey, q1, Result.andThen]
  · have hj : es[j]? = some e0 := by simpa using h2
    have hsame : es.modify j (fun e => { e with key := key }) = es := by
      apply Array.ext'
      rw [Array.toList_modify, ChangeMaps.modify_eq_set _ _ _ _ h2]
      have : ({ e0 with key := key } : MapEntry) = e0 := by rw [← h3]
      rw [this]
      exact WideElems.set_self _ _ _ h2
    refine ⟨e0.val, e0.born, es, clock, ?_, fun w2 val hw2 => ⟨es.modify j (fun e' => { e' with key := key, val := val }), clock, ?_, ?_, e0.val, ?_, ?_⟩⟩
    · simp [Instr.mapEntry, run_underlying ht, MapKept.run_getObj_map hb, K.check w false hkey, h1, hj, h3, K.stays w hkey, hsame, MapKept.run_setObj_map _ hb, Result.andThen, setBlock, goInt]
    · have hidx : es.findIdx? (fun e => ((e.born : Nat) : Int) == ((e0.born : Nat) : Int)) = some j := by
        rw [WideElems.findIdx_arr]
        exact WideElems.findIdx_born s2 h2
      have hmod : es.modify j (fun e => { e with val := val }) = es.modify j (fun e' => { e' with key := key, val := val }) := by
        apply Array.ext'
        rw [Array.toList_modify, Array.toList_modify, ChangeMaps.modify_eq_set _ _ _ _ h2, ChangeMaps.modify_eq_set _ _ _ _ h2, ← h3]
      simp [Instr.entryStore, MapKept.run_getObj_map hw2, asInt, asIntOf, hidx, hmod, MapKept.run_setObj_map _ hw2, Result.andThen, setBlock]
    · simp [Instr.mapUpdate, run_underlying ht, MapKept.run_getObj_map hb, K.check w false hkey, h1, hj, h3, K.stays w hkey, MapKept.run_setObj_map _ hb, Result.andThen, setBlock]
    · simp [Instr.lookup, run_underlying ht, MapKept.run_getObj_map hb, K.check w _ hkey, h1, Result.andThen]
    · rcases K.find w2 hkey es.toList hkeys with ⟨_, q2⟩ | ⟨j', e1, q1, q2, q3⟩
      · exact absurd h3 (q2 e0 (List.mem_of_getElem? h2))
      · have hv : e1 = e0 := one_key hkn (List.mem_of_getElem? q2) (List.mem_of_getElem? h2) (q3.trans h3.symm)
        rw [hv] at q1
        simp [Instr.lookup, run_underlying ht, MapKept.run_getObj_map hw2, K.check w2 _ hkey, q1, Result.andThen]

theorem setBlock_two (w : World) (b : Nat) (o1 o2 : Obj) : setBlock (setBlock w b o1) b o2 = setBlock w b o2 := by
  simp [setBlock]

/-- One more of g. -/
theorem CMap.incr {t e : TypeId} (K : Keyed P k) (ht : P.underlying t = some (.map k e)) (hz : ∀ u : World, (zeroValue e).run P u = .ok (.int .i64 0) u) (hn : ∀ g ∈ gs, g.length = n) (h : CMap P k w b gs) (hg : g.length = n)
    {kl : Lit} (hkey : keyOf P k (enc g) = some kl) :
    ∃ v0 st w1 w2, (Instr.lookup t (.map (some b)) (enc g) false).run P w = .ok (.int .i64 (gs.count g : Nat)) w ∧ (Instr.lookup t (.map (some b)) (enc g) false).run P w1 = .ok (.int .i64 (gs.count g : Nat)) w1 ∧ (Instr.mapEntry t (.map (some b)) (enc g)).run P w = .ok (.tuple #[v0, .int .i64 st]) w1 ∧
      (Instr.entryStore t (.map (some b)) (.int .i64 st) (.int .i64 ((gs.count g : Nat) + 1))).run P w1 = .ok () w2 ∧ CMap P k w2 b (gs ++ [g]) ∧ w.grownBy w2 (some b) ∧ w2.heap.size = w.heap.size := by
  obtain ⟨ks, h1, h2, h3⟩ := h
  obtain ⟨es, clock, hb, hl, hkeys, hs1, hs2, hnd⟩ := id h3
  have hlt := h3.lt
  obtain ⟨v0, st, es1, c1, r1, r2⟩ := entry_store (w := w) K ht hz hb (fun x hx => hkeys (kv x) (by rw [← hl]; exact List.mem_map.2 ⟨x, hx, rfl⟩)) hs1 hs2 (by rw [← hl, List.map_map] at hnd; exact hnd) hkey
  obtain ⟨es', c', r3, r4, v, l1, l2⟩ := r2 (setBlock w b (.map es1 c1)) (.int .i64 ((gs.count g : Nat) + 1)) (by simp [setBlock, hlt])
  obtain ⟨w2, l', p1, p2, p3, p4, p5, p6, p7, p8⟩ := h3.put (e := e) K ht (val := .int .i64 ((gs.count g : Nat) + 1)) hkey
  rw [setBlock_two] at r3
  have hw2 : w2 = setBlock w b (.map es' c') := by
    rw [r4] at p1
    cases p1
    rfl
  have hv : (Instr.lookup t (.map (some b)) (enc g) false).run P w = .ok (.int .i64 (gs.count g : Nat)) w := by
    rcases h3.lookup K ht (hz w) hkey with ⟨⟨_, q⟩, r3⟩ | ⟨v, ⟨_, q⟩, r3⟩
    · rw [q, look_none h2 r3]
      rfl
    · rw [q, look_some h2 hn hg r3]
  have e : v = .int .i64 (gs.count g : Nat) := by
    rw [l1] at hv
    cases hv
    rfl
  rw [e] at l2
  exact ⟨v0, st, _, w2, hv, l2, r1, by rw [hw2]; exact r3, CMap.put_ h1 h2 hn hg p2 p8, ⟨p3, p4, p5, by omega, fun i _ hne => p7 i (fun e => hne (by rw [e]))⟩, p6⟩
end
end Go.Proofs.MapEnt
namespace Go.Proofs.Bag
section
variable {α : Type} [BEq α] [LawfulBEq α]
/-- What is left of a list when the marked places are gone. -/
def rest : List α → (Nat → Bool) → List α
  | [], _ => []
  | x :: l, u => if u 0 then rest l (fun i => u (i + 1)) else x :: rest l (fun i => u (i + 1))
def mark (u : Nat → Bool) (k : Nat) : Nat → Bool := fun i => if i = k then true else u i
omit [BEq α] [LawfulBEq α] in
theorem rest_none : ∀ l : List α, rest l (fun _ => false) = l
  | [] => rfl
  | x :: l => by simp only [rest, Bool.false_eq_true, if_false, rest_none l]
omit [BEq α] [LawfulBEq α] in
theorem rest_mem {g : α} : ∀ {l : List α} {u : Nat → Bool}, g ∈ rest l u → ∃ k, ∃ h : k < l.length, u k = false ∧ l[k] = g
  | [], _, h => by cases h
  | x :: l, u, h => by
    simp only [rest] at h
    split at h
    · obtain ⟨k, h1, h2, h3⟩ := rest_mem h
      exact ⟨k + 1, by simp; omega, h2, h3⟩
    · rename_i hu
      rcases List.mem_cons.1 h with rfl | h
      · exact ⟨0, by simp, by simpa using hu, rfl⟩
      · obtain ⟨k, h1, h2, h3⟩ := rest_mem h
        exact ⟨k + 1, by simp; omega, h2, h3⟩
omit [BEq α] [LawfulBEq α] in
theorem mem_rest : ∀ {l : List α} {u : Nat → Bool} (k : Nat) (h : k < l.length), u k = false → l[k] ∈ rest l u
  | x :: l, u, 0, _, hu => by simp [rest, hu]
  | x :: l, u, k + 1, h, hu => by
    have ih := mem_rest (l := l) (u := fun i => u (i + 1)) k (by simpa using h) hu
    simp only [rest, List.getElem_cons_succ]
    split
    · exact ih
    · exact List.mem_cons_of_mem _ ih
theorem rest_mark : ∀ {l : List α} {u : Nat → Bool} (k : Nat) (h : k < l.length), u k = false → (∀ j (hj : j < k), u j = false → l[j] ≠ l[k]) → rest l (mark u k) = (rest l u).erase l[k]
  | x :: l, u, 0, _, hu, _ => by
    have e : (fun i => mark u 0 (i + 1)) = fun i => u (i + 1) := by funext i; simp [mark]
    simp only [rest, e]
    simp [mark, hu]
  | x :: l, u, k + 1, h, hu, hno => by
    have e : (fun i => mark u (k + 1) (i + 1)) = mark (fun i => u (i + 1)) k := by funext i; simp [mark]
    have ih := rest_mark (l := l) (u := fun i => u (i + 1)) k (by simpa using h) hu (fun j hj hj' => by
      have := hno (j + 1) (by omega) hj'
      simpa using this)
    have e0 : mark u (k + 1) 0 = u 0 := by simp [mark]
    simp only [rest, e, e0, List.getElem_cons_succ]
    split
    · exact ih
    · rename_i hx
      have hne := hno 0 (by omega) (by simpa using hx)
      simp only [List.getElem_cons_zero, List.getElem_cons_succ] at hne
      rw [List.erase_cons_tail (by simpa using hne), ih]
theorem mm_hit {x : α} {l m : List α} (h : x ∈ m) : mm (x :: l) m = 1 + mm l (m.erase x) := by simp only [mm]; rw [if_pos h]
theorem mm_miss {x : α} {l m : List α} (h : x ∉ m) : mm (x :: l) m = mm l m := by simp only [mm]; rw [if_neg h]
/-- One round: a place is found that is free and the first of its kind. -/
theorem mm_found {ga gb : List α} {u : Nat → Bool} {i k : Nat} (hi : i < ga.length) (hk : k < gb.length) (hu : u k = false) (he : ga[i] = gb[k]) (hno : ∀ j (hj : j < k), u j = false → gb[j] ≠ ga[i]) :
    mm (ga.drop i) (rest gb u) = 1 + mm (ga.drop (i + 1)) (rest gb (mark u k)) := by
  rw [rest_mark k hk hu (fun j hj hj' => by rw [← he]; exact hno j hj hj'), List.drop_eq_getElem_cons hi, mm_hit (by rw [he]; exact mem_rest k hk hu), he]
theorem mm_none {ga gb : List α} {u : Nat → Bool} {i : Nat} (hi : i < ga.length) (hno : ∀ j (hj : j < gb.length), u j = false → gb[j] ≠ ga[i]) :
    mm (ga.drop i) (rest gb u) = mm (ga.drop (i + 1)) (rest gb u) := by
  rw [List.drop_eq_getElem_cons hi, mm_miss (fun h => by obtain ⟨k, h1, h2, h3⟩ := rest_mem h; exact hno k h1 h2 h3)]
end
end Go.Proofs.Bag
