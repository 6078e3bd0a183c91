/- A map's block, told as the list of its entries: made, looked up, stored into, ranged over. -/
import Derived.WalkKit
import Derived.WalkSpells
import Derived.Maps.Keyed
import Derived.Maps.OwnOps
import Derived.Maps.RangeWalk
import Derived.DeepKeys4
import Derived.Deep.Draws
import Derived.Laws.OwnMore
import Derived.Laws.Rows
namespace Go.Proofs.MapEnt
open Go.RowKit
open Go.Maps (Keyed)

def kv (e : MapEntry) : Value × Value := (e.key, e.val)

/-- block b is a map that holds just these entries, in this order, no key twice; each key is one that the model lets be a key. -/
def MapHas (P : Program) (k : TypeId) (w : World) (b : Nat) (l : List (Value × Value)) : Prop :=
  ∃ es clock, w.heap[b]? = some (.map es clock) ∧ es.toList.map kv = l ∧ (∀ p ∈ l, ∃ q, keyOf P k p.1 = some q) ∧ (∀ e ∈ es.toList, e.born < clock) ∧ (es.toList.map (·.born)).Nodup ∧ (l.map (·.1)).Nodup

section
variable {P : Program} {k : TypeId} {w w' : World} {b : Nat} {l : List (Value × Value)}
theorem MapHas.new (P : Program) (k : TypeId) (w : World) : MapHas P k (w.alloc (.map #[] 0)) w.heap.size [] :=
  ⟨#[], 0, heap_alloc_new w _, rfl, fun _ h => (by cases h), fun _ h => (by cases h), List.nodup_nil, List.nodup_nil⟩
theorem MapHas.same (h : MapHas P k w b l) (e : w'.heap[b]? = w.heap[b]?) : MapHas P k w' b l := by
  obtain ⟨es, c, h1, h2⟩ := h
  exact ⟨es, c, e.trans h1, h2⟩
theorem MapHas.lt (h : MapHas P k w b l) : b < w.heap.size := by
  obtain ⟨es, c, h1, _⟩ := h
  exact (Array.getElem?_eq_some_iff.1 h1).1
theorem MapHas.alloc (h : MapHas P k w b l) (o : Obj) : MapHas P k (w.alloc o) b l := h.same (Below.heap_alloc w o b h.lt)
theorem MapHas.grown {row : Option Nat} (h : MapHas P k w b l) (hb : w.grownBy w' row) (hg : some b ≠ row) : MapHas P k w' b l := h.same (hb.block b h.lt hg)
theorem MapHas.nodup (h : MapHas P k w b l) : (l.map (·.1)).Nodup := by
  obtain ⟨_, _, _, _, _, _, _, h⟩ := h
  exact h

theorem MapHas.find (K : Keyed P k) (h : MapHas P k w b l) {key : Value} {q : Lit} (hk : keyOf P k key = some q) :
    ∃ es clock, w.heap[b]? = some (.map es clock) ∧ es.toList.map kv = l ∧ (∀ e ∈ es.toList, e.born < clock) ∧ (es.toList.map (·.born)).Nodup ∧
      (((Instr.findKey k key es.toList).run P w = .ok none w ∧ ∀ p ∈ l, p.1 ≠ key) ∨ ∃ j e, (Instr.findKey k key es.toList).run P w = .ok (some (j, e.val)) w ∧ es.toList[j]? = some e ∧ e.key = key ∧ (key, e.val) ∈ l) := by
  obtain ⟨es, c, h1, h2, h3, h4, h5, _⟩ := h
  refine ⟨es, c, h1, h2, h4, h5, ?_⟩
  rcases K.find w hk es.toList (fun e he => h3 (e.key, e.val) (by rw [← h2]; exact List.mem_map.2 ⟨e, he, rfl⟩)) with ⟨r1, r2⟩ | ⟨j, e, r1, r2, r3⟩
  · refine .inl ⟨r1, fun p hp => ?_⟩
    rw [← h2] at hp
    obtain ⟨e, he, rfl⟩ := List.mem_map.1 hp
    exact r2 e he
  · refine .inr ⟨j, e, r1, r2, r3, ?_⟩
    rw [← h2, ← r3]
    exact List.mem_map.2 ⟨e, List.mem_of_getElem? r2, rfl⟩

theorem MapHas.lookup {t e : TypeId} (K : Keyed P k) (ht : P.underlying t = some (.map k e)) {z : Value} (hz : (zeroValue e).run P w = .ok z w) (h : MapHas P k w b l)
    {key : Value} {q : Lit} (hk : keyOf P k key = some q) :
    (((Instr.lookup t (.map (some b)) key true).run P w = .ok (.tuple #[z, .bool false]) w ∧ (Instr.lookup t (.map (some b)) key false).run P w = .ok z w) ∧ ∀ p ∈ l, p.1 ≠ key) ∨
    ∃ v, ((Instr.lookup t (.map (some b)) key true).run P w = .ok (.tuple #[v, .bool true]) w ∧ (Instr.lookup t (.map (some b)) key false).run P w = .ok v w) ∧ (key, v) ∈ l := by
  obtain ⟨es, c, h1, h2, _, _, h3⟩ := h.find K hk
  have hg := MapKept.run_getObj_map (P := P) h1
  rcases h3 with ⟨r1, r2⟩ | ⟨j, e0, r1, _, _, r2⟩
  · exact .inl ⟨⟨by simp [Instr.lookup, run_underlying ht, hg, K.check w _ hk, r1, hz, Result.andThen], by simp [Instr.lookup, run_underlying ht, hg, K.check w _ hk, r1, hz, Result.andThen]⟩, r2⟩
  · exact .inr ⟨e0.val, ⟨by simp [Instr.lookup, run_underlying ht, hg, K.check w _ hk, r1, Result.andThen], by simp [Instr.lookup, run_underlying ht, hg, K.check w _ hk, r1, Result.andThen]⟩, r2⟩

/-- A store: a new key at the end, or a key that was there, its value turned. -/
theorem MapHas.put {t e : TypeId} (K : Keyed P k) (ht : P.underlying t = some (.map k e)) (h : MapHas P k w b l) {key val : Value} {q : Lit} (hk : keyOf P k key = some q) :
    ∃ w' l', (Instr.mapUpdate t (.map (some b)) key val).run P w = .ok () w' ∧ MapHas P k w' b l' ∧ w'.os = w.os ∧ w'.tape = w.tape ∧ w'.output = w.output ∧ w'.heap.size = w.heap.size ∧
      (∀ i, i ≠ b → w'.heap[i]? = w.heap[i]?) ∧ (((∀ p ∈ l, p.1 ≠ key) ∧ l' = l ++ [(key, val)]) ∨ ∃ l1 l2 old, l = l1 ++ (key, old) :: l2 ∧ l' = l1 ++ (key, val) :: l2) := by
  have hlt := h.lt
  have hnd := h.nodup
  obtain ⟨_, _, _, _, hkeys, _⟩ := id h
  obtain ⟨es, c, h1, h2, h4, h5, h3⟩ := h.find K hk
  have hg := MapKept.run_getObj_map (P := P) h1
  rcases h3 with ⟨r1, r2⟩ | ⟨j, e0, r1, r2, r3, r4⟩
  · refine ⟨{ w with heap := w.heap.setIfInBounds b (.map (es.push { key, val, born := c }) (c + 1)) }, l ++ [(key, val)], ?_, ⟨es.push { key, val, born := c }, c + 1, ?_, ?_, ?_, ?_, ?_, ?_⟩, rfl, rfl, rfl, by simp, fun i hi => ?_, .inl ⟨r2, rfl⟩⟩
    · simp [Instr.mapUpdate, run_underlying ht, hg, K.check w _ hk, r1, Result.andThen, setObj, Sem.run, h1]
    · simp [hlt]
    · simp [h2, kv]
    · intro p hp
      rcases List.mem_append.1 hp with hp | hp
      · exact hkeys p hp
      · obtain rfl := List.mem_singleton.1 hp; exact ⟨q, hk⟩
    · intro x hx
      simp only [Array.toList_push, List.mem_append, List.mem_singleton] at hx
      rcases hx with hx | rfl
      · have := h4 x hx; omega
      · exact Nat.lt_succ_self _
    · simp only [Array.toList_push, List.map_append, List.map_cons, List.map_nil]
      refine List.nodup_append.2 ⟨h5, by simp, fun x hx y hy => ?_⟩
      obtain ⟨z, hz, rfl⟩ := List.mem_map.1 hx
      obtain rfl := List.mem_singleton.1 hy
      have := h4 z hz
      omega
    · simp only [List.map_append, List.map_cons, List.map_nil]
      refine List.nodup_append.2 ⟨hnd, by simp, fun x hx y hy => ?_⟩
      obtain ⟨z, hz, rfl⟩ := List.mem_map.1 hx
      obtain rfl := List.mem_singleton.1 hy
      exact r2 z hz
    · simp [Ne.symm hi]
  · have hj : es[j]? = some e0 := by simpa using r2
    have hjl : j < es.toList.length := (List.getElem?_eq_some_iff.1 r2).1
    have hje : es.toList[j] = e0 := (List.getElem?_eq_some_iff.1 r2).2
    have hlist : (es.modify j (fun e' => { e' with key := key, val := val })).toList = es.toList.take j ++ { e0 with key := key, val := val } :: es.toList.drop (j + 1) := by
      rw [Array.toList_modify, List.modify_eq_take_cons_drop hjl, hje]
    have hold : es.toList = es.toList.take j ++ e0 :: es.toList.drop (j + 1) := by
      rw [← hje, List.getElem_cons_drop, List.take_append_drop]
    have hl : l = (es.toList.take j).map kv ++ (key, e0.val) :: (es.toList.drop (j + 1)).map kv := by
      rw [← h2]
      conv => lhs; rw [hold]
      simp [kv, r3]
    refine ⟨{ w with heap := w.heap.setIfInBounds b (.map (es.modify j (fun e' => { e' with key := key, val := val })) c) }, (es.toList.take j).map kv ++ (key, val) :: (es.toList.drop (j + 1)).map kv, ?_,
      ⟨es.modify j (fun e' => { e' with key := key, val := val }), c, ?_, ?_, ?_, ?_, ?_, ?_⟩, rfl, rfl, rfl, by simp, fun i hi => ?_, .inr ⟨_, _, _, hl, rfl⟩⟩
    · simp [Instr.mapUpdate, run_underlying ht, hg, K.check w _ hk, r1, hj, r3, K.stays w hk, Result.andThen, setObj, Sem.run, h1]
    · simp [hlt]
    · rw [hlist]; simp [kv]
    · intro p hp
      simp only [List.mem_append, List.mem_cons] at hp
      rcases hp with hp | rfl | hp
      · exact hkeys p (by rw [hl]; simp only [List.mem_append]; exact .inl hp)
      · exact ⟨q, hk⟩
      · exact hkeys p (by rw [hl]; simp only [List.mem_append, List.mem_cons]; exact .inr (.inr hp))
    · intro x hx
      rw [hlist] at hx
      simp only [List.mem_append, List.mem_cons] at hx
      rcases hx with hx | rfl | hx
      · exact h4 x (List.mem_of_mem_take hx)
      · exact h4 e0 (List.mem_of_getElem? r2)
      · exact h4 x (List.mem_of_mem_drop hx)
    · rw [hlist]
      rw [hold] at h5
      simpa using h5
    · rw [hl] at hnd
      simpa using hnd
    · simp [Ne.symm hi]
end

section
variable {P : Program} (w : World) {ops : Array Oper} {rest : List Oper} {o : Oper} {a : Act} {Q : Exit → Act → World → Prop}
theorem wpList_lookup_has
    (hg : o.guard = none) (m x : Operand) (t : TypeId) (ok : Bool) (hop : o.op = Op.lookup t m x ok)
    (k e : TypeId) (K : Keyed P k) (ht : P.underlying t = some (.map k e)) (z : Value) (hz : (zeroValue e).run P w = .ok z w) (b : Nat) (l : List (Value × Value))
    (hm : a.eval m = .map (some b)) (h : MapHas P k w b l) (key : Value) (kl : Lit) (hx : a.eval x = key) (hkey : keyOf P k key = some kl)
    (h0 : (∀ p ∈ l, p.1 ≠ key) → wpList P ops Q rest (a.put o.dst (if ok then .tuple #[z, .bool false] else z)) w)
    (h1 : ∀ v, (key, v) ∈ l → wpList P ops Q rest (a.put o.dst (if ok then .tuple #[v, .bool true] else v)) w) :
    wpList P ops Q (o :: rest) a w := by
  refine wpList_plain hg fun K' hK' => ?_
  unfold Oper.wp
  rcases h.lookup K ht hz hkey with ⟨⟨r1, r2⟩, r3⟩ | ⟨v, ⟨r1, r2⟩, r3⟩
  · cases ok
    · simp [execOp, hop, hm, hx, r2, Result.andThen]; exact hK' _ _ (h0 r3)
    · simp [execOp, hop, hm, hx, r1, Result.andThen]; exact hK' _ _ (h0 r3)
  · cases ok
    · simp [execOp, hop, hm, hx, r2, Result.andThen]; exact hK' _ _ (h1 v r3)
    · simp [execOp, hop, hm, hx, r1, Result.andThen]; exact hK' _ _ (h1 v r3)

theorem wpList_put
    (hg : o.guard = none) (m x v : Operand) (t : TypeId) (hop : o.op = Op.mapUpdate t m x v)
    (k e : TypeId) (K : Keyed P k) (ht : P.underlying t = some (.map k e)) (b : Nat) (l : List (Value × Value))
    (hm : a.eval m = .map (some b)) (h : MapHas P k w b l) (key val : Value) (kl : Lit) (hx : a.eval x = key) (hv : a.eval v = val) (hkey : keyOf P k key = some kl)
    (hK : ∀ w' l', MapHas P k w' b l' → w.grownBy w' (some b) → w'.heap.size = w.heap.size →
      (((∀ p ∈ l, p.1 ≠ key) ∧ l' = l ++ [(key, val)]) ∨ ∃ l1 l2 old, l = l1 ++ (key, old) :: l2 ∧ l' = l1 ++ (key, val) :: l2) → wpList P ops Q rest (a.put o.dst undef) w') :
    wpList P ops Q (o :: rest) a w := by
  refine wpList_plain hg fun K' hK' => ?_
  obtain ⟨w', l', r1, r2, r3, r4, r5, r6, r7, r8⟩ := h.put (e := e) K ht (val := val) hkey
  unfold Oper.wp
  simp [execOp, hop, hm, hx, hv, r1, Result.andThen]
  exact hK' _ _ (hK w' l' r2 ⟨r3, r4, r5, by omega, fun i _ hne => r7 i (fun e => hne (by rw [e]))⟩ r6 r8)
end

/-- 'for k, v := range m' under way: block b is a map with the entries l, block r an iterator over it; 'rest' is still to come. -/
def RangeOn (P : Program) (k : TypeId) (w : World) (b r : Nat) (l rest : List (Value × Value)) : Prop :=
  ∃ es clock since seen c0, w.heap[b]? = some (.map es clock) ∧ es.toList.map kv = l ∧ (∀ p ∈ l, ∃ q, keyOf P k p.1 = some q) ∧ (∀ e ∈ es.toList, e.born < clock) ∧ (es.toList.map (·.born)).Nodup ∧ (l.map (·.1)).Nodup ∧
    w.heap[r]? = some (.mapIter (some b) since seen c0) ∧ (∀ x ∈ es.toList, x.born < since) ∧ since ≤ c0 ∧ since ≤ clock ∧ (leftOf es seen).toList.map kv = rest

section
variable {P : Program} {k : TypeId} {w w' : World} {b r : Nat} {l rest : List (Value × Value)}
theorem RangeOn.has (h : RangeOn P k w b r l rest) : MapHas P k w b l := by
  obtain ⟨es, clock, since, seen, c0, h1, h2, h3, h4, h5, h6, _⟩ := h
  exact ⟨es, clock, h1, h2, h3, h4, h5, h6⟩
theorem RangeOn.lt (h : RangeOn P k w b r l rest) : r < w.heap.size := by
  obtain ⟨es, clock, since, seen, c0, _, _, _, _, _, _, h7, _⟩ := h
  exact (Array.getElem?_eq_some_iff.1 h7).1
theorem RangeOn.ne (h : RangeOn P k w b r l rest) : r ≠ b := by
  obtain ⟨es, clock, since, seen, c0, h1, _, _, _, _, _, h7, _⟩ := h
  intro e
  rw [e, h1] at h7
  cases h7
theorem RangeOn.kept {row : Option Nat} (h : RangeOn P k w b r l rest) (hg : w.grownBy w' row) (hb : some b ≠ row) (hr : some r ≠ row) : RangeOn P k w' b r l rest := by
  have e1 := hg.block b h.has.lt hb
  have e2 := hg.block r h.lt hr
  obtain ⟨es, clock, since, seen, c0, h1, h2, h3, h4, h5, h6, h7, h8⟩ := h
  exact ⟨es, clock, since, seen, c0, e1.trans h1, h2, h3, h4, h5, h6, e2.trans h7, h8⟩
theorem MapHas.ranged {t e : TypeId} (h : MapHas P k w b l) (ht : P.underlying t = some (.map k e)) :
    ∃ w', (Instr.range t (.map (some b))).run P w = .ok (.pointer (some ⟨w.heap.size, 0, none⟩)) w' ∧ RangeOn P k w' b w.heap.size l l ∧ w.grownBy w' none ∧ w'.heap.size = w.heap.size + 1 := by
  have hlt := h.lt
  obtain ⟨es, clock, h1, h2, h3, h4, h5, h6⟩ := h
  refine ⟨_, run_range_map w t k e b es clock ht h1, ⟨es, clock, clock, #[], clock, ((MapKept.heap_alloc w _).2 b hlt).trans h1, h2, h3, h4, h5, h6, (MapKept.heap_alloc w _).1, h4, Nat.le_refl _, Nat.le_refl _, ?_⟩, World.grownBy_alloc w _ none, by simp⟩
  rw [← h2]
  simp only [leftOf, Array.toList_filter]
  rw [List.filter_eq_self.2 (fun _ _ => by simp)]

theorem one_out {e : MapEntry} : ∀ {L : List MapEntry}, (L.map (·.born)).Nodup → e ∈ L → L.Perm (e :: L.filter fun x => !(x.born == e.born))
  | x :: L, hn, he => by
    simp only [List.map_cons, List.nodup_cons] at hn
    rcases List.mem_cons.1 he with rfl | he
    · have : (L.filter fun x => !(x.born == e.born)) = L := by
        rw [List.filter_eq_self]
        intro y hy
        have : y.born ≠ e.born := fun h => hn.1 (h ▸ List.mem_map.2 ⟨y, hy, rfl⟩)
        simp [this]
      simp [this]
    · have hx : x.born ≠ e.born := fun h => hn.1 (h ▸ List.mem_map.2 ⟨e, he, rfl⟩)
      have ih := one_out hn.2 he
      simp only [List.filter_cons, hx, Bool.not_eq_true', beq_eq_false_iff_ne, ne_eq, not_false_eq_true, if_true]
      exact (ih.cons x).trans (List.Perm.swap _ _ _)

theorem RangeOn.next (h : RangeOn P k w b r l rest) (ty : TypeId) :
    (rest = [] ∧ (Instr.next (.pointer (some ⟨r, 0, none⟩)) false ty).run P w = .ok (.tuple #[.bool false]) w) ∨
    ∃ p rest' w', p ∈ l ∧ rest.Perm (p :: rest') ∧ (Instr.next (.pointer (some ⟨r, 0, none⟩)) false ty).run P w = .ok (.tuple #[.bool true, p.1, p.2]) w' ∧ RangeOn P k w' b r l rest' ∧
      w.grownBy w' (some r) ∧ w'.heap.size = w.heap.size ∧ (Instr.entry (.pointer (some ⟨r, 0, none⟩))).run P w' = .ok (.tuple #[p.1, p.2]) w' := by
  have hne := h.ne
  obtain ⟨es, clock, since, seen, c0, hb, h2, h3, h4, h5, h6, hr, hold, hsc, hsk, hrest⟩ := h
  rcases run_next_at (P := P) w ty r b since c0 seen es clock hr hb hold hsc with ⟨h0, hrun⟩ | ⟨e, he, w1, hal, hrun⟩
  · refine .inl ⟨?_, hrun⟩
    rw [← hrest, Array.eq_empty_of_size_eq_zero h0]
    rfl
  · have hem : e ∈ es.toList := by
      simp only [leftOf, Array.toList_filter, List.mem_filter] at he
      exact he.1
    have hr1 : w1.heap[r]? = some (.mapIter (some b) since seen c0) := by rcases hal with rfl | rfl <;> exact hr
    have hb1 : w1.heap[b]? = some (.map es clock) := by rcases hal with rfl | rfl <;> exact hb
    have hrl : r < w1.heap.size := (Array.getElem?_eq_some_iff.1 hr1).1
    have hr' : (ChangeMaps.setBlock w1 r (.mapIter (some b) since (seen.push e.born) clock)).heap[r]? = some (.mapIter (some b) since (seen.push e.born) clock) := by
      simp [ChangeMaps.setBlock, hrl]
    have hb' : (ChangeMaps.setBlock w1 r (.mapIter (some b) since (seen.push e.born) clock)).heap[b]? = some (.map es clock) := by
      simp [ChangeMaps.setBlock, hne, hb1]
    have hpush : ∀ x : MapEntry, (!(seen.push e.born).contains x.born) = ((!seen.contains x.born) && !(x.born == e.born)) := fun x => by
      rw [Array.contains_push]
      cases seen.contains x.born <;> simp
    have hleft : (leftOf es (seen.push e.born)).toList = (leftOf es seen).toList.filter fun x => !(x.born == e.born) := by
      simp only [leftOf, Array.toList_filter, List.filter_filter]
      refine List.filter_congr fun x _ => ?_
      rw [hpush x, Bool.and_comm]
    have hnd : ((leftOf es seen).toList.map (·.born)).Nodup := by
      simp only [leftOf, Array.toList_filter]
      exact h5.sublist (List.Sublist.map _ List.filter_sublist)
    refine .inr ⟨kv e, (leftOf es (seen.push e.born)).toList.map kv, _, by rw [← h2]; exact List.mem_map.2 ⟨e, hem, rfl⟩, ?_, hrun,
      ⟨es, clock, since, seen.push e.born, clock, hb', h2, h3, h4, h5, h6, hr', hold, hsk, hsk, rfl⟩, ?_, ?_, ?_⟩
    · rw [← hrest, hleft]
      exact (one_out hnd he).map kv
    · rcases hal with rfl | rfl
      · exact ⟨rfl, rfl, rfl, by simp [ChangeMaps.setBlock], fun i _ hi => by
          have : r ≠ i := fun h => hi (by rw [h])
          simp [ChangeMaps.setBlock, this]⟩
      · exact ⟨rfl, rfl, rfl, by simp [ChangeMaps.setBlock], fun i _ hi => by
          have : r ≠ i := fun h => hi (by rw [h])
          simp [ChangeMaps.setBlock, this]; rfl⟩
    · rcases hal with rfl | rfl <;> simp [ChangeMaps.setBlock]
    · exact run_entry_at _ r b since seen es clock e hr' hb' hem h5
end

section
variable {P : Program} (w : World) {ops : Array Oper} {rest : List Oper} {o : Oper} {a : Act} {Q : Exit → Act → World → Prop}
theorem wpList_range_has (hg : o.guard = none) (m : Operand) (t : TypeId) (hop : o.op = Op.range t m) (k e : TypeId) (ht : P.underlying t = some (.map k e)) (b : Nat) (l : List (Value × Value))
    (hm : a.eval m = .map (some b)) (h : MapHas P k w b l)
    (hK : ∀ w', RangeOn P k w' b w.heap.size l l → w.grownBy w' none → w'.heap.size = w.heap.size + 1 → wpList P ops Q rest (a.put o.dst (.pointer (some ⟨w.heap.size, 0, none⟩))) w') :
    wpList P ops Q (o :: rest) a w := by
  refine wpList_plain hg fun K' hK' => ?_
  obtain ⟨w', hrun, r1, r2, r3⟩ := h.ranged ht
  unfold Oper.wp
  simp [execOp, hop, hm, hrun, Result.andThen]
  exact hK' _ _ (hK w' r1 r2 r3)
theorem wpList_next_on (hg : o.guard = none) (it : Operand) (hop : o.op = Op.next it false) (k : TypeId) (b r : Nat) (l left : List (Value × Value))
    (hit : a.eval it = .pointer (some ⟨r, 0, none⟩)) (h : RangeOn P k w b r l left)
    (hDone : left = [] → wpList P ops Q rest (a.put o.dst (.tuple #[.bool false])) w)
    (hMore : ∀ p left' w', p ∈ l → left.Perm (p :: left') → RangeOn P k w' b r l left' → w.grownBy w' (some r) → w'.heap.size = w.heap.size →
      (Instr.entry (.pointer (some ⟨r, 0, none⟩))).run P w' = .ok (.tuple #[p.1, p.2]) w' → wpList P ops Q rest (a.put o.dst (.tuple #[.bool true, p.1, p.2])) w') :
    wpList P ops Q (o :: rest) a w := by
  refine wpList_plain hg fun K' hK' => ?_
  unfold Oper.wp
  rcases h.next o.type with ⟨h0, hrun⟩ | ⟨p, rest', w', hp, hperm, hrun, hon, hgr, hsz, hen⟩
  · simp [execOp, hop, hit, hrun, Result.andThen]
    exact hK' _ _ (hDone h0)
  · simp [execOp, hop, hit, hrun, Result.andThen]
    exact hK' _ _ (hMore p rest' w' hp hperm hon hgr hsz hen)
end
end Go.Proofs.MapEnt
