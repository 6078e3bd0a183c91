/- Plain laws on a map's block, told as the list of its entries (key, value): made, looked up, a new key stored. -/
import Derived.WalkKit
import Derived.WalkSpells
import Derived.Maps.Keyed
import Derived.Maps.OwnOps
import Derived.DeepKeys4
import Derived.Deep.Draws
import Derived.Laws.OwnMore
import Derived.Laws.Rows
namespace Go.Proofs.Ytcniiphmepgfeaa
open Go.RowKit
open Go.Maps (Keyed)

/-- block g is just the cells cs of element type t, none frozen -/
def Blk (w : World) (g : Nat) (t : TypeId) (cs : Array Value) : Prop := w.heap[g]? = some (.cells cs t (0, 0))
section
variable {w w' : World} {g : Nat} {t : TypeId} {cs : Array Value}
theorem Blk.lt (h : Blk w g t cs) : g < w.heap.size := by
  rcases Nat.lt_or_ge g w.heap.size with hlt | hge
  · exact hlt
  · unfold Blk at h; rw [Array.getElem?_eq_none hge] at h; cases h
theorem Blk.cell (h : Blk w g t cs) (i : Nat) : w.cell? ⟨g, i, none⟩ = cs[i]? := cell_of_row w g i cs t (0, 0) h
theorem Blk.frozen (h : Blk w g t cs) (i : Nat) : w.frozen? ⟨g, i, none⟩ = false := by
  unfold Blk at h
  simp [World.frozen?, h]
theorem Blk.new (w : World) (t : TypeId) (cs : Array Value) : Blk (w.alloc (.cells cs t)) w.heap.size t cs := heap_alloc_new w _
theorem Blk.drew (h : Blk w g t cs) : Blk w.drew g t cs := h
theorem Blk.drewN (h : Blk w g t cs) (n : Nat) : Blk (w.drewN n) g t cs := h
theorem Blk.alloc (h : Blk w g t cs) (o : Obj) : Blk (w.alloc o) g t cs := (Below.heap_alloc w o g h.lt).trans h
theorem Blk.set_ (h : Blk w g t cs) (i : Nat) (u : Value) : Blk (w.setCell ⟨g, i, none⟩ u) g t (cs.setIfInBounds i u) := by
  unfold Blk at h ⊢
  simp [World.setCell, Array.getElem?_modify, h]
theorem Blk.far (h : Blk w g t cs) {p : Addr} (hp : g ≠ p.block) (u : Value) : Blk (w.setCell p u) g t cs := (Below.heap_setCell w p u g hp).trans h
theorem Blk.below {B : Nat} (h : Blk w g t cs) (hb : Below B w w') (hg : g < B) : Blk w' g t cs := (hb.block g hg).trans h
theorem Blk.grown {row : Option Nat} (h : Blk w g t cs) (hb : w.grownBy w' row) (hg : some g ≠ row) : Blk w' g t cs := (hb.block g h.lt hg).trans h
end
theorem below_drewN {B : Nat} {a w : World} (h : Below B a w) (n : Nat) : Below B a (w.drewN n) := ⟨h.os, h.tape, h.output, h.size, h.block⟩

/-- block b is a map that holds just these entries, in this order; each key is one that the model lets be a key. -/
def MapHas (P : Program) (k : TypeId) (w : World) (b : Nat) (l : List (Value × Value)) : Prop :=
  ∃ es clock, w.heap[b]? = some (.map es clock) ∧ es.toList.map (fun e => (e.key, e.val)) = l ∧ ∀ p ∈ l, ∃ q, keyOf P k p.1 = some q

theorem MapHas.new (P : Program) (k : TypeId) (w : World) : MapHas P k (w.alloc (.map #[] 0)) w.heap.size [] :=
  ⟨#[], 0, heap_alloc_new w _, rfl, fun _ h => by cases h⟩
theorem MapHas.below {P : Program} {k : TypeId} {w w' : World} {b B : Nat} {l : List (Value × Value)} (h : MapHas P k w b l) (hb : Below B w w') (hB : b < B) : MapHas P k w' b l := by
  obtain ⟨es, c, h1, h2⟩ := h
  exact ⟨es, c, by rw [hb.block b hB]; exact h1, h2⟩
theorem MapHas.lt {P : Program} {k : TypeId} {w : World} {b : Nat} {l : List (Value × Value)} (h : MapHas P k w b l) : b < w.heap.size := by
  obtain ⟨es, c, h1, _⟩ := h
  rcases Nat.lt_or_ge b w.heap.size with h | h
  · exact h
  · rw [Array.getElem?_eq_none h] at h1; cases h1
theorem MapHas.same {P : Program} {k : TypeId} {w w' : World} {b : Nat} {l : List (Value × Value)} (h : MapHas P k w b l) (e : w'.heap[b]? = w.heap[b]?) : MapHas P k w' b l := by
  obtain ⟨es, c, h1, h2⟩ := h
  exact ⟨es, c, e.trans h1, h2⟩
theorem MapHas.alloc {P : Program} {k : TypeId} {w : World} {b : Nat} {l : List (Value × Value)} (h : MapHas P k w b l) (o : Obj) : MapHas P k (w.alloc o) b l :=
  h.same (Below.heap_alloc w o b h.lt)
theorem MapHas.grown {P : Program} {k : TypeId} {w w' : World} {b : Nat} {l : List (Value × Value)} {row : Option Nat} (h : MapHas P k w b l) (hb : w.grownBy w' row) (hg : some b ≠ row) : MapHas P k w' b l :=
  h.same (hb.block b h.lt hg)
theorem MapHas.far {P : Program} {k : TypeId} {w : World} {b : Nat} {l : List (Value × Value)} (h : MapHas P k w b l) {p : Addr} (hp : b ≠ p.block) (u : Value) : MapHas P k (w.setCell p u) b l :=
  h.same (Below.heap_setCell w p u b hp)
theorem MapHas.drewN {P : Program} {k : TypeId} {w : World} {b : Nat} {l : List (Value × Value)} (h : MapHas P k w b l) (n : Nat) : MapHas P k (w.drewN n) b l := h
theorem MapHas.drew {P : Program} {k : TypeId} {w : World} {b : Nat} {l : List (Value × Value)} (h : MapHas P k w b l) : MapHas P k w.drew b l := h

theorem MapHas.find {P : Program} {k : TypeId} (K : Keyed P k) {w : World} {b : Nat} {l : List (Value × Value)} (h : MapHas P k w b l) {key : Value} {q : Lit} (hk : keyOf P k key = some q) :
    ∃ es clock, w.heap[b]? = some (.map es clock) ∧ es.toList.map (fun e => (e.key, e.val)) = l ∧
      (((Instr.findKey k key es.toList).run P w = .ok none w ∧ ∀ p ∈ l, p.1 ≠ key) ∨ ∃ j v, (Instr.findKey k key es.toList).run P w = .ok (some (j, v)) w ∧ (key, v) ∈ l) := by
  obtain ⟨es, c, h1, h2, h3⟩ := h
  refine ⟨es, c, h1, h2, ?_⟩
  rcases K.find w hk es.toList (fun e he => h3 (e.key, e.val) (by rw [← h2]; exact List.mem_map.2 ⟨e, he, rfl⟩)) with ⟨r1, r2⟩ | ⟨j, e, r1, r2, r3⟩
  · refine .inl ⟨r1, fun p hp => ?_⟩
    rw [← h2] at hp
    obtain ⟨e, he, rfl⟩ := List.mem_map.1 hp
    exact r2 e he
  · refine .inr ⟨j, e.val, r1, ?_⟩
    rw [← h2, ← r3]
    exact List.mem_map.2 ⟨e, List.mem_of_getElem? r2, rfl⟩

theorem MapHas.lookup {P : Program} {t k e : TypeId} (K : Keyed P k) (ht : P.underlying t = some (.map k e)) {z : Value} {w : World} (hz : (zeroValue e).run P w = .ok z w) {b : Nat} {l : List (Value × Value)} (h : MapHas P k w b l)
    {key : Value} {q : Lit} (hk : keyOf P k key = some q) :
    (((Instr.lookup t (.map (some b)) key true).run P w = .ok (.tuple #[z, .bool false]) w ∧ (Instr.lookup t (.map (some b)) key false).run P w = .ok z w) ∧ ∀ p ∈ l, p.1 ≠ key) ∨
    ∃ v, ((Instr.lookup t (.map (some b)) key true).run P w = .ok (.tuple #[v, .bool true]) w ∧ (Instr.lookup t (.map (some b)) key false).run P w = .ok v w) ∧ (key, v) ∈ l := by
  obtain ⟨es, c, h1, h2, h3⟩ := h.find K hk
  have hg := MapKept.run_getObj_map (P := P) h1
  rcases h3 with ⟨r1, r2⟩ | ⟨j, v, r1, r2⟩
  · exact .inl ⟨⟨by simp [Instr.lookup, run_underlying ht, hg, K.check w _ hk, r1, hz, Result.andThen], by simp [Instr.lookup, run_underlying ht, hg, K.check w _ hk, r1, hz, Result.andThen]⟩, r2⟩
  · exact .inr ⟨v, ⟨by simp [Instr.lookup, run_underlying ht, hg, K.check w _ hk, r1, Result.andThen], by simp [Instr.lookup, run_underlying ht, hg, K.check w _ hk, r1, Result.andThen]⟩, r2⟩

theorem MapHas.store {P : Program} {t k e : TypeId} (K : Keyed P k) (ht : P.underlying t = some (.map k e)) {w : World} {b : Nat} {l : List (Value × Value)} (h : MapHas P k w b l)
    {key val : Value} {q : Lit} (hk : keyOf P k key = some q) (hnew : ∀ p ∈ l, p.1 ≠ key) :
    ∃ w', (Instr.mapUpdate t (.map (some b)) key val).run P w = .ok () w' ∧ MapHas P k w' b (l ++ [(key, val)]) ∧ w'.os = w.os ∧ w'.tape = w.tape ∧ w'.output = w.output ∧ w'.heap.size = w.heap.size ∧
      ∀ i, i ≠ b → w'.heap[i]? = w.heap[i]? := by
  have hlt := h.lt
  obtain ⟨_, _, _, _, hkeys⟩ := id h
  obtain ⟨es, c, h1, h2, h3⟩ := h.find K hk
  have hg := MapKept.run_getObj_map (P := P) h1
  rcases h3 with ⟨r1, _⟩ | ⟨j, v, _, r2⟩
  · refine ⟨{ w with heap := w.heap.setIfInBounds b (.map (es.push { key, val, born := c }) (c + 1)) }, ?_, ⟨es.push { key, val, born := c }, c + 1, ?_, ?_, ?_⟩, rfl, rfl, rfl, by simp, fun i hi => ?_⟩
    · simp [Instr.mapUpdate, run_underlying ht, hg, K.check w _ hk, r1, Result.andThen, setObj, Sem.run, h1]
    · simp [hlt]
    · simp [h2]
    · intro p hp
      rcases List.mem_append.1 hp with hp | hp
      · exact hkeys p hp
      · obtain rfl := List.mem_singleton.1 hp; exact ⟨q, hk⟩
    · simp [Ne.symm hi]
  · exact absurd rfl (hnew _ r2)

theorem wpList_lookup_has {P : Program} (w : World) {ops : Array Oper} {rest : List Oper} {o : Oper} {a : Act} {Q : Exit → Act → World → Prop}
    (hg : o.guard = none) (m x : Operand) (t : TypeId) (ok : Bool) (hop : o.op = Op.lookup t m x ok)
    (k e : TypeId) (K : Keyed P k) (ht : P.underlying t = some (.map k e)) (z : Value) (hz : (zeroValue e).run P w = .ok z w) (b : Nat) (l : List (Value × Value))
    (hm : a.eval m = .map (some b)) (h : MapHas P k w b l) (key : Value) (kl : Lit) (hx : a.eval x = key) (hkey : keyOf P k key = some kl)
    (h0 : (∀ p ∈ l, p.1 ≠ key) → wpList P ops Q rest (a.put o.dst (if ok then .tuple #[z, .bool false] else z)) w)
    (h1 : ∀ v, (key, v) ∈ l → wpList P ops Q rest (a.put o.dst (if ok then .tuple #[v, .bool true] else v)) w) :
    wpList P ops Q (o :: rest) a w := by
  refine wpList_plain hg fun K' hK' => ?_
  unfold Oper.wp
  rcases h.lookup K ht hz hkey with ⟨⟨r1, r2⟩, r3⟩ | ⟨v, ⟨r1, r2⟩, r3⟩
  · cases ok
    · simp [execOp, hop, hm, hx, r2, Result.andThen]; exact hK' _ _ (h0 r3)
    · simp [execOp, hop, hm, hx, r1, Result.andThen]; exact hK' _ _ (h0 r3)
  · cases ok
    · simp [execOp, hop, hm, hx, r2, Result.andThen]; exact hK' _ _ (h1 v r3)
    · simp [execOp, hop, hm, hx, r1, Result.andThen]; exact hK' _ _ (h1 v r3)

theorem wpList_lookup_some {P : Program} (w : World) {ops : Array Oper} {rest : List Oper} {o : Oper} {a : Act} {Q : Exit → Act → World → Prop}
    (hg : o.guard = none) (m x : Operand) (t : TypeId) (ok : Bool) (hop : o.op = Op.lookup t m x ok)
    (k e : TypeId) (K : Keyed P k) (ht : P.underlying t = some (.map k e)) (z : Value) (hz : (zeroValue e).run P w = .ok z w) (b : Nat) (l : List (Value × Value))
    (hm : a.eval m = .map (some b)) (h : MapHas P k w b l) (key : Value) (kl : Lit) (hx : a.eval x = key) (hkey : keyOf P k key = some kl) (v : Value) (hv : (key, v) ∈ l) (hu : ∀ v', (key, v') ∈ l → v' = v)
    (h1 : wpList P ops Q rest (a.put o.dst (if ok then .tuple #[v, .bool true] else v)) w) :
    wpList P ops Q (o :: rest) a w :=
  wpList_lookup_has w hg m x t ok hop k e K ht z hz b l hm h key kl hx hkey (fun hn => absurd rfl (hn _ hv)) (fun v' hv' => by rw [hu v' hv']; exact h1)
theorem wpList_lookup_none {P : Program} (w : World) {ops : Array Oper} {rest : List Oper} {o : Oper} {a : Act} {Q : Exit → Act → World → Prop}
    (hg : o.guard = none) (m x : Operand) (t : TypeId) (ok : Bool) (hop : o.op = Op.lookup t m x ok)
    (k e : TypeId) (K : Keyed P k) (ht : P.underlying t = some (.map k e)) (z : Value) (hz : (zeroValue e).run P w = .ok z w) (b : Nat) (l : List (Value × Value))
    (hm : a.eval m = .map (some b)) (h : MapHas P k w b l) (key : Value) (kl : Lit) (hx : a.eval x = key) (hkey : keyOf P k key = some kl) (hn : ∀ p ∈ l, p.1 ≠ key)
    (h1 : wpList P ops Q rest (a.put o.dst (if ok then .tuple #[z, .bool false] else z)) w) :
    wpList P ops Q (o :: rest) a w :=
  wpList_lookup_has w hg m x t ok hop k e K ht z hz b l hm h key kl hx hkey (fun _ => h1) (fun _ hv' => absurd rfl (hn _ hv'))

theorem wpList_store_new {P : Program} (w : World) {ops : Array Oper} {rest : List Oper} {o : Oper} {a : Act} {Q : Exit → Act → World → Prop}
    (hg : o.guard = none) (m x v : Operand) (t : TypeId) (hop : o.op = Op.mapUpdate t m x v)
    (k e : TypeId) (K : Keyed P k) (ht : P.underlying t = some (.map k e)) (b : Nat) (l : List (Value × Value))
    (hm : a.eval m = .map (some b)) (h : MapHas P k w b l) (key val : Value) (kl : Lit) (hx : a.eval x = key) (hv : a.eval v = val) (hkey : keyOf P k key = some kl) (hnew : ∀ p ∈ l, p.1 ≠ key)
    (hK : ∀ w', MapHas P k w' b (l ++ [(key, val)]) → w.grownBy w' (some b) → w'.heap.size = w.heap.size → wpList P ops Q rest (a.put o.dst undef) w') :
    wpList P ops Q (o :: rest) a w := by
  refine wpList_plain hg fun K' hK' => ?_
  obtain ⟨w', r1, r2, r3, r4, r5, r6, r7⟩ := h.store (e := e) K ht (val := val) hkey hnew
  unfold Oper.wp
  simp [execOp, hop, hm, hx, hv, r1, Result.andThen]
  exact hK' _ _ (hK w' r2 ⟨r3, r4, r5, by omega, fun i _ hne => r7 i (fun e => hne (by rw [e]))⟩ r6)
end Go.Proofs.Ytcniiphmepgfeaa
