/- One more of a gram: 'm[g]++' as the model has it, a lookup, an entry, a store into the entry. -/
import Derived.Test.YtkklagdniaoghaaGreatDoorG3
import Derived.WideKeyEntry
namespace Go.Proofs.MapEnt
open Go.RowKit Go.Proofs.Bag
open Go.Maps (Keyed)
open Go.ChangeMaps (setBlock)

section
variable {P : Program} {k : TypeId} {w : World} {b n : Nat} {l : List (Value × Value)} {gs : List Gram} {g : Gram}
theorem one_key : ∀ {L : List MapEntry}, (L.map (·.key)).Nodup → ∀ {x y : MapEntry}, x ∈ L → y ∈ L → x.key = y.key → x = y
  | [], _, _, _, h, _, _ => by cases h
  | a :: L, hn, x, y, hx, hy, e => by
    simp only [List.map_cons, List.nodup_cons] at hn
    rcases List.mem_cons.1 hx with e1 | hx'
    · rcases List.mem_cons.1 hy with e2 | hy'
      · rw [e1, e2]
      · exact (hn.1 (List.mem_map.2 ⟨y, hy', by rw [← e, e1]⟩)).elim
    · rcases List.mem_cons.1 hy with e2 | hy'
      · exact (hn.1 (List.mem_map.2 ⟨x, hx', by rw [e, e2]⟩)).elim
      · exact one_key hn.2 hx' hy' e
theorem entry_store {t e : TypeId} (K : Keyed P k) (ht : P.underlying t = some (.map k e)) {z : Value} (hz : ∀ u : World, (zeroValue e).run P u = .ok z u) {es : Array MapEntry} {clock : Nat} (hb : w.heap[b]? = some (.map es clock))
    (hkeys : ∀ x ∈ es.toList, ∃ q, keyOf P k x.key = some q) (s1 : ∀ x ∈ es.toList, x.born < clock) (s2 : (es.toList.map (·.born)).Nodup) (hkn : (es.toList.map (·.key)).Nodup) {key : Value} {kl : Lit} (hkey : keyOf P k key = some kl) :
    ∃ (v0 : Value) (st : Nat) (es1 : Array MapEntry) (clock1 : Nat), (Instr.mapEntry t (.map (some b)) key).run P w = .ok (.tuple #[v0, .int .i64 st]) (setBlock w b (.map es1 clock1)) ∧
      ∀ (w2 : World) (val : Value), w2.heap[b]? = some (.map es1 clock1) → ∃ es' clock', (Instr.entryStore t (.map (some b)) (.int .i64 st) val).run P w2 = .ok () (setBlock w2 b (.map es' clock')) ∧
        (Instr.mapUpdate t (.map (some b)) key val).run P w = .ok () (setBlock w b (.map es' clock')) ∧
        ∃ v, (Instr.lookup t (.map (some b)) key false).run P w = .ok v w ∧ (Instr.lookup t (.map (some b)) key false).run P w2 = .ok v w2 := by
  rcases K.find w hkey es.toList hkeys with ⟨h1, h2⟩ | ⟨j, e0, h1, h2, h3⟩
  · refine ⟨z, clock, es.push ⟨key, z, clock⟩, clock + 1, ?_, fun w2 val hw2 => ⟨es.push ⟨key, val, clock⟩, clock + 1, ?_, ?_, z, ?_, ?_⟩⟩
    · simp [Instr.mapEntry, run_underlying ht, MapKept.run_getObj_map hb, K.check w false hkey, h1, hz, MapKept.run_setObj_map _ hb, Result.andThen, setBlock, goInt]
    · have hidx : (es.push ⟨key, z, clock⟩).findIdx? (fun e => ((e.born : Nat) : Int) == ((clock : Nat) : Int)) = some es.size := by
        rw [WideElems.findIdx_arr]
        have := WideElems.findIdx_born (l := (es.push ⟨key, z, clock⟩).toList) (j := es.size) (e0 := ⟨key, z, clock⟩) (by
          simp only [Array.toList_push, List.map_append, List.map_cons, List.map_nil]
          refine List.nodup_append.2 ⟨s2, by simp, fun a ha c hc e1 => ?_⟩
          simp only [List.mem_singleton] at hc
          obtain ⟨x, hx, rfl⟩ := List.mem_map.1 ha
          have := s1 x hx
          omega) (by simp)
        exact this
      have hmod : (es.push ⟨key, z, clock⟩).modify es.size (fun e => { e with val := val }) = es.push ⟨key, val, clock⟩ := by
        apply Array.ext'
        rw [Array.toList_modify, Array.toList_push, Array.toList_push, ← Array.length_toList, WideElems.modify_last]
      simp [Instr.entryStore, MapKept.run_getObj_map hw2, asInt, asIntOf, hidx, hmod, MapKept.run_setObj_map _ hw2, Result.andThen, setBlock]
    · simp [Instr.mapUpdate, run_underlying ht, MapKept.run_getObj_map hb, K.check w false hkey, h1, MapKept.run_setObj_map _ hb, Result.andThen, setBlock]
    · simp [Instr.lookup, run_underlying ht, MapKept.run_getObj_map hb, K.check w _ hkey, h1, hz, Result.andThen]
    · rcases K.find w2 hkey (es.push ⟨key, z, clock⟩).toList (fun x hx => by
        simp only [Array.toList_push, List.mem_append, List.mem_singleton] at hx
        rcases hx with hx | rfl
        · exact hkeys x hx
        · exact ⟨kl, hkey⟩) with ⟨_, q2⟩ | ⟨j, e1, q1, q2, q3⟩
      · exact absurd rfl (q2 ⟨key, z, clock⟩ (by simp))
      · have hm := List.mem_of_getElem? q2
        simp only [Array.toList_push, List.mem_append, List.mem_singleton] at hm
        have hv : e1.val = z := by
          rcases hm with hm | rfl
          · exact absurd q3 (h2 e1 hm)
          · rfl
        rw [hv] at q1
        simp only [Array.toList_push] at q1
        simp [Instr.lookup, run_underlying ht, MapKept.run_getObj_map hw2, K.check w2 _ hkey, q1, Result.andThen]
  · have hj : es[j]? = some e0 := by simpa using h2
    have hsame : es.modify j (fun e => { e with key := key }) = es := by
      apply Array.ext'
      rw [Array.toList_modify, ChangeMaps.modify_eq_set _ _ _ _ h2]
      have : ({ e0 with key := key } : MapEntry) = e0 := by rw [← h3]
      rw [this]
      exact WideElems.set_self _ _ _ h2
    refine ⟨e0.val, e0.born, es, clock, ?_, fun w2 val hw2 => ⟨es.modify j (fun e' => { e' with key := key, val := val }), clock, ?_, ?_, e0.val, ?_, ?_⟩⟩
    · simp [Instr.mapEntry, run_underlying ht, MapKept.run_getObj_map hb, K.check w false hkey, h1, hj, h3, K.stays w hkey, hsame, MapKept.run_setObj_map _ hb, Result.andThen, setBlock, goInt]
    · have hidx : es.findIdx? (fun e => ((e.born : Nat) : Int) == ((e0.born : Nat) : Int)) = some j := by
        rw [WideElems.findIdx_arr]
        exact WideElems.findIdx_born s2 h2
      have hmod : es.modify j (fun e => { e with val := val }) = es.modify j (fun e' => { e' with key := key, val := val }) := by
        apply Array.ext'
        rw [Array.toList_modify, Array.toList_modify, ChangeMaps.modify_eq_set _ _ _ _ h2, ChangeMaps.modify_eq_set _ _ _ _ h2, ← h3]
      simp [Instr.entryStore, MapKept.run_getObj_map hw2, asInt, asIntOf, hidx, hmod, MapKept.run_setObj_map _ hw2, Result.andThen, setBlock]
    · simp [Instr.mapUpdate, run_underlying ht, MapKept.run_getObj_map hb, K.check w false hkey, h1, hj, h3, K.stays w hkey, MapKept.run_setObj_map _ hb, Result.andThen, setBlock]
    · simp [Instr.lookup, run_underlying ht, MapKept.run_getObj_map hb, K.check w _ hkey, h1, Result.andThen]
    · rcases K.find w2 hkey es.toList hkeys with ⟨_, q2⟩ | ⟨j', e1, q1, q2, q3⟩
      · exact absurd h3 (q2 e0 (List.mem_of_getElem? h2))
      · have hv : e1 = e0 := one_key hkn (List.mem_of_getElem? q2) (List.mem_of_getElem? h2) (q3.trans h3.symm)
        rw [hv] at q1
        simp [Instr.lookup, run_underlying ht, MapKept.run_getObj_map hw2, K.check w2 _ hkey, q1, Result.andThen]

theorem setBlock_two (w : World) (b : Nat) (o1 o2 : Obj) : setBlock (setBlock w b o1) b o2 = setBlock w b o2 := by
  simp [setBlock]

/-- One more of g. -/
theorem CMap.incr {t e : TypeId} (K : Keyed P k) (ht : P.underlying t = some (.map k e)) (hz : ∀ u : World, (zeroValue e).run P u = .ok (.int .i64 0) u) (hn : ∀ g ∈ gs, g.length = n) (h : CMap P k w b gs) (hg : g.length = n)
    {kl : Lit} (hkey : keyOf P k (enc g) = some kl) :
    ∃ v0 st w1 w2, (Instr.lookup t (.map (some b)) (enc g) false).run P w = .ok (.int .i64 (gs.count g : Nat)) w ∧ (Instr.lookup t (.map (some b)) (enc g) false).run P w1 = .ok (.int .i64 (gs.count g : Nat)) w1 ∧ (Instr.mapEntry t (.map (some b)) (enc g)).run P w = .ok (.tuple #[v0, .int .i64 st]) w1 ∧
      (Instr.entryStore t (.map (some b)) (.int .i64 st) (.int .i64 ((gs.count g : Nat) + 1))).run P w1 = .ok () w2 ∧ CMap P k w2 b (gs ++ [g]) ∧ w.grownBy w2 (some b) ∧ w2.heap.size = w.heap.size := by
  obtain ⟨ks, h1, h2, h3⟩ := h
  obtain ⟨es, clock, hb, hl, hkeys, hs1, hs2, hnd⟩ := id h3
  have hlt := h3.lt
  obtain ⟨v0, st, es1, c1, r1, r2⟩ := entry_store (w := w) K ht hz hb (fun x hx => hkeys (kv x) (by rw [← hl]; exact List.mem_map.2 ⟨x, hx, rfl⟩)) hs1 hs2 (by rw [← hl, List.map_map] at hnd; exact hnd) hkey
  obtain ⟨es', c', r3, r4, v, l1, l2⟩ := r2 (setBlock w b (.map es1 c1)) (.int .i64 ((gs.count g : Nat) + 1)) (by simp [setBlock, hlt])
  obtain ⟨w2, l', p1, p2, p3, p4, p5, p6, p7, p8⟩ := h3.put (e := e) K ht (val := .int .i64 ((gs.count g : Nat) + 1)) hkey
  rw [setBlock_two] at r3
  have hw2 : w2 = setBlock w b (.map es' c') := by
    rw [r4] at p1
    cases p1
    rfl
  have hv : (Instr.lookup t (.map (some b)) (enc g) false).run P w = .ok (.int .i64 (gs.count g : Nat)) w := by
    rcases h3.lookup K ht (hz w) hkey with ⟨⟨_, q⟩, r3⟩ | ⟨v, ⟨_, q⟩, r3⟩
    · rw [q, look_none h2 r3]
      rfl
    · rw [q, look_some h2 hn hg r3]
  have e : v = .int .i64 (gs.count g : Nat) := by
    rw [l1] at hv
    cases hv
    rfl
  rw [e] at l2
  exact ⟨v0, st, _, w2, hv, l2, r1, by rw [hw2]; exact r3, CMap.put_ h1 h2 hn hg p2 p8, ⟨p3, p4, p5, by omega, fun i _ hne => p7 i (fun e => hne (by rw [e]))⟩, p6⟩
end
end Go.Proofs.MapEnt
