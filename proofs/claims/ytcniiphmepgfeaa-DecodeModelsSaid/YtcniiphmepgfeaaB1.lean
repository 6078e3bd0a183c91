import Derived.Test.YtcniiphmepgfeaaM2
import Derived.Test.YtcniiphmepgfeaaV1
namespace Go.Proofs.Ytcniiphmepgfeaa
open Go.RowKit
open Go.Maps (Keyed)

theorem zero45 (w : World) : (zeroValue 45).run Try.prog w = .ok (.agg #[.string .empty, .int .i64 0, .int .i64 0]) w := by kernel_rfl
theorem zero3 (w : World) : (zeroValue 3).run Try.prog w = .ok (.int .i64 0) w := by kernel_rfl

theorem field45 (s c b : Value) (w : World) : (Instr.field 45 (.agg #[s, c, b]) 2).run Try.prog w = .ok b w := by kernel_rfl

theorem ent_word {m : Mdl} (h : Valid m) {a : ByteArray} {x : UniD} (hx : m.words.find? (isW a) = some x) :
    (Value.string a, wVal x) ∈ m.words.map wEnt ∧ ∀ v, (Value.string a, v) ∈ m.words.map wEnt → v = wVal x := by
  have hm := List.mem_of_find?_eq_some hx
  have hp := List.find?_some hx
  have ha : x.word = a := by simpa [isW] using hp
  refine ⟨List.mem_map.2 ⟨x, hm, by simp [wEnt, ha]⟩, fun v hv => ?_⟩
  obtain ⟨y, hy, e⟩ := List.mem_map.1 hv
  simp only [wEnt, Prod.mk.injEq, Value.string.injEq] at e
  obtain ⟨i, hi, rfl⟩ := List.mem_iff_getElem.1 hy
  have := find_word h hi e.1
  rw [hx] at this
  rw [← e.2, Option.some.inj this]
theorem ent_noword {m : Mdl} {a : ByteArray} (hx : m.words.find? (isW a) = none) : ∀ p ∈ m.words.map wEnt, p.1 ≠ .string a := fun p hp => by
  obtain ⟨y, hy, rfl⟩ := List.mem_map.1 hp
  have := List.find?_eq_none.1 hx y hy
  intro e
  apply this
  simpa [isW, wEnt] using e
theorem ent_pair {m : Mdl} (h : Valid m) {a b : ByteArray} {x : BiD} (hx : m.pairs.find? (isP a b) = some x) :
    (Value.agg #[.string a, .string b], Value.int .i64 x.cost) ∈ m.pairs.map pEnt ∧ ∀ v, (Value.agg #[.string a, .string b], v) ∈ m.pairs.map pEnt → v = .int .i64 x.cost := by
  have hm := List.mem_of_find?_eq_some hx
  have hp := List.find?_some hx
  have ha : x.first = a ∧ x.second = b := by simpa [isP] using hp
  refine ⟨List.mem_map.2 ⟨x, hm, by simp [pEnt, ha.1, ha.2]⟩, fun v hv => ?_⟩
  obtain ⟨y, hy, e⟩ := List.mem_map.1 hv
  simp only [pEnt, Prod.mk.injEq, Value.agg.injEq] at e
  obtain ⟨i, hi, rfl⟩ := List.mem_iff_getElem.1 hy
  have := find_pair h hi (by simpa using e.1)
  rw [hx] at this
  rw [← e.2, Option.some.inj this]
theorem ent_nopair {m : Mdl} {a b : ByteArray} (hx : m.pairs.find? (isP a b) = none) : ∀ p ∈ m.pairs.map pEnt, p.1 ≠ .agg #[.string a, .string b] := fun p hp => by
  obtain ⟨y, hy, rfl⟩ := List.mem_map.1 hp
  have := List.find?_eq_none.1 hx y hy
  intro e
  apply this
  simpa [isP, pEnt] using e

set_option maxRecDepth 100000 in
set_option maxHeartbeats 1000000 in
theorem step15 (m : Mdl) (hV : Valid m) (a b : ByteArray) (bw bp : Nat) (w : World) (ha : a.size ≤ maxLen) (hb : b.size ≤ maxLen)
    (hmw : MapHas Try.prog 9 w bw (m.words.map wEnt)) (hmp : MapHas Try.prog 61 w bp (m.pairs.map pEnt)) :
    Calls Try.prog 15 #[.agg #[.int .i64 m.unknown, .map (some bw), .map (some bp)], .string a, .string b] w fun e w' =>
      e = .returned (.int .i64 (stepM m a b)) ∧ Below w.heap.size w w' := by
  have hfl := field45
  have HA := Lib.hid (keyOf9 ha)
  have HB := Lib.hid (keyOf9 hb)
  obtain ⟨kq, hq⟩ := keyOf61 ha hb
  have HQ := Lib.hid hq
  clear hq
  cases hp : m.pairs.find? (isP a b) with
  | some x =>
    have H : Hid (stepM m a b = x.cost) := by simp [stepM, hp, Hid]
    have HE := Lib.hid (ent_pair hV hp)
    clear hp
    go_enter Try.func15, Try.ntmps15
    go_wp2_with (at_lookup; refine wpList_lookup_some _ rfl _ _ 51 true rfl 61 3 key61 Try.underlying51 _ (zero3 _) bp _ rfl (hmp.alloc _) _ _ rfl HQ.out _ HE.out.1 HE.out.2 ?_)
    go_ret
    exact ⟨ret_int H.out.symm, (Below.refl _ _).alloc (Nat.le_refl _) _⟩
  | none =>
    have H : Hid (stepM m a b = backM m a + oneM m b) := by simp [stepM, hp, Hid]
    have HE := Lib.hid (ent_nopair hp)
    clear hp
    have bb := backM_bd hV a
    have ob := oneM_bd hV b
    cases hwa : m.words.find? (isW a) with
    | some x =>
      have Ha : Hid (backM m a = x.back) := by simp [backM, hwa, Hid]
      have HEa := Lib.hid (ent_word hV hwa)
      rw [Ha.out] at bb
      clear hwa
      cases hwb : m.words.find? (isW b) with
      | some y =>
        have Hb : Hid (oneM m b = y.cost) := by simp [oneM, hwb, Hid]
        have HEb := Lib.hid (ent_word hV hwb)
        rw [Hb.out] at ob
        clear hwb
        go_enter Try.func15, Try.ntmps15
        go_wp2_with (first
          | (at_lookup; refine wpList_lookup_none _ rfl _ _ 51 true rfl 61 3 key61 Try.underlying51 _ (zero3 _) bp _ rfl (hmp.alloc _) _ _ rfl HQ.out HE.out ?_)
          | (at_lookup; refine wpList_lookup_some _ rfl _ _ 50 true rfl 9 45 key9 Try.underlying50 _ (zero45 _) bw _ rfl (hmw.alloc _) _ _ rfl HB.out (.agg #[.string y.word, .int .i64 y.cost, .int .i64 y.back]) HEb.out.1 HEb.out.2 ?_)
          | (at_lookup; refine wpList_lookup_some _ rfl _ _ 50 false rfl 9 45 key9 Try.underlying50 _ (zero45 _) bw _ rfl ((hmw.alloc _).alloc _) _ _ rfl HA.out (.agg #[.string x.word, .int .i64 x.cost, .int .i64 x.back]) HEa.out.1 HEa.out.2 ?_))
        go_ret
        exact ⟨ret_int (by rw [H.out, Ha.out, Hb.out]), ((Below.refl _ _).alloc (Nat.le_refl _) _).alloc (by simp) _⟩
      | none =>
        have Hb : Hid (oneM m b = m.unknown) := by simp [oneM, hwb, Hid]
        have HEb := Lib.hid (ent_noword hwb)
        rw [Hb.out] at ob
        clear hwb
        go_enter Try.func15, Try.ntmps15
        go_wp2_with (first
          | (at_lookup; refine wpList_lookup_none _ rfl _ _ 51 true rfl 61 3 key61 Try.underlying51 _ (zero3 _) bp _ rfl (hmp.alloc _) _ _ rfl HQ.out HE.out ?_)
          | (at_lookup; refine wpList_lookup_none _ rfl _ _ 50 true rfl 9 45 key9 Try.underlying50 _ (zero45 _) bw _ rfl (hmw.alloc _) _ _ rfl HB.out HEb.out ?_)
          | (at_lookup; refine wpList_lookup_some _ rfl _ _ 50 false rfl 9 45 key9 Try.underlying50 _ (zero45 _) bw _ rfl ((hmw.alloc _).alloc _) _ _ rfl HA.out (.agg #[.string x.word, .int .i64 x.cost, .int .i64 x.back]) HEa.out.1 HEa.out.2 ?_))
        go_ret
        exact ⟨ret_int (by rw [H.out, Ha.out, Hb.out]), ((Below.refl _ _).alloc (Nat.le_refl _) _).alloc (by simp) _⟩
    | none =>
      have Ha : Hid (backM m a = 0) := by simp [backM, hwa, Hid]
      have HEa := Lib.hid (ent_noword hwa)
      clear bb
      clear hwa
      cases hwb : m.words.find? (isW b) with
      | some y =>
        have Hb : Hid (oneM m b = y.cost) := by simp [oneM, hwb, Hid]
        have HEb := Lib.hid (ent_word hV hwb)
        rw [Hb.out] at ob
        clear hwb
        go_enter Try.func15, Try.ntmps15
        go_wp2_with (first
          | (at_lookup; refine wpList_lookup_none _ rfl _ _ 51 true rfl 61 3 key61 Try.underlying51 _ (zero3 _) bp _ rfl (hmp.alloc _) _ _ rfl HQ.out HE.out ?_)
          | (at_lookup; refine wpList_lookup_some _ rfl _ _ 50 true rfl 9 45 key9 Try.underlying50 _ (zero45 _) bw _ rfl (hmw.alloc _) _ _ rfl HB.out (.agg #[.string y.word, .int .i64 y.cost, .int .i64 y.back]) HEb.out.1 HEb.out.2 ?_)
          | (at_lookup; refine wpList_lookup_none _ rfl _ _ 50 false rfl 9 45 key9 Try.underlying50 _ (zero45 _) bw _ rfl ((hmw.alloc _).alloc _) _ _ rfl HA.out HEa.out ?_))
        go_ret
        exact ⟨ret_int (by rw [H.out, Ha.out, Hb.out]; simp), ((Below.refl _ _).alloc (Nat.le_refl _) _).alloc (by simp) _⟩
      | none =>
        have Hb : Hid (oneM m b = m.unknown) := by simp [oneM, hwb, Hid]
        have HEb := Lib.hid (ent_noword hwb)
        rw [Hb.out] at ob
        clear hwb
        go_enter Try.func15, Try.ntmps15
        go_wp2_with (first
          | (at_lookup; refine wpList_lookup_none _ rfl _ _ 51 true rfl 61 3 key61 Try.underlying51 _ (zero3 _) bp _ rfl (hmp.alloc _) _ _ rfl HQ.out HE.out ?_)
          | (at_lookup; refine wpList_lookup_none _ rfl _ _ 50 true rfl 9 45 key9 Try.underlying50 _ (zero45 _) bw _ rfl (hmw.alloc _) _ _ rfl HB.out HEb.out ?_)
          | (at_lookup; refine wpList_lookup_none _ rfl _ _ 50 false rfl 9 45 key9 Try.underlying50 _ (zero45 _) bw _ rfl ((hmw.alloc _).alloc _) _ _ rfl HA.out HEa.out ?_))
        go_ret
        exact ⟨ret_int (by rw [H.out, Ha.out, Hb.out]; simp), ((Below.refl _ _).alloc (Nat.le_refl _) _).alloc (by simp) _⟩
end Go.Proofs.Ytcniiphmepgfeaa
