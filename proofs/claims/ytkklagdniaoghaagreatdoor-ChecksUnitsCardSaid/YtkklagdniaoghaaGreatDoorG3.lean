/- Grams counted in a map: what a lookup and a store say; the sum over a range. -/
import Derived.Test.YtkklagdniaoghaaGreatDoorG1
import Derived.Test.YtkklagdniaoghaaGreatDoorG2
namespace Go.Proofs.MapEnt
open Go.RowKit Go.Proofs.Bag
open Go.Maps (Keyed)

instance : LawfulBEq ByteArray where
  eq_of_beq {a b} h := by
    have h' : (a.data == b.data) = true := h
    have := eq_of_beq h'
    cases a; cases b
    simp only at this
    rw [this]
  rfl {a} := by
    show (a.data == a.data) = true
    exact beq_self_eq_true _
abbrev Gram := List ByteArray
/-- A gram, as an array of four words. -/
def enc (g : Gram) : Value := .agg ((g ++ List.replicate (4 - g.length) ByteArray.empty).map Value.string).toArray
theorem enc_inj {g h : Gram} (hl : g.length = h.length) (e : enc g = enc h) : g = h := by
  simp only [enc, Value.agg.injEq] at e
  have e1 := congrArg Array.toList e
  simp only at e1
  have e2 := (List.map_inj_right (f := Value.string) (fun a b h => by cases h; rfl)).1 e1
  exact (List.append_inj e2 hl).1
def ent (gs : List Gram) (g : Gram) : Value × Value := (enc g, .int .i64 (gs.count g : Nat))

/-- Block b is a map that counts the grams gs. -/
def CMap (P : Program) (k : TypeId) (w : World) (b : Nat) (gs : List Gram) : Prop :=
  ∃ ks : List Gram, ks.Nodup ∧ (∀ g, g ∈ ks ↔ g ∈ gs) ∧ MapHas P k w b (ks.map (ent gs))

section
variable {P : Program} {k : TypeId} {w w' : World} {b n : Nat} {gs : List Gram} {g : Gram}
theorem CMap.new (P : Program) (k : TypeId) (w : World) : CMap P k (w.alloc (.map #[] 0)) w.heap.size [] := ⟨[], List.nodup_nil, fun _ => Iff.rfl, MapHas.new P k w⟩
theorem CMap.same (h : CMap P k w b gs) (e : w'.heap[b]? = w.heap[b]?) : CMap P k w' b gs := by
  obtain ⟨ks, h1, h2, h3⟩ := h
  exact ⟨ks, h1, h2, h3.same e⟩
theorem CMap.lt (h : CMap P k w b gs) : b < w.heap.size := by
  obtain ⟨ks, h1, h2, h3⟩ := h
  exact h3.lt
theorem look_none {ks : List Gram} (hm : ∀ g, g ∈ ks ↔ g ∈ gs) (h : ∀ p ∈ ks.map (ent gs), p.1 ≠ enc g) : gs.count g = 0 := by
  refine List.count_eq_zero.2 fun hg => ?_
  exact h _ (List.mem_map.2 ⟨g, (hm g).2 hg, rfl⟩) rfl
theorem look_some {ks : List Gram} (hm : ∀ g, g ∈ ks ↔ g ∈ gs) (hn : ∀ g ∈ gs, g.length = n) (hg : g.length = n) {v : Value} (h : (enc g, v) ∈ ks.map (ent gs)) : v = .int .i64 (gs.count g : Nat) := by
  obtain ⟨g', h1, h2⟩ := List.mem_map.1 h
  simp only [ent, Prod.mk.injEq] at h2
  have : g' = g := enc_inj (by rw [hn g' ((hm g').1 h1), hg]) h2.1
  subst this
  exact h2.2.symm
theorem CMap.put_ {l' : List (Value × Value)} {ks : List Gram} (h1 : ks.Nodup) (h2 : ∀ g, g ∈ ks ↔ g ∈ gs) (hn : ∀ g ∈ gs, g.length = n) (hg : g.length = n) (h : MapHas P k w' b l')
    (hl : ((∀ p ∈ ks.map (ent gs), p.1 ≠ enc g) ∧ l' = ks.map (ent gs) ++ [(enc g, .int .i64 ((gs.count g : Nat) + 1))]) ∨
      ∃ l1 l2 old, ks.map (ent gs) = l1 ++ (enc g, old) :: l2 ∧ l' = l1 ++ (enc g, .int .i64 ((gs.count g : Nat) + 1)) :: l2) : CMap P k w' b (gs ++ [g]) := by
  have hself : ent (gs ++ [g]) g = (enc g, .int .i64 ((gs.count g : Nat) + 1)) := by simp [ent]
  have hother : ∀ l : List Gram, g ∉ l → l.map (ent (gs ++ [g])) = l.map (ent gs) := fun l hl => by
    refine List.map_congr_left fun x hx => ?_
    have : g ≠ x := fun e => hl (e ▸ hx)
    simp only [ent, List.count_append]
    rw [List.count_cons_of_ne this, List.count_nil, Nat.add_zero]
  rcases hl with ⟨ha, rfl⟩ | ⟨l1, l2, old, e, rfl⟩
  · have hnot : g ∉ ks := fun hk => ha _ (List.mem_map.2 ⟨g, hk, rfl⟩) rfl
    refine ⟨ks ++ [g], List.nodup_append.2 ⟨h1, by simp, fun x hx y hy => ?_⟩, fun x => ?_, ?_⟩
    · obtain rfl := List.mem_singleton.1 hy
      exact fun e => hnot (e ▸ hx)
    · simp only [List.mem_append, List.mem_singleton, h2 x]
    · rw [List.map_append, hother ks hnot]
      simp only [List.map_cons, List.map_nil, hself]
      exact h
  · obtain ⟨k1, k3, rfl, rfl, e2⟩ := List.map_eq_append_iff.1 e
    obtain ⟨g', k2, rfl, e3, rfl⟩ := List.map_eq_cons_iff.1 e2
    have hg' : g' ∈ gs := (h2 g').1 (by simp)
    have : g' = g := enc_inj (by rw [hn g' hg', hg]) (Prod.mk.inj e3).1
    subst this
    have hnd := List.nodup_append.1 h1
    have hk1 : g' ∉ k1 := fun hx => hnd.2.2 g' hx g' (by simp) rfl
    have hk2 : g' ∉ k2 := (List.nodup_cons.1 hnd.2.1).1
    refine ⟨k1 ++ g' :: k2, h1, fun x => ?_, ?_⟩
    · rw [h2 x]
      simp only [List.mem_append, List.mem_singleton]
      exact ⟨.inl, fun h => h.elim id (fun e => e ▸ hg')⟩
    · rw [List.map_append, List.map_cons, hother k1 hk1, hother k2 hk2, hself]
      exact h
end

section
variable {P : Program} (w : World) {ops : Array Oper} {rest : List Oper} {o : Oper} {a : Act} {Q : Exit → Act → World → Prop}
theorem wpList_look_c (hgd : o.guard = none) (m x : Operand) (t : TypeId) (hop : o.op = Op.lookup t m x false)
    (k e : TypeId) (K : Keyed P k) (ht : P.underlying t = some (.map k e)) (hz : (zeroValue e).run P w = .ok (.int .i64 0) w) (b n : Nat) (gs : List Gram) (hn : ∀ g ∈ gs, g.length = n)
    (hm : a.eval m = .map (some b)) (h : CMap P k w b gs) (g : Gram) (hg : g.length = n) (kl : Lit) (hx : a.eval x = enc g) (hkey : keyOf P k (enc g) = some kl)
    (hK : wpList P ops Q rest (a.put o.dst (.int .i64 (gs.count g : Nat))) w) : wpList P ops Q (o :: rest) a w := by
  obtain ⟨ks, h1, h2, h3⟩ := h
  refine wpList_lookup_has w hgd m x t false hop k e K ht _ hz b _ hm h3 (enc g) kl hx hkey (fun hne => ?_) (fun v hv => ?_)
  · have := look_none h2 hne
    rw [this] at hK
    exact hK
  · rw [look_some h2 hn hg hv]
    exact hK
theorem wpList_put_c (hgd : o.guard = none) (m x v : Operand) (t : TypeId) (hop : o.op = Op.mapUpdate t m x v)
    (k e : TypeId) (K : Keyed P k) (ht : P.underlying t = some (.map k e)) (b n : Nat) (gs : List Gram) (hn : ∀ g ∈ gs, g.length = n)
    (hm : a.eval m = .map (some b)) (h : CMap P k w b gs) (g : Gram) (hg : g.length = n) (kl : Lit) (hx : a.eval x = enc g) (hkey : keyOf P k (enc g) = some kl) (hv : a.eval v = .int .i64 ((gs.count g : Nat) + 1))
    (hK : ∀ w', CMap P k w' b (gs ++ [g]) → w.grownBy w' (some b) → w'.heap.size = w.heap.size → wpList P ops Q rest (a.put o.dst undef) w') : wpList P ops Q (o :: rest) a w := by
  obtain ⟨ks, h1, h2, h3⟩ := h
  exact wpList_put w hgd m x v t hop k e K ht b _ hm h3 (enc g) _ kl hx hv hkey fun w' l' r1 r2 r3 r4 => hK w' (CMap.put_ h1 h2 hn hg r1 r4) r2 r3
end

/-- A range over the counts of gs is under way; rk is still to come. -/
def COn (P : Program) (k : TypeId) (w : World) (b r : Nat) (gs rk : List Gram) : Prop :=
  ∃ (ks : List Gram) (rest : List (Value × Value)), ks.Nodup ∧ (∀ g, g ∈ ks ↔ g ∈ gs) ∧ RangeOn P k w b r (ks.map (ent gs)) rest ∧ rest.Perm (rk.map (ent gs)) ∧ ∀ g ∈ rk, g ∈ gs
section
variable {P : Program} {k : TypeId} {w w' : World} {b r : Nat} {gs rk : List Gram}
theorem COn.has (h : COn P k w b r gs rk) : CMap P k w b gs := by
  obtain ⟨ks, rest, h1, h2, h3, _⟩ := h
  exact ⟨ks, h1, h2, h3.has⟩
theorem COn.kept {row : Option Nat} (h : COn P k w b r gs rk) (hg : w.grownBy w' row) (hb : some b ≠ row) (hr : some r ≠ row) : COn P k w' b r gs rk := by
  obtain ⟨ks, rest, h1, h2, h3, h4⟩ := h
  exact ⟨ks, rest, h1, h2, h3.kept hg hb hr, h4⟩
end
section
variable {P : Program} {k : TypeId} (w : World) {ops : Array Oper} {rest : List Oper} {o : Oper} {a : Act} {Q : Exit → Act → World → Prop}
theorem wpList_range_c (hgd : o.guard = none) (m : Operand) (t : TypeId) (hop : o.op = Op.range t m) (e : TypeId) (ht : P.underlying t = some (.map k e)) (b : Nat) (gs : List Gram)
    (hm : a.eval m = .map (some b)) (h : CMap P k w b gs)
    (hK : ∀ w' (ks : List Gram), ks.Nodup → (∀ g, g ∈ ks ↔ g ∈ gs) → COn P k w' b w.heap.size gs ks → w.grownBy w' none → w'.heap.size = w.heap.size + 1 → wpList P ops Q rest (a.put o.dst (.pointer (some ⟨w.heap.size, 0, none⟩))) w') :
    wpList P ops Q (o :: rest) a w := by
  obtain ⟨ks, h1, h2, h3⟩ := h
  exact wpList_range_has w hgd m t hop k e ht b _ hm h3 fun w' r1 r2 r3 => hK w' ks h1 h2 ⟨ks, _, h1, h2, r1, .refl _, fun g hg => (h2 g).1 hg⟩ r2 r3
theorem wpList_next_c (hgd : o.guard = none) (it : Operand) (hop : o.op = Op.next it false) (b r : Nat) (gs rk : List Gram)
    (hit : a.eval it = .pointer (some ⟨r, 0, none⟩)) (h : COn P k w b r gs rk)
    (hDone : rk = [] → wpList P ops Q rest (a.put o.dst (.tuple #[.bool false])) w)
    (hMore : ∀ g rk' w', g ∈ gs → rk.Perm (g :: rk') → COn P k w' b r gs rk' → w.grownBy w' (some r) → w'.heap.size = w.heap.size →
      (Instr.entry (.pointer (some ⟨r, 0, none⟩))).run P w' = .ok (.tuple #[enc g, .int .i64 (gs.count g : Nat)]) w' → wpList P ops Q rest (a.put o.dst (.tuple #[.bool true, enc g, .int .i64 (gs.count g : Nat)])) w') :
    wpList P ops Q (o :: rest) a w := by
  obtain ⟨ks, left, h1, h2, h3, h4, h5⟩ := h
  refine wpList_next_on w hgd it hop k b r _ left hit h3 (fun e => ?_) (fun p left' w' hp hperm hon hgr hsz hen => ?_)
  · subst e
    refine hDone ?_
    have := List.map_eq_nil_iff.1 (List.Perm.nil_eq h4).symm
    exact this
  · have hp' : p ∈ rk.map (ent gs) := (hperm.symm.trans h4).mem_iff.1 (by simp)
    obtain ⟨g, hg, rfl⟩ := List.mem_map.1 hp'
    have hsplit : rk.Perm (g :: rk.erase g) := List.perm_cons_erase hg
    have h6 : left'.Perm ((rk.erase g).map (ent gs)) := by
      have : (ent gs g :: left').Perm (ent gs g :: (rk.erase g).map (ent gs)) := (hperm.symm.trans h4).trans (hsplit.map (ent gs))
      exact this.cons_inv
    exact hMore g (rk.erase g) w' (h5 g hg) hsplit ⟨ks, left', h1, h2, hon, h6, fun x hx => h5 x (List.mem_of_mem_erase hx)⟩ hgr hsz hen
end

def zeroG (n : Nat) : Gram := List.replicate n ByteArray.empty
/-- What an entry adds to the sum. -/
def part (n : Nat) (gx gy : List Gram) (g : Gram) : Nat := if g = zeroG n ∧ n ≠ 1 then 0 else min (gx.count g) (gy.count g)
def sumP (n : Nat) (gx gy : List Gram) (l : List Gram) : Nat := (l.map (part n gx gy)).sum
theorem sumP_perm {n : Nat} {gx gy l l' : List Gram} (h : l.Perm l') : sumP n gx gy l = sumP n gx gy l' := by
  unfold sumP
  induction h with
  | nil => rfl
  | cons x _ ih => simp only [List.map_cons, List.sum_cons, ih]
  | swap x y l => simp only [List.map_cons, List.sum_cons]; omega
  | trans _ _ h1 h2 => exact h1.trans h2
theorem sumP_cons (n : Nat) (gx gy : List Gram) (g : Gram) (l : List Gram) : sumP n gx gy (g :: l) = part n gx gy g + sumP n gx gy l := rfl
theorem sumP_one {gx gy ks : List Gram} (h1 : ks.Nodup) (h2 : ∀ g, g ∈ ks ↔ g ∈ gx) : sumP 1 gx gy ks = mm gx gy := by
  rw [mm_sk gx gy ks h1 (fun x hx _ => (h2 x).2 hx)]
  unfold sumP sk
  congr 1
  refine List.map_congr_left fun g _ => ?_
  simp [part]
theorem sumP_more {n : Nat} (hn : n ≠ 1) {gx gy : List Gram} : ∀ {ks : List Gram}, ks.Nodup → sumP n gx gy ks + (if zeroG n ∈ ks then min (gx.count (zeroG n)) (gy.count (zeroG n)) else 0) = sk ks gx gy
  | [], _ => rfl
  | k :: ks, h => by
    obtain ⟨hk, hnd⟩ := List.nodup_cons.1 h
    have ih := sumP_more hn (gx := gx) (gy := gy) hnd
    simp only [sumP_cons, sk, List.map_cons, List.sum_cons] at ih ⊢
    by_cases e : k = zeroG n
    · subst e
      simp only [hk, if_false, List.mem_cons, true_or, if_true, part, hn, ne_eq, not_false_eq_true, and_self] at ih ⊢
      omega
    · have e' : ¬ zeroG n = k := fun h => e h.symm
      simp only [List.mem_cons, e', false_or, part, e, false_and, if_false] at ih ⊢
      omega
theorem sumP_all {n : Nat} (hn : n ≠ 1) {gx gy ks : List Gram} (h1 : ks.Nodup) (h2 : ∀ g, g ∈ ks ↔ g ∈ gx) : sumP n gx gy ks + min (gx.count (zeroG n)) (gy.count (zeroG n)) = mm gx gy := by
  rw [mm_sk gx gy ks h1 (fun x hx _ => (h2 x).2 hx), ← sumP_more hn h1]
  by_cases hz : zeroG n ∈ ks
  · rw [if_pos hz]
  · rw [if_neg hz, List.count_eq_zero.2 (fun h => hz ((h2 _).2 h))]
    simp
end Go.Proofs.MapEnt
