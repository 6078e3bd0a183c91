/- Appending quotients, in a drawn region: one step. -/
import Derived.Test.YtkklagdniaoghaaGreatDoorP6
import Derived.Test.YtkklagdniaoghaaGreatDoorPB
import Derived.Test.YtkklagdniaoghaaGreatDoorH2
import Derived.Laws.AppendOwnNone
namespace Go
section
variable {P : Program} {ops : Array Oper} {Q : Exit → Act → World → Prop} {md : Region.Mode} {S : World → Prop} {L : List Nat}
/-- Two may come up, in either order; S is shown anew behind each. -/
theorem wpAnyFree_call2 (i k : Nat) {o p : Oper} {fuel : Nat} {listed : Array Bool} {a : Act} {w : World} (hr : Region.ready md ops listed = [i, k]) (ho : ops[i]? = some o) (hp : ops[k]? = some p) (hw : Region.wanted o (yielded ops a.tmps) = true) (hw2 : Region.wanted p (yielded ops a.tmps) = true)
    (h : ∀ K' : Act → World → Prop, Shut (∀ a w, S w → (S w → wpAnyFree P md ops Q S L fuel (listed.setIfInBounds i true) a w) → K' a w) → Oper.wp P o a w K' Q)
    (h2 : ∀ K' : Act → World → Prop, Shut (∀ a w, S w → (S w → wpAnyFree P md ops Q S L fuel (listed.setIfInBounds k true) a w) → K' a w) → Oper.wp P p a w K' Q) : wpAnyFree P md ops Q S L (fuel + 1) listed a w :=
  ⟨fun h0 => (by rw [h0] at hr; cases hr), fun j hj => by
    rw [hr] at hj
    have hj : j = i ∨ j = k := by simpa using hj
    rcases hj with rfl | rfl
    · exact wpOp_step ho (fun K' hK => by
        rw [if_pos hw]
        exact h K' (fun a w hS hW => hK a w ⟨fun _ _ => hS, hW hS⟩))
    · exact wpOp_step hp (fun K' hK => by
        rw [if_pos hw2]
        exact h2 K' (fun a w hS hW => hK a w ⟨fun _ _ => hS, hW hS⟩))⟩
end
end Go
namespace Go.Proofs.YtkklagdniaoghaaGreatDoor
open Go.RowKit Go.Proofs.Rank Go.Sort Go.Proofs.MapEnt
open Go.Proofs.Frac (fr)

/-- The cells of a list of quotients, plain. -/
def pC (l : List (Nat × Nat)) : List Value := l.flatMap fun q => [.int .i64 (q.1 : Nat), .int .i64 (q.2 : Nat)]
theorem pC_add (l m : List (Nat × Nat)) : pC (l ++ m) = pC l ++ pC m := List.flatMap_append
theorem pC_cons (q : Nat × Nat) (l : List (Nat × Nat)) : pC (q :: l) = .int .i64 (q.1 : Nat) :: .int .i64 (q.2 : Nat) :: pC l := rfl
theorem pC_len (l : List (Nat × Nat)) : (pC l).length = l.length * 2 := by
  induction l with
  | nil => rfl
  | cons q l ih =>
    rw [pC_cons]
    simp only [List.length_cons, ih]
    omega
theorem pC_at : ∀ (l : List (Nat × Nat)) (i : Nat) (h : i < l.length), (pC l)[i * 2]? = some (.int .i64 (l[i].1 : Nat)) ∧ (pC l)[i * 2 + 1]? = some (.int .i64 (l[i].2 : Nat))
  | q :: l, 0, _ => ⟨rfl, rfl⟩
  | q :: l, i + 1, h => by
    have := pC_at l i (by simpa using h)
    rw [pC_cons, show (i + 1) * 2 = i * 2 + 1 + 1 by omega]
    exact this
theorem pC_one (l : List (Nat × Nat)) : ∀ u ∈ pC l, ∃ n : Int, u = .int .i64 n := by
  intro u hu
  obtain ⟨q, _, h⟩ := List.mem_flatMap.1 hu
  simp only [List.mem_cons, List.not_mem_nil, or_false] at h
  rcases h with rfl | rfl
  · exact ⟨_, rfl⟩
  · exact ⟨_, rfl⟩
theorem pC_take (l : List (Nat × Nat)) (k : Nat) : pC (l.take k) = (pC l).take (k * 2) := by
  induction l generalizing k with
  | nil => simp [pC]
  | cons q l ih =>
    cases k with
    | zero => simp [pC]
    | succ k => rw [List.take_succ_cons, pC_cons, pC_cons, ih, show (k + 1) * 2 = k * 2 + 1 + 1 by omega, List.take_succ_cons, List.take_succ_cons]
theorem pC_drop (l : List (Nat × Nat)) (k : Nat) : pC (l.drop k) = (pC l).drop (k * 2) := by
  induction l generalizing k with
  | nil => simp [pC]
  | cons q l ih =>
    cases k with
    | zero => rfl
    | succ k => rw [List.drop_succ_cons, pC_cons, ih, show (k + 1) * 2 = k * 2 + 1 + 1 by omega, List.drop_succ_cons, List.drop_succ_cons]
theorem add_off (g o j : Nat) : ({ block := g, off := o } : Addr).add j = ⟨g, o + j, none⟩ := by
  unfold Addr.add
  split
  · rename_i h0
    simp
  · rfl
/-- Quotients that can be read. -/
def SrcIn (w : World) (A : Option Addr) (M : List (Nat × Nat)) : Prop := ∀ j u, (pC M)[j]? = some u → ∃ ad, A = some ad ∧ ad.block < w.heap.size ∧ w.cell? (ad.add j) = some u
theorem SrcIn.up {w w' : World} {A : Option Addr} {M : List (Nat × Nat)} (h : SrcIn w A M) (hs : w.Since w.heap.size w') : SrcIn w' A M := fun j u hj => by
  obtain ⟨ad, h1, h2, h3⟩ := h j u hj
  exact ⟨ad, h1, Nat.lt_of_lt_of_le h2 hs.size, (hs.cell (by rw [block_add]; exact h2)).trans h3⟩
theorem SrcIn.grown {w w' : World} {A : Option Addr} {M : List (Nat × Nat)} {row : Option Nat} (h : SrcIn w A M) (hg : w.grownBy w' row) (hn : ∀ ad, A = some ad → some ad.block ≠ row) : SrcIn w' A M := fun j u hj => by
  obtain ⟨ad, h1, h2, h3⟩ := h j u hj
  refine ⟨ad, h1, Nat.lt_of_lt_of_le h2 hg.size, ?_⟩
  rw [World.cell?_of_block (w := w) (by rw [block_add]; exact hg.block _ h2 (hn ad h1))]
  exact h3
theorem srcIn_one (w : World) (a b : Nat) : SrcIn (w.alloc (.cells #[.int .i64 a, .int .i64 b] 25)) (some ⟨w.heap.size, 0, none⟩) [(a, b)] := fun j u hj => by
  refine ⟨_, rfl, by simp, ?_⟩
  match j, hj with
  | 0, hj => simp [pC] at hj; subst hj; simp [Addr.add]
  | 1, hj => simp [pC] at hj; subst hj; simp [Addr.add]
theorem own_slice {w : World} {base n : Nat} {v : Value} {xs : List Value} (h : w.ownsRow base 25 2 v n xs) : ∃ G cap, v = .slice G n cap ∧ n ≤ cap ∧ cap ≤ maxLen ∧ (G = none ∧ n = 0 ∧ cap = 0 ∨ ∃ g, G = some ⟨g, 0, none⟩) := by
  obtain ⟨h1, ⟨rfl, h2⟩ | ⟨g, cap, cur, rfl, _, _, h3, h4, _⟩⟩ := id h
  · exact ⟨none, 0, by rw [h2], by omega, Nat.zero_le _, .inl ⟨rfl, h2, rfl⟩⟩
  · exact ⟨_, _, rfl, h3, h4, .inr ⟨g, rfl⟩⟩
theorem ownsRow_low {w : World} {base base' n : Nat} {v : Value} {xs : List Value} (h : w.ownsRow base 25 2 v n xs) (hb : base' ≤ base) : w.ownsRow base' 25 2 v n xs := by
  obtain ⟨h1, h2 | ⟨g, cap, cur, e, h3, h4⟩⟩ := h
  · exact ⟨h1, .inl h2⟩
  · exact ⟨h1, .inr ⟨g, cap, cur, e, by omega, h4⟩⟩
theorem row_src {w : World} {base n : Nat} {G : Option Addr} {cap : Nat} {L : List (Nat × Nat)} (h : w.ownsRow base 25 2 (.slice G n cap) n (pC L)) (k : Nat) (hk : k ≤ n) :
    SrcIn w G (L.take k) ∧ ∀ G2, (if cap = k then G else Option.map (fun x => x.add (k * 2)) G) = G2 → SrcIn w G2 (L.drop k) := by
  have hl : L.length = n := by have := h.1; rw [pC_len] at this; omega
  obtain ⟨h1, ⟨e, h2⟩ | ⟨g, cap', cur, e, hb, hr, hc, hc2⟩⟩ := id h
  · injection e with e1 e2 e3
    subst e1 e3 h2
    have hL : L = [] := List.eq_nil_of_length_eq_zero hl
    subst hL
    exact ⟨fun j u hj => by simp [pC] at hj, fun _ _ j u hj => by simp [pC] at hj⟩
  · injection e with e1 e2 e3
    subst e1 e3
    have hg := (h.lt g rfl).2
    refine ⟨fun j u hj => ⟨_, rfl, hg, ?_⟩, fun G2 hG2 j u hj => ?_⟩
    · rw [pC_take, List.getElem?_take] at hj
      split at hj
      · exact h.cells (g := g) rfl j u hj
      · cases hj
    · rw [pC_drop, List.getElem?_drop] at hj
      have hlt : k * 2 + j < (pC L).length := by
        cases Nat.lt_or_ge (k * 2 + j) (pC L).length with
        | inl h => exact h
        | inr h => rw [List.getElem?_eq_none h] at hj; cases hj
      rw [pC_len] at hlt
      rw [if_neg (by omega)] at hG2
      subst hG2
      refine ⟨_, rfl, by rw [block_add]; exact hg, ?_⟩
      show w.cell? ((({ block := g, off := 0 } : Addr).add (k * 2)).add j) = some u
      rw [add_off, add_off, Nat.zero_add, ← Nat.zero_add (k * 2 + j), ← add_off]
      exact h.cells (g := g) rfl (k * 2 + j) u hj
theorem row_cells {w : World} {base n : Nat} {v : Value} {L : List (Nat × Nat)} (h : w.ownsRow base 25 2 v n (pC L)) {i : Nat} (hi : i < L.length) :
    ∃ g cap, v = .slice (some ⟨g, 0, none⟩) n cap ∧ base ≤ g ∧ g < w.heap.size ∧ w.cell? ⟨g, i * 2, none⟩ = some (.int .i64 (L[i].1 : Nat)) ∧ w.cell? ⟨g, i * 2 + 1, none⟩ = some (.int .i64 (L[i].2 : Nat)) := by
  have hl : L.length = n := by have := h.1; rw [pC_len] at this; omega
  obtain ⟨h1, ⟨rfl, h2⟩ | ⟨g, cap, cur, rfl, hb, hr, hr2⟩⟩ := id h
  · omega
  · have h3 := h.cells (g := g) rfl (i * 2) _ (pC_at L i hi).1
    have h4 := h.cells (g := g) rfl (i * 2 + 1) _ (pC_at L i hi).2
    rw [add_off, Nat.zero_add] at h3 h4
    exact ⟨g, cap, rfl, hb, (h.lt g rfl).2, h3, h4⟩
theorem lit_q (w : World) : (w.alloc (.cells #[] 25)).ownsRow w.heap.size 25 2 (.slice (some ⟨w.heap.size, 0, none⟩) 0 0) 0 [] :=
  World.ownsRow_lit w #[] 0 (Nat.le_refl _) (Nat.zero_le _) rfl
theorem run_append_q (w : World) (base : Nat) (ty : TypeId) (v : Value) (n : Nat) (xs : List Value) (hown : w.ownsRow base 25 2 v n xs) (A : Option Addr) (c : Nat) (M : List (Nat × Nat))
    (hA : SrcIn w A M) (hn : n + M.length ≤ 100000) (hbase : base ≤ w.heap.size) :
    ∃ v' w', (Builtin.append_ #[34, 34] ty #[v, .slice A M.length c]).run Tryz.prog w = .ok v' w' ∧ w'.ownsRow base 25 2 v' (n + M.length) (xs ++ pC M) ∧ w.grownBy w' v.ownBlock := by
  obtain ⟨i0, hi, hz0, hz1, hz2⟩ := info_parts info25
  cases A with
  | none =>
    have hl : M = [] := by
      cases M with
      | nil => rfl
      | cons x t => obtain ⟨ad, h, _⟩ := hA 0 _ (by rw [pC_cons]; rfl); cases h
    subst hl
    refine ⟨v, w, ?_, by simpa [pC] using hown, ⟨rfl, rfl, rfl, Nat.le_refl _, fun _ _ _ => rfl⟩⟩
    rcases hown.2 with ⟨rfl, rfl⟩ | ⟨g, cap, cur, rfl, _, _, hnc, _⟩
    · simp [Builtin.append_, run_underlying Tryz.underlying34, sizeOf, typeInfo, hi, Builtin.lenOf, Builtin.firstCells]
    · simp [Builtin.append_, run_underlying Tryz.underlying34, sizeOf, typeInfo, hi, Builtin.lenOf, Builtin.firstCells, hnc, storeCells]
  | some ad =>
    obtain ⟨v', w', h1, h2, h3, _⟩ := run_append_own (P := Tryz.prog) w base 34 ty 25 i0 (.agg #[.int .i64 0, .int .i64 0]) 2 16 Tryz.underlying34 hi hz0 hz1 hz2 rfl (by decide) v n xs hown ad M.length c (pC M) (pC_len M)
      (fun j u hu => by
        obtain ⟨ad', e, _, hc⟩ := hA j u hu
        cases e
        exact hc)
      (fun u hu => by obtain ⟨x, rfl⟩ := pC_one M u hu; rfl) (by simp only [maxLen]; omega) (by omega) hbase
    exact ⟨v', w', h1, h2, h3⟩
theorem oper_append {o : Oper} {a : Act} {w : World} {K : Act → World → Prop} {Q : Exit → Act → World → Prop} (s x : Operand)
    (ho : o.op = .call { callee := .builtin .append, args := #[s, x], argTypes := #[34, 34] })
    {base : Nat} {v : Value} {n : Nat} {xs : List Value} (hs : a.eval s = v) (hown : w.ownsRow base 25 2 v n xs) (A : Option Addr) (c : Nat) (M : List (Nat × Nat)) (m : Nat) (hm : m = M.length) (hx : a.eval x = .slice A m c)
    (hA : SrcIn w A M) (hn : n + M.length ≤ 100000) (hbase : base ≤ w.heap.size)
    (h : ∀ v' w', w'.ownsRow base 25 2 v' (n + M.length) (xs ++ pC M) → w.grownBy w' v.ownBlock → K (a.put o.dst v') w') : Oper.wp Tryz.prog o a w K Q := by
  subst hm
  obtain ⟨v', w', hr, h2, h3⟩ := run_append_q w base o.type v n xs hown A c M hA hn hbase
  unfold Oper.wp execOp
  simp only [ho, resolve, invoke, builtin, Sem.run_bind, Sem.run_pure, Result.andThen_ok, List.map_toArray, List.map_cons, List.map_nil, hs, hx, hr]
  exact h v' w' h2 h3
end Go.Proofs.YtkklagdniaoghaaGreatDoor
