/- Rows of words that are laid anew by 'append'. -/
import Derived.Test.YtdiamfejibicbaaGreatDoorS1
import Derived.Laws.AppendOwnNone
namespace Go.Proofs.YtdiamfejibicbaaGreatDoor
open Go.RowKit Go.Proofs.Lev

theorem info9 : (Tryz.prog.info? 9).map (fun i => (i.zero, i.size, i.bytes)) = some (some (.string ByteArray.empty), 1, 16) := by kernel_rfl

theorem run_append_words (w : World) (base : Nat) (ty : TypeId) (v : Value) (n : Nat) (xs : List Value) (hown : w.ownsRow base 9 1 v n xs) (A : Option Addr) (c : Nat) (l : Ws)
    (hA : StrAt w w.heap.size A l) (hn : n + l.length ≤ 100000) (hbase : base ≤ w.heap.size) :
    ∃ v' w', (Builtin.append_ #[22, 22] ty #[v, .slice A l.length c]).run Tryz.prog w = .ok v' w' ∧ w'.ownsRow base 9 1 v' (n + l.length) (xs ++ l.map .string) ∧ w.grownBy w' v.ownBlock := by
  obtain ⟨i0, hi, hz0, hz1, hz2⟩ := info_parts info9
  cases A with
  | none =>
    have hl : l = [] := by
      cases l with
      | nil => rfl
      | cons x t => obtain ⟨ad, h, _⟩ := hA.at_ 0 (by simp); cases h
    subst hl
    refine ⟨v, w, ?_, by simpa using hown, ⟨rfl, rfl, rfl, Nat.le_refl _, fun _ _ _ => rfl⟩⟩
    rcases hown.2 with ⟨rfl, rfl⟩ | ⟨g, cap, cur, rfl, _, _, hnc, _⟩
    · simp [Builtin.append_, run_underlying Tryz.underlying22, sizeOf, typeInfo, hi, Builtin.lenOf, Builtin.firstCells]
    · simp [Builtin.append_, run_underlying Tryz.underlying22, sizeOf, typeInfo, hi, Builtin.lenOf, Builtin.firstCells, hnc, storeCells]
  | some ad =>
    obtain ⟨v', w', h1, h2, h3, _⟩ := run_append_own (P := Tryz.prog) w base 22 ty 9 i0 (.string ByteArray.empty) 1 16 Tryz.underlying22 hi hz0 hz1 hz2 rfl (by decide) v n xs hown ad l.length c (l.map .string) (by simp)
      (fun j u hu => by
        rw [List.getElem?_map] at hu
        cases hj : l[j]? with
        | none => rw [hj] at hu; cases hu
        | some x =>
          rw [hj] at hu
          obtain ⟨hlt, rfl⟩ := List.getElem?_eq_some_iff.1 hj
          obtain ⟨ad', e, _, hc⟩ := hA.at_ j hlt
          cases e
          rw [hc, ← hu]; rfl)
      (fun u hu => by obtain ⟨x, _, rfl⟩ := List.mem_map.1 hu; rfl) (by simp only [maxLen]; omega) (by omega) hbase
    exact ⟨v', w', h1, h2, h3⟩

theorem wpList_append_words {ops : Array Oper} {rest : List Oper} {o : Oper} {a : Act} {w : World} {Q : Exit → Act → World → Prop} (hgd : o.guard = none) (s x : Operand)
    (ho : o.op = .call { callee := .builtin .append, args := #[s, x], argTypes := #[22, 22] })
    (base : Nat) (v : Value) (n : Nat) (xs : List Value) (hs : a.eval s = v) (hown : w.ownsRow base 9 1 v n xs) (A : Option Addr) (c : Nat) (l : Ws) (m : Nat) (hm : m = l.length) (hx : a.eval x = .slice A m c)
    (hA : StrAt w w.heap.size A l) (hn : n + l.length ≤ 100000) (hbase : base ≤ w.heap.size)
    (h : ∀ v' w', w'.ownsRow base 9 1 v' (n + l.length) (xs ++ l.map .string) → w.grownBy w' v.ownBlock → wpList Tryz.prog ops Q rest (a.put o.dst v') w') : wpList Tryz.prog ops Q (o :: rest) a w :=
  wpList_plain hgd fun K hK => by
    subst hm
    obtain ⟨v', w', hr, h2, h3⟩ := run_append_words w base o.type v n xs hown A c l hA hn hbase
    unfold Oper.wp execOp
    simp only [ho, resolve, invoke, builtin, Sem.run_bind, Sem.run_pure, Result.andThen_ok, List.map_toArray, List.map_cons, List.map_nil, hs, hx, hr]
    exact hK _ _ (h v' w' h2 h3)

theorem since_grown {B : Nat} {w wk w' : World} {blk : Option Nat} (h : w.Since B wk) (hB : B ≤ wk.heap.size) (hg : wk.grownBy w' blk) (hb : ∀ k, blk = some k → B ≤ k) : w.Since B w' :=
  ⟨hg.os.trans h.os, hg.tape.trans h.tape, hg.output.trans h.output, Nat.le_trans h.size hg.size, fun k hk => (hg.block k (by omega) (fun e => by have := hb k e.symm; omega)).trans (h.block k hk)⟩

/-- A row of words, of its own, is a list of words. -/
theorem words_of {w : World} {base n : Nat} {v : Value} {l : Ws} (h : w.ownsRow base 9 1 v n (l.map .string)) : ∃ G cap, v = .slice G l.length cap ∧ StrAt w w.heap.size G l := by
  have hn : n = l.length := by have := h.1; simp at this; omega
  subst hn
  obtain ⟨h1, ⟨rfl, h2⟩ | ⟨g, cap, cur, rfl, hb, hr⟩⟩ := id h
  · exact ⟨none, 0, by rw [h2], ⟨fun x hx => by omega⟩⟩
  · refine ⟨some ⟨g, 0, none⟩, cap, rfl, ⟨fun x hx => ⟨⟨g, 0, none⟩, rfl, (h.lt g rfl).2, ?_⟩⟩⟩
    rw [h.cells (g := g) rfl x (.string l[x]) (by simp [hx])]

/-- One word, laid as a row. -/
theorem word_at (w : World) (x : ByteArray) : StrAt (w.alloc (.cells #[.string x] 9)) (w.alloc (.cells #[.string x] 9)).heap.size (some ⟨w.heap.size, 0, none⟩) [x] :=
  ⟨fun i hi => by
    have hi0 : i = 0 := by simp at hi; omega
    subst hi0
    exact ⟨_, rfl, by simp, by simp [Addr.add]⟩⟩
/-- Where an extended list ends up. -/
theorem lit_own (w : World) : (w.alloc (.cells #[] 9)).ownsRow w.heap.size 9 1 (.slice (some ⟨w.heap.size, 0, none⟩) 0 0) 0 [] :=
  World.ownsRow_lit w #[] 0 (Nat.le_refl _) (Nat.zero_le _) rfl
theorem since_alloc {w wk : World} (h : w.Since w.heap.size wk) (o : Obj) : w.Since w.heap.size (wk.alloc o) := h.alloc h.size o
theorem since_grown' {w wk w' : World} {o : Obj} {blk : Option Nat} (h : w.Since w.heap.size wk) (hg : (wk.alloc o).grownBy w' blk) (hb : ∀ k, blk = some k → w.heap.size ≤ k) : w.Since w.heap.size w' :=
  since_grown (since_alloc h o) (by have := h.size; simp; omega) hg hb
theorem ext_words {w : World} {base n : Nat} {v : Value} {a : Ws} {word : ByteArray} (h : w.ownsRow base 9 1 v n (a.map Value.string ++ [.string word])) :
    ∃ (l : Ws) (G : Option Addr) (cap : Nat), Hid (l = a ++ [word]) ∧ v = .slice G l.length cap ∧ StrAt w w.heap.size G l := by
  obtain ⟨G, cap, h1, h2⟩ := words_of (l := a ++ [word]) (by simpa using h)
  exact ⟨a ++ [word], G, cap, rfl, h1, h2⟩
end Go.Proofs.YtdiamfejibicbaaGreatDoor
