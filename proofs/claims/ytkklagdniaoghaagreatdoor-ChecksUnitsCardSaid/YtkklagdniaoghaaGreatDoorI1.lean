/- 'for i, r := range s' over a string, whatever else lies in memory: laws for the walk. -/
import Derived.WalkKit
import Derived.WalkSpells
import Derived.Laws.RangeString
import Derived.ChangeMaps
import Derived.Test.YtkklagdniaoghaaGreatDoorU1
namespace Go.Proofs.StrIt
open Go Go.RowKit Go.Lib Go.Proofs.Uni
open Go.ChangeMaps (setBlock)

section
variable {P : Program} {w : World} {r pos : Nat} {s : ByteArray}
theorem run_next_more (ty : TypeId) (h : w.heap[r]? = some (.stringIter s pos)) (hp : pos < s.size) :
    (Instr.next (.pointer (some ⟨r, 0, none⟩)) true ty).run P w = .ok (.tuple #[.bool true, .int .i64 pos, .int .i32 (Utf8.decode s pos).1]) (setBlock w r (.stringIter s (pos + (Utf8.decode s pos).2))) := by
  simp [Instr.next, getObj, setObj, Sem.run, h, Result.andThen, hp, goInt, setBlock]
theorem run_next_done (ty : TypeId) (h : w.heap[r]? = some (.stringIter s pos)) (hp : ¬ pos < s.size) :
    (Instr.next (.pointer (some ⟨r, 0, none⟩)) true ty).run P w = .ok (.tuple #[.bool false]) w := by
  simp [Instr.next, getObj, Sem.run, h, hp]
end
section
variable {P : Program} (w : World) {ops : Array Oper} {rest : List Oper} {o : Oper} {a : Act} {Q : Exit → Act → World → Prop}
theorem wpList_next_str (hg : o.guard = none) (it : Operand) (hop : o.op = Op.next it true) (r : Nat) (s : ByteArray) (pos : Nat)
    (hit : a.eval it = .pointer (some ⟨r, 0, none⟩)) (h : w.heap[r]? = some (.stringIter s pos))
    (hDone : ¬ pos < s.size → wpList P ops Q rest (a.put o.dst (.tuple #[.bool false])) w)
    (hMore : pos < s.size → ∀ w', w'.heap[r]? = some (.stringIter s (pos + (Utf8.decode s pos).2)) → w.grownBy w' (some r) → w'.heap.size = w.heap.size →
      wpList P ops Q rest (a.put o.dst (.tuple #[.bool true, .int .i64 pos, .int .i32 (Utf8.decode s pos).1])) w') :
    wpList P ops Q (o :: rest) a w := by
  refine wpList_plain hg fun K' hK' => ?_
  unfold Oper.wp
  have hr : r < w.heap.size := (Array.getElem?_eq_some_iff.1 h).1
  by_cases hp : pos < s.size
  · simp [execOp, hop, hit, run_next_more (P := P) _ h hp, Result.andThen]
    exact hK' _ _ (hMore hp _ (by simp [setBlock, hr]) ⟨rfl, rfl, rfl, by simp [setBlock], fun i _ hi => by
      have : r ≠ i := fun e => hi (by rw [e])
      simp [setBlock, this]⟩ (by simp [setBlock]))
  · simp [execOp, hop, hit, run_next_done (P := P) _ h hp, Result.andThen]
    exact hK' _ _ (hDone hp)
end

/-- How far a range over a string has come: the runes behind it, those still to come. -/
def Half (s : ByteArray) (pos : Nat) (rs : List Nat) : Prop := rs ++ runes (s.data.toList.drop pos) = runes s.data.toList ∧ rs.length ≤ pos
theorem runesF_more : ∀ (f g : Nat) (l : List UInt8), l.length ≤ f → l.length ≤ g → runesF f l = runesF g l
  | 0, 0, _, _, _ => rfl
  | 0, g + 1, l, h, _ => by
    have : l = [] := List.eq_nil_of_length_eq_zero (by omega)
    subst this; rfl
  | f + 1, 0, l, _, h => by
    have : l = [] := List.eq_nil_of_length_eq_zero (by omega)
    subst this; rfl
  | f + 1, g + 1, l, h1, h2 => by
    by_cases hl : l = []
    · subst hl; rfl
    · have hw := decodeL_width l
      simp only [runesF, if_neg hl]
      rw [runesF_more f g _ (by simp only [List.length_drop]; omega) (by simp only [List.length_drop]; omega)]
theorem runes_step {l : List UInt8} (h : l ≠ []) : runes l = (decodeL l).1 :: runes (l.drop (decodeL l).2) := by
  have hl : 0 < l.length := List.length_pos_iff.2 h
  have hw := decodeL_width l
  obtain ⟨n, hn⟩ : ∃ n, l.length = n + 1 := ⟨l.length - 1, by omega⟩
  unfold runes
  rw [hn]
  simp only [runesF, if_neg h]
  rw [runesF_more n _ _ (by simp only [List.length_drop]; omega) (Nat.le_refl _)]
theorem half_start (s : ByteArray) : Half s 0 [] := ⟨by simp, Nat.le_refl _⟩
theorem half_step {s : ByteArray} {pos : Nat} {rs : List Nat} (h : Half s pos rs) (hp : pos < s.size) : Half s (pos + (Utf8.decode s pos).2) (rs ++ [(Utf8.decode s pos).1]) := by
  have hl : s.data.toList.drop pos ≠ [] := by
    intro e
    have := congrArg List.length e
    have hs : s.data.toList.length = s.size := by simp
    simp only [List.length_drop, List.length_nil] at this
    omega
  obtain ⟨h1, h2⟩ := h
  have hw := decodeL_width (s.data.toList.drop pos)
  rw [decodeL_drop] at hw
  refine ⟨?_, by simp; omega⟩
  rw [runes_step hl, decodeL_drop, List.drop_drop] at h1
  simpa using h1
theorem half_end {s : ByteArray} {pos : Nat} {rs : List Nat} (h : Half s pos rs) (hp : ¬ pos < s.size) : rs = runes s.data.toList := by
  obtain ⟨h1, _⟩ := h
  rw [List.drop_of_length_le (by simp; omega)] at h1
  simpa [runes, runesF] using h1
theorem runes_len (l : List UInt8) : (runes l).length ≤ l.length := by
  unfold runes
  suffices ∀ f (l : List UInt8), l.length ≤ f → (runesF f l).length ≤ l.length from this _ l (Nat.le_refl _)
  intro f
  induction f with
  | zero => intro l _; exact Nat.zero_le _
  | succ f ih =>
    intro l h
    by_cases hl : l = []
    · subst hl; exact Nat.le_refl _
    · have hw := decodeL_width l
      have hlp : 0 < l.length := List.length_pos_iff.2 hl
      have := ih (l.drop (decodeL l).2) (by simp only [List.length_drop]; omega)
      simp only [List.length_drop] at this
      simp only [runesF, if_neg hl, List.length_cons]
      omega
end Go.Proofs.StrIt
