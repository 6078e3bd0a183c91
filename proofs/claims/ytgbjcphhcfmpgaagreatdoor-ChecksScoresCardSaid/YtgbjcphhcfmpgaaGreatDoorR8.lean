/- A slice of lists of words, opened. -/
import Derived.Test.YtgbjcphhcfmpgaaGreatDoorR1
import Derived.Test.YtgbjcphhcfmpgaaGreatDoorW5
namespace Go.Proofs.YtgbjcphhcfmpgaaGreatDoor
open Go.RowKit Go.ChangeShapes Go.WideShapes Go.ChangeAt Go.Deep Go.Proofs.MapEnt

section
variable {H : Type} {enc : TypeId × Value → H} {W : World} {n : Nat} {c : Value} {x : DataW H × List MemPlace}
theorem open_lists (h : DataW.trod enc Tryz.prog W 0 (fun _ => true) true n 33 [c] = some x) :
    ∃ (L : Option Addr) (Ad : Nat → Option Addr) (ls : List Ws) (cp : Nat → Nat) (cap : Nat), c = .slice L ls.length cap ∧ ls.length ≤ 9223372036854775807 ∧ Lists W W.heap.size L Ad ls cp := by
  rcases open_slice Tryz.underlying33 h with ⟨h0, _⟩ | ⟨a, len, cap, m, k, D, Pl, hcs, _, hlc, hcm, hm, _, hi⟩
  · refine ⟨none, fun _ => none, [], fun _ => 0, 0, by simpa using h0, by simp, ⟨fun i hi => by simp at hi, fun i hi => by simp at hi, fun i hi => by simp at hi, fun x hx => by cases hx⟩⟩
  · have hm' : m = cap := by simpa using hm
    subst hm'
    have hc22 : Tryz.prog.cellsOf 22 = 1 := by kernel_rfl
    obtain ⟨T, hlen, hp⟩ := list_of (P := fun i (t : Option Addr × Ws × Nat) => a.block < W.heap.size ∧ W.cell? (a.add i) = some (.slice t.1 t.2.1.length t.2.2) ∧ t.2.2 ≤ 9223372036854775807 ∧ In W t.1 t.2.2 t.2.1) len (fun i hil => by
      obtain ⟨cs', hc, ht⟩ := hi i (by omega)
      rw [hc22] at hc
      obtain ⟨_, hl1, hat⟩ := World.cells?_some hc
      obtain ⟨c', rfl⟩ := List.length_eq_one_iff.1 hl1
      obtain ⟨A, us, cap, rfl, hcap, hI⟩ := open_in ht
      have h0 : W.cell? (a.add i) = some (.slice A us.length cap) := by
        have := hat 0 (by omega)
        simpa [Addr.add] using this
      exact ⟨(A, us, cap), by have := cell_lt h0; rwa [block_add] at this, h0, hcap, hI⟩)
    have hT : ∀ i (h : i < T.length), T.getD i (none, [], 0) = T[i] := fun i h => by simp [List.getD, h]
    refine ⟨some a, fun i => (T.getD i (none, [], 0)).1, T.map (·.2.1), fun i => (T.getD i (none, [], 0)).2.2, m, by simpa [hlen] using hcs, by simp only [List.length_map]; unfold maxLen at hcm; omega, ⟨fun i hi => ?_, fun i hi => ?_, fun i hi => ?_, fun l hl => ?_⟩⟩
    · simp only [List.length_map] at hi
      obtain ⟨h1, h2, _⟩ := hp i hi
      refine ⟨a, rfl, h1, ?_⟩
      rw [hT i hi]
      simpa using h2
    · simp only [List.length_map] at hi
      rw [hT i hi]
      simpa using (hp i hi).2.2.2.at_
    · simp only [List.length_map] at hi
      rw [hT i hi]
      have h4 := (hp i hi).2.2
      exact ⟨by simpa using h4.2.cap, h4.1⟩
    · obtain ⟨t, ht, rfl⟩ := List.mem_map.1 hl
      obtain ⟨i, hi, rfl⟩ := List.mem_iff_getElem.1 ht
      exact (hp i hi).2.2.2.size
end
end Go.Proofs.YtgbjcphhcfmpgaaGreatDoor
