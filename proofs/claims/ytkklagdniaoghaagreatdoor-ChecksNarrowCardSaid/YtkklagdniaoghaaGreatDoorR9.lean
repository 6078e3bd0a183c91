/- Parts and draws, opened. -/
import Derived.Test.YtkklagdniaoghaaGreatDoorR1
import Derived.Test.YtkklagdniaoghaaGreatDoorPA
import Derived.Deep.Fields
namespace Go.Proofs.YtkklagdniaoghaaGreatDoor
open Go.RowKit Go.ChangeShapes Go.WideShapes Go.ChangeAt Go.Deep

section
variable {H : Type} {enc : TypeId × Value → H} {W : World} {n : Nat} {c : Value} {x : DataW H × List MemPlace}
theorem open_nums (h : DataW.trod enc Tryz.prog W 0 (fun _ => true) true n 32 [c] = some x) :
    ∃ (A : Option Addr) (l : List Int) (cap : Nat), c = .slice A l.length cap ∧ cap ≤ 9223372036854775807 ∧ IIn W A cap l := by
  rcases open_slice Tryz.underlying32 h with ⟨h0, _⟩ | ⟨a, len, cap, m, k, D, Pl, hcs, _, hlc, hcm, hm, _, hi⟩
  · refine ⟨none, [], 0, by simpa using h0, by simp, ⟨fun i hi => by simp at hi, Nat.le_refl _, fun x hx => by cases hx⟩⟩
  · have hm' : m = cap := by simpa using hm
    subst hm'
    have hc9 : Tryz.prog.cellsOf 3 = 1 := by kernel_rfl
    obtain ⟨us, hlen, hp⟩ := list_of (P := fun i (u : Int) => W.cell? (a.add i) = some (.int .i64 u) ∧ -9223372036854775808 ≤ u ∧ u ≤ 9223372036854775807) len (fun i hil => by
      obtain ⟨cs', hc, ht⟩ := hi i (by omega)
      obtain ⟨s, rfl, _, hs⟩ := DataW.trod_int Tryz.underlying3 ht
      rw [hc9] at hc
      obtain ⟨_, _, hat⟩ := World.cells?_some hc
      have := hat 0 (by omega)
      refine ⟨s, ?_, i64_bounds hs⟩
      simpa [Addr.add] using this)
    refine ⟨some a, us, m, by simpa [hlen] using hcs, by unfold maxLen at hcm; omega, ⟨fun i hi2 => ?_, by omega, fun x hx => ?_⟩⟩
    · have p0 := (hp i hi2).1
      exact ⟨a, rfl, by have := cell_lt p0; rwa [block_add] at this, p0⟩
    · obtain ⟨i, hi2, rfl⟩ := List.mem_iff_getElem.1 hx
      exact (hp i hi2).2
theorem open_draws (h : DataW.trod enc Tryz.prog W 0 (fun _ => true) true n 29 [c] = some x) :
    ∃ (A : Option Addr) (ds : List (List Int)) (cap : Nat), c = .slice A ds.length cap ∧ cap ≤ 9223372036854775807 ∧ DIn W A cap ds ∧ ∀ d ∈ ds, d.length ≤ 9223372036854775807 := by
  rcases open_slice Tryz.underlying29 h with ⟨h0, _⟩ | ⟨a, len, cap, m, k, D, Pl, hcs, _, hlc, hcm, hm, _, hi⟩
  · refine ⟨none, [], 0, by simpa using h0, by simp, ⟨fun i hi => by simp at hi, Nat.le_refl _⟩, fun x hx => by cases hx⟩
  · have hm' : m = cap := by simpa using hm
    subst hm'
    have hc22 : Tryz.prog.cellsOf 32 = 1 := by kernel_rfl
    obtain ⟨ds, hlen, hp⟩ := list_of (P := fun i (t : List Int) => ∃ R k, W.cell? (a.add i) = some (.slice R t.length k) ∧ k ≤ 9223372036854775807 ∧ IIn W R k t) len (fun i hil => by
      obtain ⟨cs', hc, ht⟩ := hi i (by omega)
      rw [hc22] at hc
      obtain ⟨_, hl1, hat⟩ := World.cells?_some hc
      obtain ⟨c', rfl⟩ := List.length_eq_one_iff.1 hl1
      obtain ⟨A, us, cap, rfl, hcap, hI⟩ := open_nums ht
      have h0 : W.cell? (a.add i) = some (.slice A us.length cap) := by
        have := hat 0 (by omega)
        simpa [Addr.add] using this
      exact ⟨us, A, cap, h0, hcap, hI⟩)
    refine ⟨some a, ds, m, by simpa [hlen] using hcs, by unfold maxLen at hcm; omega, ⟨fun i hi2 => ?_, by omega⟩, fun d hd => ?_⟩
    · obtain ⟨R, k, h0, _, hI⟩ := hp i hi2
      exact ⟨a, R, k, rfl, by have := cell_lt h0; rwa [block_add] at this, h0, hI⟩
    · obtain ⟨i, hi2, rfl⟩ := List.mem_iff_getElem.1 hd
      obtain ⟨R, k, _, h1, hI⟩ := hp i hi2
      exact Nat.le_trans hI.cap h1
theorem open_parts (h : DataW.trod enc Tryz.prog W 0 (fun _ => true) true n 34 [c] = some x) :
    ∃ (A : Option Addr) (ps : List (Int × Int)) (cap : Nat), c = .slice A ps.length cap ∧ cap ≤ 9223372036854775807 ∧ PIn W A cap ps := by
  rcases open_slice Tryz.underlying34 h with ⟨h0, _⟩ | ⟨a, len, cap, m, k, D, Pl, hcs, _, hlc, hcm, hm, _, hi⟩
  · refine ⟨none, [], 0, by simpa using h0, by simp, ⟨fun i hi => by simp at hi, Nat.le_refl _, fun x hx => by cases hx⟩⟩
  · have hm' : m = cap := by simpa using hm
    subst hm'
    have hc25 : Tryz.prog.cellsOf 25 = 2 := by kernel_rfl
    obtain ⟨ps, hlen, hp⟩ := list_of (P := fun i (t : Int × Int) => W.cell? (a.add (i * 2)) = some (.int .i64 t.1) ∧ W.cell? ⟨(a.add (i * 2)).block, (a.add (i * 2)).off + 1, none⟩ = some (.int .i64 t.2) ∧ (-9223372036854775808 ≤ t.1 ∧ t.1 ≤ 9223372036854775807) ∧ (-9223372036854775808 ≤ t.2 ∧ t.2 ≤ 9223372036854775807)) len (fun i hil => by
      obtain ⟨cs', hc, ht⟩ := hi i (by omega)
      rw [hc25] at hc
      obtain ⟨_, hl2, hat⟩ := World.cells?_some hc
      obtain ⟨c0, c1, rfl⟩ : ∃ c0 c1, cs' = [c0, c1] := by
        rcases cs' with _ | ⟨c0, _ | ⟨c1, _ | ⟨c2, l⟩⟩⟩
        · simp at hl2
        · simp at hl2
        · exact ⟨c0, c1, rfl⟩
        · simp at hl2
      obtain ⟨ys, n', hn', hy, hlen, hyl, hf⟩ := DataW.trod_struct Tryz.underlying25 ht
      have h21 : Tryz.prog.cellsOf 2 = 1 := by kernel_rfl
      have f0 : DataW.trod enc Tryz.prog W 0 (fun _ => true) true n' 2 [c0] = ys[0]? := by
        have h : DataW.trod enc Tryz.prog W 0 (fun _ => true) true n' 2 (List.take (Tryz.prog.cellsOf 2) (List.drop 0 [c0, c1])) = ys[0]? := hf 0 _ rfl
        rw [h21] at h
        exact h
      have f1 : DataW.trod enc Tryz.prog W 0 (fun _ => true) true n' 2 [c1] = ys[1]? := by
        have h : DataW.trod enc Tryz.prog W 0 (fun _ => true) true n' 2 (List.take (Tryz.prog.cellsOf 2) (List.drop 1 [c0, c1])) = ys[1]? := hf 1 _ rfl
        rw [h21] at h
        exact h
      have hys : ys.length = 2 := hyl
      rw [List.getElem?_eq_getElem (by omega)] at f0 f1
      obtain ⟨s0, e0, _, b0⟩ := DataW.trod_int Tryz.underlying2 f0
      obtain ⟨s1, e1, _, b1⟩ := DataW.trod_int Tryz.underlying2 f1
      injection e0 with e0
      injection e1 with e1
      subst e0 e1
      have g0 := hat 0 (by omega)
      have g1 := hat 1 (by omega)
      refine ⟨(s0, s1), ?_, ?_, i64_bounds b0, i64_bounds b1⟩
      · simpa [Addr.add] using g0
      · simpa [Addr.add] using g1)
    refine ⟨some a, ps, m, by simpa [hlen] using hcs, by unfold maxLen at hcm; omega, ⟨fun i hi2 => ?_, by omega, fun x hx => ?_⟩⟩
    · obtain ⟨p0, p1, _⟩ := hp i hi2
      exact ⟨a, rfl, by have := cell_lt p0; rwa [block_add] at this, p0, p1⟩
    · obtain ⟨i, hi2, rfl⟩ := List.mem_iff_getElem.1 hx
      exact (hp i hi2).2.2
end
end Go.Proofs.YtkklagdniaoghaaGreatDoor
