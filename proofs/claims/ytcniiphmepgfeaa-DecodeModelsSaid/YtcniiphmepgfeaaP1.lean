import Derived.Test.YtcniiphmepgfeaaP0
import Derived.Test.YtcniiphmepgfeaaB7
namespace Go.Proofs.Ytcniiphmepgfeaa
open Go.RowKit Go.ChangeShapes Go.WideShapes Go.ChangeAt Go.Deep
section
variable {H : Type} {enc : TypeId × Value → H} {W : World} {n : Nat} {c : Value} {x : DataW H × List MemPlace}

theorem open_uni (h : DataW.trod enc Try.prog W 0 (fun _ => true) true n 22 [c] = some x) :
    ∃ (A : Option Addr) (us : List UniD) (cap : Nat), c = .slice A us.length cap ∧ us.length ≤ 9223372036854775807 ∧ UniAt W W.heap.size A us := by
  rcases open_slice_fields Try.underlying22 Try.underlying45 (by kernel_rfl) (by kernel_rfl) h with ⟨h0, _⟩ | ⟨a, len, cap, m, D, Pl, hcs, _, hlc, hcm, hm, _, hi⟩
  · refine ⟨none, [], 0, by simpa using h0, by simp, ⟨fun i hi => by simp at hi⟩⟩
  · have hm' : m = cap := by simpa using hm
    subst hm'
    obtain ⟨us, hlen, hp⟩ := list_of (P := fun i (u : UniD) => W.cell? (a.add (i * 3)) = some (.string u.word) ∧ W.cell? ⟨(a.add (i * 3)).block, (a.add (i * 3)).off + 1, none⟩ = some (.int .i64 u.cost) ∧
        W.cell? ⟨(a.add (i * 3)).block, (a.add (i * 3)).off + 2, none⟩ = some (.int .i64 u.back)) len (fun i hil => by
      obtain ⟨ys, k, _, _, _, hf⟩ := hi i (by omega)
      obtain ⟨v0, y0, q0, _, t0⟩ := hf 0 _ rfl
      obtain ⟨v1, y1, q1, _, t1⟩ := hf 1 _ rfl
      obtain ⟨v2, y2, q2, _, t2⟩ := hf 2 _ rfl
      obtain ⟨s, e0, _, _⟩ := DataW.trod_string Try.underlying9 t0
      obtain ⟨i1, e1, _, _⟩ := DataW.trod_int Try.underlying3 t1
      obtain ⟨i2, e2, _, _⟩ := DataW.trod_int Try.underlying3 t2
      obtain rfl : v0 = .string s := by simpa using e0
      obtain rfl : v1 = .int .i64 i1 := by simpa using e1
      obtain rfl : v2 = .int .i64 i2 := by simpa using e2
      refine ⟨⟨s, i1, i2⟩, q0, ?_, ?_⟩
      · rw [← q1]; exact congrArg _ (add_succ a (i * 3) 0).symm
      · rw [← q2]; exact congrArg _ (add_succ a (i * 3) 1).symm)
    refine ⟨some a, us, m, by simpa [hlen] using hcs, by unfold maxLen at hcm; omega, ⟨fun i hi2 => ?_⟩⟩
    obtain ⟨p0, p1, p2⟩ := hp i hi2
    exact ⟨a, rfl, by have := cell_lt p0; rwa [block_add] at this, p0, p1, p2⟩

theorem open_bi (h : DataW.trod enc Try.prog W 0 (fun _ => true) true n 23 [c] = some x) :
    ∃ (A : Option Addr) (us : List BiD) (cap : Nat), c = .slice A us.length cap ∧ us.length ≤ 9223372036854775807 ∧ BiAt W W.heap.size A us := by
  rcases open_slice_fields Try.underlying23 Try.underlying47 (by kernel_rfl) (by kernel_rfl) h with ⟨h0, _⟩ | ⟨a, len, cap, m, D, Pl, hcs, _, hlc, hcm, hm, _, hi⟩
  · refine ⟨none, [], 0, by simpa using h0, by simp, ⟨fun i hi => by simp at hi⟩⟩
  · have hm' : m = cap := by simpa using hm
    subst hm'
    obtain ⟨us, hlen, hp⟩ := list_of (P := fun i (u : BiD) => W.cell? (a.add (i * 3)) = some (.string u.first) ∧ W.cell? ⟨(a.add (i * 3)).block, (a.add (i * 3)).off + 1, none⟩ = some (.string u.second) ∧
        W.cell? ⟨(a.add (i * 3)).block, (a.add (i * 3)).off + 2, none⟩ = some (.int .i64 u.cost)) len (fun i hil => by
      obtain ⟨ys, k, _, _, _, hf⟩ := hi i (by omega)
      obtain ⟨v0, y0, q0, _, t0⟩ := hf 0 _ rfl
      obtain ⟨v1, y1, q1, _, t1⟩ := hf 1 _ rfl
      obtain ⟨v2, y2, q2, _, t2⟩ := hf 2 _ rfl
      obtain ⟨s, e0, _, _⟩ := DataW.trod_string Try.underlying9 t0
      obtain ⟨s1, e1, _, _⟩ := DataW.trod_string Try.underlying9 t1
      obtain ⟨i2, e2, _, _⟩ := DataW.trod_int Try.underlying3 t2
      obtain rfl : v0 = .string s := by simpa using e0
      obtain rfl : v1 = .string s1 := by simpa using e1
      obtain rfl : v2 = .int .i64 i2 := by simpa using e2
      refine ⟨⟨s, s1, i2⟩, q0, ?_, ?_⟩
      · rw [← q1]; exact congrArg _ (add_succ a (i * 3) 0).symm
      · rw [← q2]; exact congrArg _ (add_succ a (i * 3) 1).symm)
    refine ⟨some a, us, m, by simpa [hlen] using hcs, by unfold maxLen at hcm; omega, ⟨fun i hi2 => ?_⟩⟩
    obtain ⟨p0, p1, p2⟩ := hp i hi2
    exact ⟨a, rfl, by have := cell_lt p0; rwa [block_add] at this, p0, p1, p2⟩

theorem open_str (h : DataW.trod enc Try.prog W 0 (fun _ => true) true n 35 [c] = some x) :
    ∃ (A : Option Addr) (us : List ByteArray) (cap : Nat), c = .slice A us.length cap ∧ us.length ≤ 9223372036854775807 ∧ StrAt W W.heap.size A us := by
  rcases open_slice Try.underlying35 h with ⟨h0, _⟩ | ⟨a, len, cap, m, k, D, Pl, hcs, _, hlc, hcm, hm, _, hi⟩
  · refine ⟨none, [], 0, by simpa using h0, by simp, ⟨fun i hi => by simp at hi⟩⟩
  · have hm' : m = cap := by simpa using hm
    subst hm'
    have hc9 : Try.prog.cellsOf 9 = 1 := by kernel_rfl
    obtain ⟨us, hlen, hp⟩ := list_of (P := fun i (u : ByteArray) => W.cell? (a.add i) = some (.string u)) len (fun i hil => by
      obtain ⟨cs', hc, ht⟩ := hi i (by omega)
      obtain ⟨s, rfl, _, _⟩ := DataW.trod_string Try.underlying9 ht
      rw [hc9] at hc
      obtain ⟨_, _, hat⟩ := World.cells?_some hc
      have := hat 0 (by omega)
      refine ⟨s, ?_⟩
      simpa [Addr.add] using this)
    refine ⟨some a, us, m, by simpa [hlen] using hcs, by unfold maxLen at hcm; omega, ⟨fun i hi2 => ?_⟩⟩
    have p0 := hp i hi2
    exact ⟨a, rfl, by have := cell_lt p0; rwa [block_add] at this, p0⟩
end
end Go.Proofs.Ytcniiphmepgfeaa
