/- Edits by what its callers ask of it; plain facts for the law's loops. -/
import Derived.Test.YtdiamfejibicbaaGreatDoorS2
namespace Go.Proofs.YtdiamfejibicbaaGreatDoor
open Go.RowKit Go.Proofs.Lev

structure OpsAt (w : World) (A : Option Addr) (s : List Nat) : Prop where
  at_ : ∀ x (h : x < s.length), ∃ g, A = some ⟨g, 0, none⟩ ∧ w.cell? ⟨g, x, none⟩ = some (.int .u8 (s[x] : Nat))
theorem ops_of {w : World} {base : Nat} {v : Value} {s : List Nat} (h : w.ownsRow base 29 1 v s.length (s.map fun o => .int .u8 (o : Nat))) :
    ∃ A cap, v = .slice A s.length cap ∧ OpsAt w A s := by
  obtain ⟨h1, ⟨rfl, h2⟩ | ⟨g, cap, cur, rfl, hb, hr⟩⟩ := id h
  · exact ⟨none, 0, by rw [h2], ⟨fun x hx => by omega⟩⟩
  · refine ⟨some ⟨g, 0, none⟩, cap, rfl, ⟨fun x hx => ⟨g, rfl, ?_⟩⟩⟩
    rw [h.cellAt x (by omega)]
    simp [hx]
theorem edits_says (a b : Ws) (w : World) (A C : Option Addr) (cA cC : Nat) (hA : StrAt w w.heap.size A a) (hC : StrAt w w.heap.size C b) (la : a.length ≤ 512) (lb : b.length ≤ 512) :
    Calls Tryz.prog 6 #[.slice A a.length cA, .slice C b.length cC] w fun e w' => ∃ R cap s, e = .returned (.tuple #[.slice R (List.length s) cap, .int .i64 (lev a b : Nat), .int .u8 0]) ∧
      OpsAt w' R s ∧ s.length ≤ 1024 ∧ run a b s 0 0 0 = some (a.length, b.length, lev a b) ∧ w.Since w.heap.size w' :=
  (edits_any a b w A C cA cC hA hC la lb).mono fun e w' ⟨v, s, he, ho, hr, hs⟩ => by
    obtain ⟨R, cap, rfl, hR⟩ := ops_of ho
    exact ⟨R, cap, s, he, hR, by have := run_len hr; simp only at this; omega, hr, hs⟩
theorem run_step {a b : Ws} {s : List Nat} {X I K c : Nat} {z : Nat × Nat × Nat} (hX : X < s.length) (h : run a b (s.drop X) I K c = some z) :
    (s[X] = 0 ∧ I < a.length ∧ K < b.length ∧ a[I]? = b[K]? ∧ run a b (s.drop (X + 1)) (I + 1) (K + 1) c = some z) ∨ (s[X] = 1 ∧ I < a.length ∧ K < b.length ∧ run a b (s.drop (X + 1)) (I + 1) (K + 1) (c + 1) = some z) ∨
    (s[X] = 2 ∧ I < a.length ∧ run a b (s.drop (X + 1)) (I + 1) K (c + 1) = some z) ∨ (s[X] = 3 ∧ K < b.length ∧ run a b (s.drop (X + 1)) I (K + 1) (c + 1) = some z) := by
  rw [List.drop_eq_getElem_cons hX] at h
  generalize s[X] = o at *
  match o, h with
  | 0, h => simp only [run] at h; split at h; exact .inl ⟨rfl, by rename_i q; exact ⟨q.1, q.2.1, q.2.2, h⟩⟩; cases h
  | 1, h => simp only [run] at h; split at h; exact .inr (.inl ⟨rfl, by rename_i q; exact ⟨q.1, q.2, h⟩⟩); cases h
  | 2, h => simp only [run] at h; split at h; exact .inr (.inr (.inl ⟨rfl, by rename_i q; exact ⟨q, h⟩⟩)); cases h
  | 3, h => simp only [run] at h; split at h; exact .inr (.inr (.inr ⟨rfl, by rename_i q; exact ⟨q, h⟩⟩)); cases h
  | n + 4, h => simp [run] at h
/-- Are the first X words of both alike? -/
def EqTo (a b : Ws) (X : Nat) (e : Bool) : Prop := e = true ↔ a.length = b.length ∧ a.take X = b.take X
theorem eqTo_start (a b : Ws) : EqTo a b 0 (decide ((a.length : Int) = b.length)) := by
  simp only [EqTo, decide_eq_true_eq, List.take_zero, and_true]; omega
theorem eqTo_step {a b : Ws} {X : Nat} (h : EqTo a b X true) (hX : X < a.length) (hb : X < b.length) {e : Bool} (he : e = true ↔ a[X] = b[X]) : EqTo a b (X + 1) e := by
  have h' := h.1 rfl
  have e1 : a.take (X + 1) = a.take X ++ [a[X]] := List.take_succ_eq_append_getElem hX
  have e2 : b.take (X + 1) = b.take X ++ [b[X]] := List.take_succ_eq_append_getElem hb
  unfold EqTo
  rw [he, e1, e2, h'.2, List.append_cancel_left_eq, List.singleton_inj]
  exact ⟨fun h => ⟨h'.1, h⟩, fun h => h.2⟩
theorem eqTo_len {a b : Ws} {X : Nat} (h : EqTo a b X true) : a.length = b.length := (h.1 rfl).1
theorem eqTo_all {a b : Ws} (h : EqTo a b a.length true) : a = b := by
  obtain ⟨h1, h2⟩ := h.1 rfl
  rw [List.take_length, h1, List.take_length] at h2
  exact h2
theorem eqTo_no {a b : Ws} {X : Nat} (h : EqTo a b X false) : a ≠ b := by
  rintro rfl
  have := h.2 ⟨rfl, rfl⟩
  cases this
end Go.Proofs.YtdiamfejibicbaaGreatDoor
