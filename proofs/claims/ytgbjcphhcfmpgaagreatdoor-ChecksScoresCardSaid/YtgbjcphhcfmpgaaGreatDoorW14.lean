/- Both Edits as their callers use them. -/
import Derived.Test.YtgbjcphhcfmpgaaGreatDoorW10
import Derived.Test.YtgbjcphhcfmpgaaGreatDoorL3
import Derived.Test.YtgbjcphhcfmpgaaGreatDoorW12
import Derived.Test.YtgbjcphhcfmpgaaGreatDoorW13
namespace Go.Proofs.YtgbjcphhcfmpgaaGreatDoor
open Go.RowKit Go.Proofs.MapEnt
open Go.Proofs.Lev hiding Ws

structure OpsAt (w : World) (A : Option Addr) (s : List Nat) : Prop where
  at_ : ∀ x (h : x < s.length), ∃ g, A = some ⟨g, 0, none⟩ ∧ w.cell? ⟨g, x, none⟩ = some (.int .u8 (s[x] : Nat))
  low : ∀ g, A = some g → g.block < w.heap.size
theorem ops_of {w : World} {base : Nat} {v : Value} {s : List Nat} (h : w.ownsRow base 31 1 v s.length (s.map fun o => .int .u8 (o : Nat))) :
    ∃ A cap, v = .slice A s.length cap ∧ OpsAt w A s := by
  obtain ⟨h1, ⟨rfl, h2⟩ | ⟨g, cap, cur, rfl, hb, hr⟩⟩ := id h
  · exact ⟨none, 0, by rw [h2], ⟨fun x hx => by omega, fun g e => by cases e⟩⟩
  · refine ⟨some ⟨g, 0, none⟩, cap, rfl, ⟨fun x hx => ⟨g, rfl, ?_⟩, fun g' e => ?_⟩⟩
    · rw [h.cellAt x (by omega)]
      simp [hx]
    · cases e
      exact (h.lt g rfl).2
theorem OpsAt.up {w w' : World} {A : Option Addr} {s : List Nat} (h : OpsAt w A s) (hs : w.Since w.heap.size w') : OpsAt w' A s :=
  ⟨fun x hx => by
    obtain ⟨g, e, hc⟩ := h.at_ x hx
    have hl : g < w.heap.size := h.low _ e
    exact ⟨g, e, by rw [hs.cell hl]; exact hc⟩, fun g e => Nat.lt_of_lt_of_le (h.low g e) hs.size⟩
def eLong (a b : Ws) : Prop := 512 < a.length ∨ 512 < b.length
instance (a b : Ws) : Decidable (eLong a b) := inferInstanceAs (Decidable (_ ∨ _))
/-- What Edits answers: the steps, their number, an error. -/
def eres (a b : Ws) : List Nat × Nat × Nat := if eLong a b then ([], 0, 3) else (scr a b 0 0, lev a b, 0)
theorem eres_len (a b : Ws) : (eres a b).1.length ≤ 1024 := by
  unfold eres
  split
  · simp
  · rename_i h
    unfold eLong at h
    have := scr_len a b
    simp only
    omega
def EditsSay (a b : Ws) (w : World) (e : Ending) (w' : World) : Prop := ∃ R cap, e = .returned (.tuple #[.slice R (eres a b).1.length cap, .int .i64 ((eres a b).2.1 : Nat), .int .u8 ((eres a b).2.2 : Nat)]) ∧ OpsAt w' R (eres a b).1 ∧ w.Since w.heap.size w'
set_option maxHeartbeats 1600000 in
set_option maxRecDepth 1000000 in
theorem edits_long (a b : Ws) (w : World) (A C : Option Addr) (cA cC : Nat) (la : a.length ≤ 9223372036854775807) (lb : b.length ≤ 9223372036854775807) (h : eLong a b) :
    Calls Tryz.prog 10 #[.slice A a.length cA, .slice C b.length cC] w fun e w' => e = .returned (.tuple #[.slice none 0 0, .int .i64 0, .int .u8 3]) ∧ w = w' := by
  by_cases h1 : 512 < a.length
  · clear h
    go_enter Tryz.func10, Tryz.ntmps10
    go_wp2_with fail
    go_ret3
    exact ⟨rfl, rfl⟩
  · have h2 : 512 < b.length := h.resolve_left h1
    clear h
    go_enter Tryz.func10, Tryz.ntmps10
    go_wp2_with fail
    go_ret3
    exact ⟨rfl, rfl⟩
set_option maxHeartbeats 1600000 in
set_option maxRecDepth 1000000 in
theorem refEdits_long (a b : Ws) (w : World) (A C : Option Addr) (cA cC : Nat) (la : a.length ≤ 9223372036854775807) (lb : b.length ≤ 9223372036854775807) (h : eLong a b) :
    Calls Tryz.prog 11 #[.slice A a.length cA, .slice C b.length cC] w fun e w' => e = .returned (.tuple #[.slice none 0 0, .int .i64 0, .int .u8 3]) ∧ w = w' := by
  by_cases h1 : 512 < a.length
  · clear h
    go_enter Tryz.func11, Tryz.ntmps11
    go_wp2_with fail
    go_ret3
    exact ⟨rfl, rfl⟩
  · have h2 : 512 < b.length := h.resolve_left h1
    clear h
    go_enter Tryz.func11, Tryz.ntmps11
    go_wp2_with fail
    go_ret3
    exact ⟨rfl, rfl⟩
theorem say_long {a b : Ws} {w w' : World} {e : Ending} (h : eLong a b) (he : e = .returned (.tuple #[.slice none 0 0, .int .i64 0, .int .u8 3])) (hw : w = w') : EditsSay a b w e w' := by
  subst hw
  refine ⟨none, 0, ?_, ⟨fun x hx => ?_, fun g e => by cases e⟩, World.Since.refl _ _⟩
  · rw [he, show eres a b = ([], 0, 3) from if_pos h]; rfl
  · rw [show eres a b = ([], 0, 3) from if_pos h] at hx; cases hx
theorem say_short {a b : Ws} {w w' : World} {e : Ending} {v : Value} {s : List Nat} (h : ¬ eLong a b) (he : e = .returned (.tuple #[v, .int .i64 (lev a b : Nat), .int .u8 0]))
    (ho : w'.ownsRow w.heap.size 31 1 v s.length (s.map fun o => .int .u8 (o : Nat))) (hs : s = scr a b 0 0) (hw : w.Since w.heap.size w') : EditsSay a b w e w' := by
  obtain ⟨R, cap, rfl, hR⟩ := ops_of ho
  have e1 : eres a b = (scr a b 0 0, lev a b, 0) := if_neg h
  subst hs
  exact ⟨R, cap, by rw [he, e1]; rfl, by rw [e1]; exact hR, hw⟩
theorem edits_says (a b : Ws) (w : World) (A C : Option Addr) (cA cC : Nat) (hA : In w A cA a) (hC : In w C cC b) (la : a.length ≤ 9223372036854775807) (lb : b.length ≤ 9223372036854775807) :
    Calls Tryz.prog 10 #[.slice A a.length cA, .slice C b.length cC] w (EditsSay a b w) := by
  by_cases h : eLong a b
  · exact (edits_long a b w A C cA cC la lb h).mono fun e w' ⟨h1, h2⟩ => say_long h h1 h2
  · have h' := h
    unfold eLong at h'
    exact (edits_any a b w A C cA cC hA.at_ hC.at_ (by omega) (by omega)).mono fun e w' ⟨v, s, h1, h2, h3, _, h4⟩ => say_short h h1 h2 h3 h4
theorem refEdits_says (a b : Ws) (w : World) (A C : Option Addr) (cA cC : Nat) (hA : In w A cA a) (hC : In w C cC b) (la : a.length ≤ 9223372036854775807) (lb : b.length ≤ 9223372036854775807) :
    Calls Tryz.prog 11 #[.slice A a.length cA, .slice C b.length cC] w (EditsSay a b w) := by
  by_cases h : eLong a b
  · exact (refEdits_long a b w A C cA cC la lb h).mono fun e w' ⟨h1, h2⟩ => say_long h h1 h2
  · have h' := h
    unfold eLong at h'
    exact (refEdits_any a b w A C cA cC hA.at_ hC.at_ (by omega) (by omega)).mono fun e w' ⟨v, s, h1, h2, h3, _, h4⟩ => say_short h h1 h2 h3 h4
end Go.Proofs.YtgbjcphhcfmpgaaGreatDoor
