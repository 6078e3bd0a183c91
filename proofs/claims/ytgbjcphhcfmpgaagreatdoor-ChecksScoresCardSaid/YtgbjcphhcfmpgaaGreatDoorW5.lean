/- The walk of many: it answers, and leaves all as it was. -/
import Derived.Test.YtgbjcphhcfmpgaaGreatDoorW1
namespace Go.Proofs.YtgbjcphhcfmpgaaGreatDoor
open Go.RowKit Go.Proofs.MapEnt

/-- A slice of lists of words. -/
structure Lists (w : World) (B : Nat) (L : Option Addr) (Ad : Nat → Option Addr) (ls : List Ws) (cp : Nat → Nat) : Prop where
  cell : ∀ i (h : i < ls.length), ∃ ad, L = some ad ∧ ad.block < B ∧ w.cell? (ad.add i) = some (.slice (Ad i) ls[i].length (cp i))
  at_ : ∀ i (h : i < ls.length), StrAt w B (Ad i) ls[i]
  cap : ∀ i (h : i < ls.length), ls[i].length ≤ cp i ∧ cp i ≤ 9223372036854775807
  size : ∀ l ∈ ls, ∀ x ∈ l, x.size ≤ maxLen
theorem Lists.below {w w' : World} {B B' : Nat} {L : Option Addr} {Ad : Nat → Option Addr} {ls : List Ws} {cp : Nat → Nat} (h : Lists w B L Ad ls cp) (hb : w.Since B' w') (hB : B ≤ B') : Lists w' B L Ad ls cp :=
  ⟨fun i hi => by
    obtain ⟨ad, h0, h1, h2⟩ := h.cell i hi
    exact ⟨ad, h0, h1, by rw [hb.cell (by rw [block_add]; omega)]; exact h2⟩, fun i hi => (h.at_ i hi).below hb hB, h.cap, h.size⟩
def isB (e : Ending) : Prop := ∃ v, e = .returned (.bool v)
theorem isB_mk (v : Bool) : isB (.returned (.bool v)) := ⟨v, rfl⟩
set_option maxHeartbeats 1600000 in
set_option maxRecDepth 1000000 in
theorem many_any (w : World) (B : Nat) (L : Option Addr) (Ad : Nat → Option Addr) (ls : List Ws) (cp : Nat → Nat) (c : Nat) (hT : Lists w B L Ad ls cp) (hl : ls.length ≤ 9223372036854775807) :
    Calls Tryz.prog 6 #[.slice L ls.length c] w fun e w' => isB e ∧ w' = w := by
  go_enter Tryz.func6, Tryz.ntmps6
  go_wp2
  go_loopg [3, 4] ls.length (fun g n i wr => ∃ (I : Nat) (N : Int), I ≤ ls.length ∧ g = ls.length - I ∧ i = .int .i64 I ∧ n = .int .i64 N ∧ wr = w)
  case atStart => exact ⟨0, 0, by omega, by omega, rfl, rfl, rfl⟩
  case round =>
    obtain ⟨I, N, hI, rfl, rfl, rfl, rfl⟩ := hrel
    by_cases hI3 : I < ls.length
    · obtain ⟨la, rfl, _, c0⟩ := hT.cell I hI3
      have hl := hT.cap I hI3
      have hS := hT.at_ I hI3
      generalize ls[I] = l at *
      generalize Ad I = A at *
      generalize cp I = cA at *
      have hll : l.length ≤ 9223372036854775807 := by omega
      go_wp2
      all_goals first
        | (go_ret; exact ⟨isB_mk _, rfl⟩)
        | (go_loopg [3, 5] l.length (fun g n k w2 => ∃ (K : Nat) (M : Int), K ≤ l.length ∧ g = l.length - K ∧ k = .int .i64 K ∧ n = .int .i64 M ∧ w2 = wr)
           case atStart => exact ⟨0, _, by omega, by omega, rfl, rfl, rfl⟩
           case round =>
             obtain ⟨K, M, hK, rfl, rfl, rfl, rfl⟩ := hrel
             by_cases hK3 : K < l.length
             · obtain ⟨ad, rfl, had, ca⟩ := hS.at_ K hK3
               generalize l[K] = x at *
               go_wp2
               go_roundg (l.length - (K + 1))
               case measure => omega
               case rel => exact ⟨K + 1, _, by omega, rfl, by go_num, rfl, rfl⟩
             · go_wp2
               go_roundg (ls.length - (I + 1))
               case measure => omega
               case rel => exact ⟨I + 1, _, by omega, rfl, by go_num, rfl, rfl⟩)
    · go_wp2
      go_ret
      exact ⟨isB_mk _, rfl⟩
def sel {α : Type} (x y : α) (i : Nat) : α := match i with | 0 => x | _ => y
theorem two_at {w : World} {a b : Ws} {A C : Option Addr} {cA cC : Nat} (hA : In w A cA a) (hC : In w C cC b) (ha : cA ≤ 9223372036854775807) (hc : cC ≤ 9223372036854775807) :
    Lists (w.alloc (.cells #[.slice A a.length cA, .slice C b.length cC] 22)) (w.heap.size + 1) (some ⟨w.heap.size, 0, none⟩) (sel A C) [a, b] (sel cA cC) where
  cell := fun i hi => by
    match i, hi with
    | 0, _ => exact ⟨_, rfl, by simp, by simp [sel, Addr.add]⟩
    | 1, _ => exact ⟨_, rfl, by simp, by simp [sel, Addr.add]⟩
  at_ := fun i hi => by
    have hs := (World.Since.refl w.heap.size w).alloc (Nat.le_refl _) (.cells #[.slice A a.length cA, .slice C b.length cC] 22)
    match i, hi with
    | 0, _ =>
      have := strAt_in hA.at_ hs
      simpa [sel] using this
    | 1, _ =>
      have := strAt_in hC.at_ hs
      simpa [sel] using this
  cap := fun i hi => by
    match i, hi with
    | 0, _ => exact ⟨hA.cap, ha⟩
    | 1, _ => exact ⟨hC.cap, hc⟩
  size := fun l hl => by
    simp only [List.mem_cons, List.not_mem_nil, or_false] at hl
    rcases hl with rfl | rfl
    · exact hA.size
    · exact hC.size
end Go.Proofs.YtgbjcphhcfmpgaaGreatDoor
