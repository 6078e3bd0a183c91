/- Scores over several pairs of lists: what they are; even. -/
import Derived.Test.YtgbjcphhcfmpgaaGreatDoorW16
import Derived.Test.YtgbjcphhcfmpgaaGreatDoorW14
import Derived.Test.YtgbjcphhcfmpgaaGreatDoorW5
import Derived.Deep.RegionHeld3
namespace Go.Proofs.YtgbjcphhcfmpgaaGreatDoor
open Go.RowKit Go.Proofs.MapEnt

/-- Sums over pairs, till one of them is refused. -/
def total (f : Ws → Ws → Nat × Nat × Nat) : List (Ws × Ws) → Nat → Nat → (Nat × Nat) × Nat
  | [], N, D => (fr N D, 0)
  | p :: l, N, D => if (f p.1 p.2).2.2 = 0 then total f l (N + (f p.1 p.2).1) (D + (f p.1 p.2).2.1) else ((0, 0), (f p.1 p.2).2.2)
def scored (f : Ws → Ws → Nat × Nat × Nat) (xs ys : List Ws) : (Nat × Nat) × Nat :=
  if 256 < xs.length then ((0, 0), 3) else if xs.length ≠ ys.length then ((0, 0), 1) else total f (xs.zip ys) 0 0
def scoreV (q : (Nat × Nat) × Nat) : Value := .tuple #[frV q.1, .int .u8 (q.2 : Nat)]
theorem zip_drop {xs ys : List Ws} {I : Nat} (hI : I < xs.length) (hl : xs.length = ys.length) : (xs.zip ys).drop I = (xs[I], ys[I]'(hl ▸ hI)) :: (xs.zip ys).drop (I + 1) := by
  rw [List.drop_eq_getElem_cons (by simp; omega)]
  simp
theorem total_ok {f : Ws → Ws → Nat × Nat × Nat} {xs ys : List Ws} {I N D x y : Nat} (hI : I < xs.length) (hl : xs.length = ys.length) (hf : f xs[I] (ys[I]'(hl ▸ hI)) = (x, y, 0)) :
    total f ((xs.zip ys).drop I) N D = total f ((xs.zip ys).drop (I + 1)) (N + x) (D + y) := by
  rw [zip_drop hI hl, total, hf]
  simp
theorem total_err {f : Ws → Ws → Nat × Nat × Nat} {xs ys : List Ws} {I N D x y z : Nat} (hI : I < xs.length) (hl : xs.length = ys.length) (hf : f xs[I] (ys[I]'(hl ▸ hI)) = (x, y, z)) (hz : z ≠ 0) :
    total f ((xs.zip ys).drop I) N D = ((0, 0), z) := by
  rw [zip_drop hI hl, total, hf]
  simp [hz]
theorem total_end {f : Ws → Ws → Nat × Nat × Nat} {xs ys : List Ws} {N D : Nat} (hl : xs.length = ys.length) : total f ((xs.zip ys).drop xs.length) N D = (fr N D, 0) := by
  rw [List.drop_of_length_le (by simp; omega)]
  rfl

/-- What Matches answers, in natural numbers. -/
def nres (a b : Ws) (n : Int) : Nat × Nat × Nat × Nat :=
  if 512 < a.length ∨ 512 < b.length then (0, 0, 0, 3) else if n < 1 ∨ 4 < n then (0, 0, 0, 1) else (Bag.mt a b n.toNat, a.length + 1 - n.toNat, b.length + 1 - n.toNat, 0)
theorem mres_nres (a b : Ws) (n : Int) : mres a b n = (((nres a b n).1 : Int), ((nres a b n).2.1 : Int), ((nres a b n).2.2.1 : Int), ((nres a b n).2.2.2 : Int)) := by
  unfold mres nres
  split
  · rfl
  · split
    · rfl
    · have h1 : max ((a.length : Int) - n + 1) 0 = ((a.length + 1 - n.toNat : Nat) : Int) := by omega
      have h2 : max ((b.length : Int) - n + 1) 0 = ((b.length + 1 - n.toNat : Nat) : Int) := by omega
      rw [h1, h2]
      rfl
theorem nres_small (a b : Ws) (n : Int) : (nres a b n).1 ≤ 1024 ∧ (nres a b n).2.1 ≤ 1024 ∧ (nres a b n).2.2.2 ≤ 3 := by
  unfold nres
  split
  · simp
  · split
    · simp
    · rename_i h1 h2
      have := Bag.mt_left a b n.toNat
      simp only
      omega
theorem eres_small (a b : Ws) : (eres a b).2.1 ≤ 1024 ∧ (eres a b).2.2 ≤ 3 ∧ ((eres a b).2.2 = 0 → b.length ≤ 512) := by
  unfold eres
  split
  · simp
  · rename_i h
    unfold eLong at h
    have := Lev.lev_max a b
    simp only
    omega
def precF (n : Int) (a b : Ws) : Nat × Nat × Nat := ((nres a b n).1, (nres a b n).2.1, (nres a b n).2.2.2)
def rateF (a b : Ws) : Nat × Nat × Nat := ((eres a b).2.1, b.length, (eres a b).2.2)
theorem Lists.in_ {w wx : World} {L : Option Addr} {Ad : Nat → Option Addr} {ls : List Ws} {cp : Nat → Nat} (h : Lists w w.heap.size L Ad ls cp) (hs : w.Since w.heap.size wx) {i : Nat} (hi : i < ls.length) : In wx (Ad i) (cp i) ls[i] :=
  In.up ⟨h.at_ i hi, (h.cap i hi).1, h.size _ (List.getElem_mem hi)⟩ hs
theorem Lists.slot {w wx : World} {L : Option Addr} {Ad : Nat → Option Addr} {ls : List Ws} {cp : Nat → Nat} (h : Lists w w.heap.size L Ad ls cp) (hs : w.Since w.heap.size wx) {i : Nat} (hi : i < ls.length) :
    ∃ ad, L = some ad ∧ ad.block < w.heap.size ∧ wx.cell? (ad.add i) = some (.slice (Ad i) ls[i].length (cp i)) := by
  obtain ⟨ad, h0, h1, h2⟩ := h.cell i hi
  exact ⟨ad, h0, h1, by rw [hs.cell (by rw [block_add]; exact h1)]; exact h2⟩
def evenR (x y : Nat) : Nat := if 256 < x then 3 else if x ≠ y then 1 else 0
set_option maxHeartbeats 1600000 in
set_option maxRecDepth 1000000 in
theorem even_says (w : World) (L M : Option Addr) (x y c d : Nat) (hx : x ≤ 9223372036854775807) (hy : y ≤ 9223372036854775807) :
    Calls Tryz.prog 25 #[.slice L x c, .slice M y d] w fun e w' => e = .returned (.int .u8 (evenR x y : Nat)) ∧ w = w' := by
  by_cases h1 : 256 < x
  · rw [show evenR x y = 3 from if_pos h1]
    go_enter Tryz.func25, Tryz.ntmps25
    go_wp2
    go_ret
    exact ⟨rfl, rfl⟩
  · by_cases h2 : x = y
    · subst h2
      rw [show evenR x x = 0 by unfold evenR; rw [if_neg h1]; simp]
      go_enter Tryz.func25, Tryz.ntmps25
      go_wp2
      go_ret
      exact ⟨rfl, rfl⟩
    · rw [show evenR x y = 1 by unfold evenR; rw [if_neg h1, if_pos h2]]
      have h3 : ((x : Int) == (y : Int)) = false := by simp; omega
      have h4 : ((x : Int) != (y : Int)) = true := by simp; omega
      clear h2
      go_enter Tryz.func25, Tryz.ntmps25
      go_wp2
      go_ret
      exact ⟨rfl, rfl⟩
end Go.Proofs.YtgbjcphhcfmpgaaGreatDoor
