/- A row of quotients in memory, while it is sorted: words for the walks of the sort. -/
import Derived.Test.YtkklagdniaoghaaGreatDoorI2
import Derived.Sort.AssemblyPlain
import Derived.Deep.OwnRows
import Derived.WalkKit
import Derived.Lib.Hide
namespace Go.Proofs.YtkklagdniaoghaaGreatDoor
open Go.RowKit Go.Proofs.Rank Go.Sort

/-- A quotient whose cross products are small. -/
def Qs : Type := { q : Nat × Nat // q.1 ≤ 256000000 ∧ 0 < q.2 ∧ q.2 ≤ 256000000 }
instance : Inhabited Qs := ⟨⟨(0, 1), by decide⟩⟩
def ltQ (x y : Qs) : Bool := decide (cmpQ x.1 y.1 < 0)
theorem ltQ_iff (x y : Qs) : ltQ x y = true ↔ ¬ le y.1 x.1 := by
  unfold ltQ
  rw [decide_eq_true_eq, cmpQ_neg]
theorem swoQ : SWO ltQ where
  irrefl x := by
    cases h : ltQ x x with
    | false => rfl
    | true => exact absurd (le_refl _) ((ltQ_iff _ _).1 h)
  trans x y z h1 h2 := by
    rw [ltQ_iff] at *
    intro h
    rcases le_total y.1 x.1 with h3 | h3
    · exact h1 h3
    · exact h2 (le_trans x.2.2.1 h h3)
  ntrans x y z h1 h2 := by
    cases h : ltQ x z with
    | false => rfl
    | true =>
      rw [ltQ_iff] at h
      have a1 : le y.1 x.1 := by
        rcases Decidable.em (le y.1 x.1) with h3 | h3
        · exact h3
        · rw [(ltQ_iff _ _).2 h3] at h1; cases h1
      have a2 : le z.1 y.1 := by
        rcases Decidable.em (le z.1 y.1) with h3 | h3
        · exact h3
        · rw [(ltQ_iff _ _).2 h3] at h2; cases h2
      exact absurd (le_trans y.2.2.1 a2 a1) h

/-- w is a world of the sort's: block g alone of those that were there may have turned, and holds d. -/
structure RowQ (w0 : World) (g : Nat) (d : Array Qs) (w : World) : Prop where
  os : w.os = w0.os
  tape : w.tape = w0.tape
  output : w.output = w0.output
  size : w0.heap.size ≤ w.heap.size
  block : ∀ k, k < w0.heap.size → k ≠ g → w.heap[k]? = w0.heap[k]?
  lt : g < w0.heap.size
  c0 : ∀ i, i < d.size → w.cell? ⟨g, i * 2, none⟩ = some (.int .i64 (d[i]!.1.1 : Nat))
  c1 : ∀ i, i < d.size → w.cell? ⟨g, i * 2 + 1, none⟩ = some (.int .i64 (d[i]!.1.2 : Nat))
  fz : ∀ o, w.frozen? ⟨g, o, none⟩ = false
variable {w0 w w' : World} {g : Nat} {d : Array Qs}
theorem RowQ.since (h : RowQ w0 g d w) (hs : w.Since w.heap.size w') : RowQ w0 g d w' :=
  have hg : g < w.heap.size := Nat.lt_of_lt_of_le h.lt h.size
  ⟨hs.os.trans h.os, hs.tape.trans h.tape, hs.output.trans h.output, Nat.le_trans h.size hs.size, fun k hk hne => (hs.block k (Nat.lt_of_lt_of_le hk h.size)).trans (h.block k hk hne), h.lt,
    fun i hi => (hs.cell (a := ⟨g, i * 2, none⟩) hg).trans (h.c0 i hi), fun i hi => (hs.cell (a := ⟨g, i * 2 + 1, none⟩) hg).trans (h.c1 i hi), fun o => (hs.frozen (a := ⟨g, o, none⟩) hg).trans (h.fz o)⟩
theorem RowQ.drew (h : RowQ w0 g d w) : RowQ w0 g d w.drew := h.since (World.Since.refl _ w).drew
/-- The four stores of an exchange. -/
def swpW (w : World) (g i j : Nat) (x y : Qs) : World :=
  (((w.setCell ⟨g, i * 2, none⟩ (.int .i64 (x.1.1 : Nat))).setCell ⟨g, i * 2 + 1, none⟩ (.int .i64 (x.1.2 : Nat))).setCell ⟨g, j * 2, none⟩ (.int .i64 (y.1.1 : Nat))).setCell ⟨g, j * 2 + 1, none⟩ (.int .i64 (y.1.2 : Nat))
theorem cell_set (w : World) (g a b : Nat) (v u : Value) (h : w.cell? ⟨g, a, none⟩ = some u) : (w.setCell ⟨g, b, none⟩ v).cell? ⟨g, a, none⟩ = if a = b then some v else some u := by
  by_cases e : a = b
  · subst e
    rw [if_pos rfl, World.cell?_setCell_same _ _ _ h]
  · rw [if_neg e, World.cell?_setCell_other _ _ _ _ (fun h2 => e (by injection h2 with _ h3; exact h3.symm)), h]
theorem RowQ.swap (h : RowQ w0 g d w) {i j : Nat} (hi : i < d.size) (hj : j < d.size) : RowQ w0 g (swp d i j) (swpW w g i j d[j]! d[i]!) := by
  have hsz : (swp d i j).size = d.size := size_swp d i j
  have ad : ∀ a b : Nat, ((⟨g, a, none⟩ : Addr) = ⟨g, b, none⟩) = (a = b) := fun a b => by simp
  refine ⟨h.os, h.tape, h.output, by unfold swpW; simp; exact h.size, fun k hk hne => ?_, h.lt, fun k hk => ?_, fun k hk => ?_, fun o => by unfold swpW; simp [h.fz o]⟩
  · unfold swpW
    rw [Go.Deep.blk_setCell_other _ _ _ _ hne, Go.Deep.blk_setCell_other _ _ _ _ hne, Go.Deep.blk_setCell_other _ _ _ _ hne, Go.Deep.blk_setCell_other _ _ _ _ hne]
    exact h.block k hk hne
  · rw [hsz] at hk
    rw [swp_get d hi hj k]
    unfold swpW
    have e1 := cell_set w g (k * 2) (i * 2) (.int .i64 (d[j]!.1.1 : Nat)) _ (h.c0 k hk)
    have n1 : ∀ a v (w : World), (w.setCell ⟨g, a * 2 + 1, none⟩ v).cell? ⟨g, k * 2, none⟩ = w.cell? ⟨g, k * 2, none⟩ := fun a v w => World.cell?_setCell_other _ _ _ _ (by rw [Ne, ad]; omega)
    rw [n1]
    by_cases a1 : k = j
    · subst a1
      rw [if_pos rfl]
      by_cases a2 : k = i
      · rw [if_pos (by omega)] at e1
        exact World.cell?_setCell_same _ _ _ ((n1 _ _ _).trans e1)
      · rw [if_neg (by omega)] at e1
        exact World.cell?_setCell_same _ _ _ ((n1 _ _ _).trans e1)
    · rw [if_neg a1, World.cell?_setCell_other _ _ _ _ (by rw [Ne, ad]; omega), n1, e1]
      by_cases a2 : k = i
      · rw [if_pos a2, if_pos (by omega)]
      · rw [if_neg a2, if_neg (by omega)]
  · rw [hsz] at hk
    rw [swp_get d hi hj k]
    unfold swpW
    have n1 : ∀ a v (w : World), (w.setCell ⟨g, a * 2, none⟩ v).cell? ⟨g, k * 2 + 1, none⟩ = w.cell? ⟨g, k * 2 + 1, none⟩ := fun a v w => World.cell?_setCell_other _ _ _ _ (by rw [Ne, ad]; omega)
    have e1 := cell_set (w.setCell ⟨g, i * 2, none⟩ (.int .i64 (d[j]!.1.1 : Nat))) g (k * 2 + 1) (i * 2 + 1) (.int .i64 (d[j]!.1.2 : Nat)) _ ((n1 _ _ _).trans (h.c1 k hk))
    by_cases a1 : k = j
    · subst a1
      rw [if_pos rfl]
      by_cases a2 : k = i
      · rw [if_pos (by omega)] at e1
        exact World.cell?_setCell_same _ _ _ ((n1 _ _ _).trans e1)
      · rw [if_neg (by omega)] at e1
        exact World.cell?_setCell_same _ _ _ ((n1 _ _ _).trans e1)
    · rw [if_neg a1, World.cell?_setCell_other _ _ _ _ (by rw [Ne, ad]; omega), n1, e1]
      by_cases a2 : k = i
      · rw [if_pos a2, if_pos (by omega)]
      · rw [if_neg a2, if_neg (by omega)]
end Go.Proofs.YtkklagdniaoghaaGreatDoor
