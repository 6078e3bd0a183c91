/- The walks of the sort: sorting by a heap. The walks of the sort: choosing a pivot. The walks of the sort: is it sorted already? -/
import Derived.Test.YtkklagdniaoghaaGreatDoorK3
import Derived.Deep.Cut
import Derived.Test.YtkklagdniaoghaaGreatDoorK2
namespace Go.Proofs.YtkklagdniaoghaaGreatDoor
open Go.RowKit Go.Proofs.Rank Go.Sort

theorem siftDown_size (hi first R : Nat) (d : Array Qs) : (siftDown ltQ hi first R d).size = d.size := by
  by_cases h : 2 * R + 1 < hi
  · by_cases hc : 2 * R + 2 < hi ∧ cmpQ d[first + (2 * R + 1)]!.1 d[first + (2 * R + 1) + 1]!.1 < 0
    · rw [sift_step h (C := 2 * R + 2) (.inl ⟨rfl, hc.1, hc.2⟩)]
      split
      · rw [siftDown_size, size_swp]
      · rfl
    · rw [sift_step h (C := 2 * R + 1) (.inr ⟨rfl, hc⟩)]
      split
      · rw [siftDown_size, size_swp]
      · rfl
  · rw [sift_end h]
termination_by hi - R
theorem heapBuild_size (hi first : Nat) : ∀ (K : Nat) (d : Array Qs), (heapBuild ltQ hi first K d).size = d.size
  | 0, d => rfl
  | K + 1, d => by rw [heapBuild, heapBuild_size, siftDown_size]
theorem RowQ.mid0 {w0 w : World} {g : Nat} {d : Array Qs} (h : RowQ w0 g d w) {i j : Nat} (hj : j < d.size) (x y : Value) : ∃ u, ((w.setCell ⟨g, i * 2, none⟩ x).setCell ⟨g, i * 2 + 1, none⟩ y).cell? ⟨g, j * 2, none⟩ = some u := by
  rw [cell_apart _ _ _ _ _ (by omega), cell_set w g (j * 2) (i * 2) x _ (h.c0 j hj)]
  split <;> exact ⟨_, rfl⟩
theorem RowQ.mid1 {w0 w : World} {g : Nat} {d : Array Qs} (h : RowQ w0 g d w) {i j : Nat} (hj : j < d.size) (x y z : Value) : ∃ u, (((w.setCell ⟨g, i * 2, none⟩ x).setCell ⟨g, i * 2 + 1, none⟩ y).setCell ⟨g, j * 2, none⟩ z).cell? ⟨g, j * 2 + 1, none⟩ = some u := by
  have e : (w.setCell ⟨g, i * 2, none⟩ x).cell? ⟨g, j * 2 + 1, none⟩ = some (.int .i64 (d[j]!.1.2 : Nat)) := by
    rw [cell_apart _ _ _ _ _ (by omega)]
    exact h.c1 j hj
  rw [cell_apart _ _ _ _ _ (by omega), cell_set _ g (j * 2 + 1) (i * 2 + 1) y _ e]
  split <;> exact ⟨_, rfl⟩
set_option maxHeartbeats 6400000 in
set_option maxRecDepth 1000000 in
theorem heapSort_says (d0 : Array Qs) (a b g cap : Nat) (w0 w : World) (h : RowQ w0 g d0 w) (hab : a < b) (hb : b ≤ d0.size) (hsz : d0.size ≤ 1000) :
    Calls Tryz.prog 84 #[.slice (some ⟨g, 0, none⟩) d0.size cap, .int .i64 a, .int .i64 b, cmpV] w (SortSay w0 g (heapSort ltQ d0 a b)) := by
  have H0 := Lib.hid h
  obtain ⟨H, hH⟩ : ∃ H : Nat, (b : Int) - (a : Int) = (H : Int) := ⟨b - a, by omega⟩
  have hHb : b - a = H := by omega
  have HB : Hid (heapSort ltQ d0 a b = heapPop ltQ a H (heapBuild ltQ H a ((H - 1) / 2 + 1) d0)) := Lib.hid (by rw [← hHb]; rfl)
  rw [HB.out]
  obtain ⟨D, hD⟩ : ∃ D, D = heapPop ltQ a H (heapBuild ltQ H a ((H - 1) / 2 + 1) d0) := ⟨_, rfl⟩
  rw [← hD]
  obtain ⟨E, hE⟩ : ∃ E, E = heapBuild ltQ H a ((H - 1) / 2 + 1) d0 := ⟨_, rfl⟩
  rw [← hE] at hD
  have HD := Lib.hid hD
  have HE := Lib.hid hE
  have HEz : Hid (E.size = d0.size) := Lib.hid (by rw [hE, heapBuild_size])
  have h1 : 1 ≤ H := by omega
  have h2 : a + H ≤ d0.size := by omega
  generalize hm : d0.size = m at *
  have HM := Lib.hid hm
  clear h hm hD hE hHb HB
  unfold cmpV
  go_enter Tryz.func84, Tryz.ntmps84
  go_upto_region 3 with fail
  clear hH
  go_wp2_with fail
  go_loopg [11] ((H - 1) / 2 + 1) (fun gk i wr => ∃ (K : Nat) (d : Array Qs), K ≤ (H - 1) / 2 + 1 ∧ gk = K ∧ i = .int .i64 ((K : Int) - 1) ∧ Hid (d.size = m) ∧ Hid (E = heapBuild ltQ H a K d) ∧ Hid (RowQ w0 g d wr))
  case atStart => exact ⟨(H - 1) / 2 + 1, d0, by omega, rfl, by congr 1; omega, HM, HE, H0⟩
  case round =>
    obtain ⟨K, d, hK, rfl, rfl, HZ, hT, hR⟩ := hrel
    by_cases hk : gk = 0
    · subst hk
      have HEd : Hid (E = d) := Lib.hid (by rw [hT.out]; rfl)
      have HD2 : Hid (D = heapPop ltQ a H d) := Lib.hid (by rw [HD.out, HEd.out])
      clear hT HEd HEz HE
      simp only [Int.natCast_zero, Int.zero_sub]
      go_wp2_with fail
      go_loopg [12] H (fun gk i wq => ∃ (K : Nat) (d : Array Qs), K ≤ H ∧ gk = K ∧ i = .int .i64 ((K : Int) - 1) ∧ Hid (d.size = m) ∧ Hid (D = heapPop ltQ a K d) ∧ Hid (RowQ w0 g d wq))
      case atStart => exact ⟨H, d, by omega, rfl, rfl, HZ, HD2, hR⟩
      case round =>
        clear HZ HD2 hR
        obtain ⟨K, d, hK, rfl, rfl, HZ, hT, hR⟩ := hrel
        by_cases hk : gk = 0
        · subst hk
          have HE : Hid (D = d) := Lib.hid (by rw [hT.out]; rfl)
          clear hT
          simp only [Int.natCast_zero, Int.zero_sub]
          go_wp2_with fail
          go_end0
          exact ⟨rfl, by rw [HE.out]; exact hR.out⟩
        · obtain ⟨K, rfl⟩ : ∃ k, gk = k + 1 := ⟨gk - 1, by omega⟩
          have hk1 : ((K + 1 : Nat) : Int) - 1 = (K : Int) := by omega
          rw [hk1]
          obtain ⟨F, hFF⟩ : ∃ F : Nat, F = a + K := ⟨_, rfl⟩
          have z1 : IntKind.i64.wrap ((a : Int) + (K : Int)) = (F : Int) := (IntWalk.i64_in _ (by omega)).trans (by omega)
          have y1 : F < m := by omega
          have y2 : a < m := by omega
          have y1b : decide (F < m) = true := by simp; omega
          have y2b : decide (a < m) = true := by simp; omega
          have HE : Hid (D = heapPop ltQ a K (siftDown ltQ K a 0 (swp d a F))) := Lib.hid (by rw [hT.out, hFF]; rfl)
          clear hT
          have HF := Lib.hid hFF
          clear hFF
          go_wp2_with fail
          obtain ⟨u0, e0⟩ := hR.out.mid0 (i := a) (j := F) (by have := HZ.out; omega) (.int .i64 (d[F]!.1.1 : Nat)) (.int .i64 (d[F]!.1.2 : Nat))
          obtain ⟨u1, e1⟩ := hR.out.mid1 (i := a) (j := F) (by have := HZ.out; omega) (.int .i64 (d[F]!.1.1 : Nat)) (.int .i64 (d[F]!.1.2 : Nat)) (.int .i64 (d[a]!.1.1 : Nat))
          have QS := Lib.hid (And.intro (And.intro (hR.out.c0 (a) (by have := HZ.out; omega)) (hR.out.c1 (a) (by have := HZ.out; omega))) (And.intro (hR.out.c0 (F) (by have := HZ.out; omega)) (hR.out.c1 (F) (by have := HZ.out; omega))))
          have k0 := QS.out.1.1
          have k1 := QS.out.1.2
          have k2 := QS.out.2.1
          have k3 := QS.out.2.2
          have f0 := hR.out.fz ((a) * 2)
          have f1 := hR.out.fz ((a) * 2 + 1)
          have f2 := hR.out.fz ((F) * 2)
          have f3 := hR.out.fz ((F) * 2 + 1)
          refine wp_region_free (fun w' => (w'.cell? ⟨g, (a) * 2, none⟩ = some (.int .i64 (d[a]!.1.1 : Nat)) ∧ w'.cell? ⟨g, (a) * 2 + 1, none⟩ = some (.int .i64 (d[a]!.1.2 : Nat))) ∧ (w'.cell? ⟨g, (F) * 2, none⟩ = some (.int .i64 (d[F]!.1.1 : Nat)) ∧ w'.cell? ⟨g, (F) * 2 + 1, none⟩ = some (.int .i64 (d[F]!.1.2 : Nat)))) [17, 19] (by kernel_rfl) QS.out (fun hSL => ?_)
          refine wpAnyFree_free 0 (v := ?_) rfl (by kernel_rfl) (by kernel_rfl) (by kernel_rfl) (fun _ _ _ h => h) (by rfl) (fun w' => ?_) ?_
          rotate_left
          · go_simp
            all_goals rfl
          try simp only [Act.put]
          try simp only [List.setIfInBounds_toArray]
          try simp only [List.set_cons_succ, List.set_cons_zero]
          refine wpAnyFree_free 1 (v := ?_) rfl (by kernel_rfl) (by kernel_rfl) (by kernel_rfl) (fun _ _ _ h => h) (by rfl) (fun w' => ?_) ?_
          rotate_left
          · go_simp
            all_goals rfl
          try simp only [Act.put]
          try simp only [List.setIfInBounds_toArray]
          try simp only [List.set_cons_succ, List.set_cons_zero]
          refine wpAnyFree_free 2 (v := ?_) rfl (by kernel_rfl) (by kernel_rfl) (by kernel_rfl) (fun _ _ _ h => h) (by rfl) (fun w' => ?_) ?_
          rotate_left
          · go_simp
            all_goals rfl
          try simp only [Act.put]
          try simp only [List.setIfInBounds_toArray]
          try simp only [List.set_cons_succ, List.set_cons_zero]
          refine wpAnyFree_free 3 (v := ?_) rfl (by kernel_rfl) (by kernel_rfl) (by kernel_rfl) (fun _ _ _ h => h) (by rfl) (fun w' => ?_) ?_
          rotate_left
          · go_simp
            all_goals rfl
          try simp only [Act.put]
          try simp only [List.setIfInBounds_toArray]
          try simp only [List.set_cons_succ, List.set_cons_zero]
          refine wpAnyFree_free 4 (v := ?_) rfl (by kernel_rfl) (by kernel_rfl) (by kernel_rfl) (fun _ _ _ h => h) (by rfl) (fun w' => ?_) ?_
          rotate_left
          · go_simp
            all_goals rfl
          try simp only [Act.put]
          try simp only [List.setIfInBounds_toArray]
          try simp only [List.set_cons_succ, List.set_cons_zero]
          refine wpAnyFree_free 5 (v := ?_) rfl (by kernel_rfl) (by kernel_rfl) (by kernel_rfl) (fun _ _ _ h => h) (by rfl) (fun w' => ?_) ?_
          rotate_left
          · go_simp
            all_goals rfl
          try simp only [Act.put]
          try simp only [List.setIfInBounds_toArray]
          try simp only [List.set_cons_succ, List.set_cons_zero]
          refine wpAnyFree_free 6 (v := ?_) rfl (by kernel_rfl) (by kernel_rfl) (by kernel_rfl) (fun _ _ _ h => h) (by rfl) (fun w' => ?_) ?_
          rotate_left
          · go_simp
            all_goals rfl
          try simp only [Act.put]
          try simp only [List.setIfInBounds_toArray]
          try simp only [List.set_cons_succ, List.set_cons_zero]
          refine wpAnyFree_free 7 (v := ?_) rfl (by kernel_rfl) (by kernel_rfl) (by kernel_rfl) (fun _ _ _ h => h) (by rfl) (fun w' => ?_) ?_
          rotate_left
          · go_simp
            all_goals rfl
          try simp only [Act.put]
          try simp only [List.setIfInBounds_toArray]
          try simp only [List.set_cons_succ, List.set_cons_zero]
          refine wpAnyFree_free 8 (v := ?_) rfl (by kernel_rfl) (by kernel_rfl) (by kernel_rfl) (fun _ _ _ h => h) (by rfl) (fun w' => ?_) ?_
          rotate_left
          · go_simp
            all_goals rfl
          try simp only [Act.put]
          try simp only [List.setIfInBounds_toArray]
          try simp only [List.set_cons_succ, List.set_cons_zero]
          refine wpAnyFree_free 9 (v := ?_) rfl (by kernel_rfl) (by kernel_rfl) (by kernel_rfl) (fun _ _ _ h => h) (by rfl) (fun w' => ?_) ?_
          rotate_left
          · go_simp
            all_goals rfl
          try simp only [Act.put]
          try simp only [List.setIfInBounds_toArray]
          try simp only [List.set_cons_succ, List.set_cons_zero]
          refine wpAnyFree_free 10 (v := ?_) rfl (by kernel_rfl) (by kernel_rfl) (by kernel_rfl) (fun _ _ _ h => h) (by rfl) (fun w' => ?_) ?_
          rotate_left
          · go_simp
            all_goals rfl
          try simp only [Act.put]
          try simp only [List.setIfInBounds_toArray]
          try simp only [List.set_cons_succ, List.set_cons_zero]
          refine wpAnyFree_take 11 (v := ?_) rfl (by kernel_rfl) (by kernel_rfl) (by kernel_rfl) (by kernel_rfl) (by kernel_rfl) (fun _ _ _ h => h) hSL (by rfl) (fun w' hw' => ?_) ?_
          rotate_left
          · obtain ⟨⟨g0, g1⟩, g2, g3⟩ := hw'
            go_simp
            all_goals rfl
          try simp only [Act.put]
          try simp only [List.setIfInBounds_toArray]
          try simp only [List.set_cons_succ, List.set_cons_zero]
          refine wpAnyFree_free 12 (v := ?_) rfl (by kernel_rfl) (by kernel_rfl) (by kernel_rfl) (fun _ _ _ h => h) (by rfl) (fun w' => ?_) ?_
          rotate_left
          · go_simp
            all_goals rfl
          try simp only [Act.put]
          try simp only [List.setIfInBounds_toArray]
          try simp only [List.set_cons_succ, List.set_cons_zero]
          refine wpAnyFree_free 13 (v := ?_) rfl (by kernel_rfl) (by kernel_rfl) (by kernel_rfl) (fun _ _ _ h => h) (by rfl) (fun w' => ?_) ?_
          rotate_left
          · go_simp
            all_goals rfl
          try simp only [Act.put]
          try simp only [List.setIfInBounds_toArray]
          try simp only [List.set_cons_succ, List.set_cons_zero]
          refine wpAnyFree_free 14 (v := ?_) rfl (by kernel_rfl) (by kernel_rfl) (by kernel_rfl) (fun _ _ _ h => h) (by rfl) (fun w' => ?_) ?_
          rotate_left
          · go_simp
            all_goals rfl
          try simp only [Act.put]
          try simp only [List.setIfInBounds_toArray]
          try simp only [List.set_cons_succ, List.set_cons_zero]
          refine wpAnyFree_take 15 (v := ?_) rfl (by kernel_rfl) (by kernel_rfl) (by kernel_rfl) (by kernel_rfl) (by kernel_rfl) (fun _ _ _ h => h) hSL (by rfl) (fun w' hw' => ?_) ?_
          rotate_left
          · obtain ⟨⟨g0, g1⟩, g2, g3⟩ := hw'
            go_simp
            all_goals rfl
          try simp only [Act.put]
          try simp only [List.setIfInBounds_toArray]
          try simp only [List.set_cons_succ, List.set_cons_zero]
          refine wpAnyFree_free 16 (v := ?_) rfl (by kernel_rfl) (by kernel_rfl) (by kernel_rfl) (fun _ _ _ h => h) (by rfl) (fun w' => ?_) ?_
          rotate_left
          · go_simp
            all_goals rfl
          try simp only [Act.put]
          try simp only [List.setIfInBounds_toArray]
          try simp only [List.set_cons_succ, List.set_cons_zero]
          refine wpAnyFree_late 17 (by kernel_rfl) (by kernel_rfl) rfl (by rfl) (fun K hK => ?_)
          go_simp
          refine hK.out _ _ ?_
          clear hK K
          try simp only [Act.put]
          try simp only [List.setIfInBounds_toArray]
          try simp only [List.set_cons_succ, List.set_cons_zero]
          refine wpAnyFree_free 18 (v := ?_) rfl (by kernel_rfl) (by kernel_rfl) (by kernel_rfl) (fun _ _ _ h => h) (by rfl) (fun w' => ?_) ?_
          rotate_left
          · go_simp
            all_goals rfl
          try simp only [Act.put]
          try simp only [List.setIfInBounds_toArray]
          try simp only [List.set_cons_succ, List.set_cons_zero]
          refine wpAnyFree_late 19 (by kernel_rfl) (by kernel_rfl) rfl (by rfl) (fun K hK => ?_)
          go_simp
          refine hK.out _ _ ?_
          clear hK K
          try simp only [Act.put]
          try simp only [List.setIfInBounds_toArray]
          try simp only [List.set_cons_succ, List.set_cons_zero]
          refine wpAnyFree_done (by kernel_rfl) ?_ _
          have R3 : Hid (RowQ w0 g (swp d (a) (F)) (swpW wr g (a) (F) d[F]! d[a]!).drew) := Lib.hid ((hR.out.swap (i := a) (j := F) (by have := HZ.out; omega) (by have := HZ.out; omega)).drew)
          clear e0 e1 k0 k1 k2 k3 f0 f1 f2 f3 hSL QS
          go_wp2_with fail
          have KS := Lib.hid (fun wx (hx : RowQ w0 g (swp d a F) wx) => siftDown_says (swp d a F) 0 K a g cap w0 wx hx (by omega) (by rw [size_swp]; have := HZ.out; have := HF.out; omega) (by rw [size_swp]; have := HZ.out; omega))
          rw [size_swp, HZ.out] at KS
          unfold SortSay cmpV at KS
          have HX := Lib.hid (show (siftDown ltQ K a 0 (swp d a F)).size = m by rw [(siftDown_size _ _ _ _), size_swp, HZ.out])
          refine (KS.out _ R3.out).mono ?_
          rintro e w4 ⟨rfl, hs⟩
          have R4 := Lib.hid hs
          clear hs KS
          generalize siftDown ltQ K a 0 (swp d a F) = d4 at *
          go_wp2_with fail
          go_roundg K
          case measure => omega
          case rel => exact ⟨K, d4, by omega, rfl, rfl, HX, HE, R4⟩
    · obtain ⟨K, rfl⟩ : ∃ k, gk = k + 1 := ⟨gk - 1, by omega⟩
      have hk1 : ((K + 1 : Nat) : Int) - 1 = (K : Int) := by omega
      rw [hk1]
      have HE2 : Hid (E = heapBuild ltQ H a K (siftDown ltQ H a K d)) := Lib.hid (by rw [hT.out]; rfl)
      have KS := Lib.hid (fun wx (hx : RowQ w0 g d wx) => siftDown_says d K H a g cap w0 wx hx (by omega) (by have := HZ.out; omega) (by have := HZ.out; omega))
      rw [HZ.out] at KS
      unfold SortSay cmpV at KS
      have HX := Lib.hid (show (siftDown ltQ H a K d).size = m by rw [siftDown_size, HZ.out])
      clear hT
      go_wp2_with fail
      refine (KS.out _ hR.out).mono ?_
      rintro e w4 ⟨rfl, hs⟩
      have R4 := Lib.hid hs
      clear hs KS
      generalize siftDown ltQ H a K d = d4 at *
      go_wp2_with fail
      go_roundg K
      case measure => omega
      case rel => exact ⟨K, d4, by omega, rfl, rfl, HX, HE2, R4⟩
end Go.Proofs.YtkklagdniaoghaaGreatDoor
namespace Go.Proofs.YtkklagdniaoghaaGreatDoor
open Go.RowKit Go.Proofs.Rank Go.Sort

/-- A world of the sort's, and the counter of exchanges in block cb. -/
structure CntQ (w0 : World) (g : Nat) (d : Array Qs) (cb s : Nat) (w : World) : Prop where
  row : RowQ w0 g d w
  cell : w.cell? ⟨cb, 0, none⟩ = some (.int .i64 (s : Nat))
  fz : w.frozen? ⟨cb, 0, none⟩ = false
  new : w0.heap.size ≤ cb
  lt : cb < w.heap.size
theorem CntQ.since {w0 w w' : World} {g : Nat} {d : Array Qs} {cb s : Nat} (h : CntQ w0 g d cb s w) (hs : w.Since w.heap.size w') : CntQ w0 g d cb s w' :=
  ⟨h.row.since hs, (hs.cell (a := ⟨cb, 0, none⟩) h.lt).trans h.cell, (hs.frozen (a := ⟨cb, 0, none⟩) h.lt).trans h.fz, h.new, Nat.lt_of_lt_of_le h.lt hs.size⟩
theorem RowQ.setNew {w0 w : World} {g : Nat} {d : Array Qs} (h : RowQ w0 g d w) {cb : Nat} (hc : w0.heap.size ≤ cb) (o : Nat) (v : Value) : RowQ w0 g d (w.setCell ⟨cb, o, none⟩ v) := by
  have hne : cb ≠ g := fun e => by have := h.lt; omega
  have ap : ∀ i, (w.setCell ⟨cb, o, none⟩ v).cell? ⟨g, i, none⟩ = w.cell? ⟨g, i, none⟩ := fun i => World.cell?_setCell_other _ _ _ _ (fun e => hne (by injection e))
  refine ⟨h.os, h.tape, h.output, by simp; exact h.size, fun k hk hkg => ?_, h.lt, fun i hi => (ap _).trans (h.c0 i hi), fun i hi => (ap _).trans (h.c1 i hi), fun x => by simp [h.fz x]⟩
  rw [Go.Deep.blk_setCell_other _ _ _ _ (fun e => by have e2 : k = cb := e; omega)]
  exact h.block k hk hkg
theorem CntQ.bump {w0 w : World} {g : Nat} {d : Array Qs} {cb s : Nat} (h : CntQ w0 g d cb s w) (t : Nat) : CntQ w0 g d cb t (w.setCell ⟨cb, 0, none⟩ (.int .i64 (t : Nat))) :=
  ⟨h.row.setNew h.new _ _, World.cell?_setCell_same _ _ _ h.cell, by simp [h.fz], h.new, by simp; exact h.lt⟩
theorem since_two2 {w w' : World} (h : World.Since w.drew.heap.size w.drew w') : w.Since w.heap.size w' := ⟨h.os, h.tape, h.output, h.size, h.block⟩
/-- What order2 says. -/
def TwoSay (w0 : World) (g : Nat) (d : Array Qs) (cb : Nat) (r : Nat × Nat × Nat) (e : Ending) (w' : World) : Prop := e = .returned (.tuple #[.int .i64 (r.1 : Nat), .int .i64 (r.2.1 : Nat)]) ∧ CntQ w0 g d cb r.2.2 w'
theorem order2_yes {d : Array Qs} {a b s : Nat} (h : cmpQ d[b]!.1 d[a]!.1 < 0) : order2 ltQ d a b s = (b, a, s + 1) := by unfold order2; rw [if_pos (by simp [ltQ, h])]
theorem order2_no {d : Array Qs} {a b s : Nat} (h : ¬ cmpQ d[b]!.1 d[a]!.1 < 0) : order2 ltQ d a b s = (a, b, s) := by unfold order2; rw [if_neg (by simp only [ltQ, decide_eq_true_eq]; exact h)]
set_option maxHeartbeats 6400000 in
set_option maxRecDepth 1000000 in
theorem order2_says (d : Array Qs) (a b g cap cb s m : Nat) (w0 w : World) (h : CntQ w0 g d cb s w) (hm : d.size = m) (ha : a < m) (hb : b < m) (_hsz : m ≤ 1000) (hs : s ≤ 1000) :
    Calls Tryz.prog 182 #[.slice (some ⟨g, 0, none⟩) m cap, .int .i64 a, .int .i64 b, .pointer (some ⟨cb, 0, none⟩), cmpV] w (TwoSay w0 g d cb (order2 ltQ d a b s)) := by
  have HC := Lib.hid h
  have HR := Lib.hid h.row
  have HZ := Lib.hid hm
  have KC := Lib.hid (fun wx => cmp_says d[b]! d[a]! wx)
  have HY := Lib.hid (order2_yes (d := d) (a := a) (b := b) (s := s))
  have HN := Lib.hid (order2_no (d := d) (a := a) (b := b) (s := s))
  have y1 : decide (a < m) = true := by simp; omega
  have y2 : decide (b < m) = true := by simp; omega
  unfold qV at KC
  generalize cmpQ d[b]!.1 d[a]!.1 = c at *
  unfold cmpV
  clear h hm
  by_cases hc : c < 0
  · rw [HY.out hc]
    have hcb : decide (c < 0) = true := decide_eq_true hc
    clear HY HN
    go_enter Tryz.func182, Tryz.ntmps182
    go_wp2_with fail
    have QQ := Lib.hid (And.intro (And.intro (HR.out.c0 (b) (by have := HZ.out; omega)) (HR.out.c1 (b) (by have := HZ.out; omega))) (And.intro (HR.out.c0 (a) (by have := HZ.out; omega)) (HR.out.c1 (a) (by have := HZ.out; omega))))
    go_region_held3 (fun w' => (w'.cell? ⟨g, (b) * 2, none⟩ = some (.int .i64 (d[b]!.1.1 : Nat)) ∧ w'.cell? ⟨g, (b) * 2 + 1, none⟩ = some (.int .i64 (d[b]!.1.2 : Nat))) ∧ (w'.cell? ⟨g, (a) * 2, none⟩ = some (.int .i64 (d[a]!.1.1 : Nat)) ∧ w'.cell? ⟨g, (a) * 2 + 1, none⟩ = some (.int .i64 (d[a]!.1.2 : Nat))))
      (first
        | exact QQ.out
        | exact Q2.out)
      (first
        | (go_at_call 37; refine (KC.out _).mono ?_; rintro e w2 ⟨rfl, hs⟩; have R2 := Lib.hid (HR.out.drew.since hs); have C2 := Lib.hid (HC.out.since (since_two2 hs)); have Q2 := Lib.hid (And.intro (And.intro (R2.out.c0 (b) (by have := HZ.out; omega)) (R2.out.c1 (b) (by have := HZ.out; omega))) (And.intro (R2.out.c0 (a) (by have := HZ.out; omega)) (R2.out.c1 (a) (by have := HZ.out; omega)))); clear hs))
    have c2 := C2.out.cell
    have f2 := C2.out.fz
    go_wp2_with fail
    go_ret2
    exact ⟨rfl, C2.out.bump (s + 1)⟩
  · rw [HN.out hc]
    have hci : 0 ≤ c := by omega
    have hcb : decide (c < 0) = false := decide_eq_false hc
    clear HY HN
    go_enter Tryz.func182, Tryz.ntmps182
    go_wp2_with fail
    have QQ := Lib.hid (And.intro (And.intro (HR.out.c0 (b) (by have := HZ.out; omega)) (HR.out.c1 (b) (by have := HZ.out; omega))) (And.intro (HR.out.c0 (a) (by have := HZ.out; omega)) (HR.out.c1 (a) (by have := HZ.out; omega))))
    go_region_held3 (fun w' => (w'.cell? ⟨g, (b) * 2, none⟩ = some (.int .i64 (d[b]!.1.1 : Nat)) ∧ w'.cell? ⟨g, (b) * 2 + 1, none⟩ = some (.int .i64 (d[b]!.1.2 : Nat))) ∧ (w'.cell? ⟨g, (a) * 2, none⟩ = some (.int .i64 (d[a]!.1.1 : Nat)) ∧ w'.cell? ⟨g, (a) * 2 + 1, none⟩ = some (.int .i64 (d[a]!.1.2 : Nat))))
      (first
        | exact QQ.out
        | exact Q2.out)
      (first
        | (go_at_call 37; refine (KC.out _).mono ?_; rintro e w2 ⟨rfl, hs⟩; have R2 := Lib.hid (HR.out.drew.since hs); have C2 := Lib.hid (HC.out.since (since_two2 hs)); have Q2 := Lib.hid (And.intro (And.intro (R2.out.c0 (b) (by have := HZ.out; omega)) (R2.out.c1 (b) (by have := HZ.out; omega))) (And.intro (R2.out.c0 (a) (by have := HZ.out; omega)) (R2.out.c1 (a) (by have := HZ.out; omega)))); clear hs))
    go_wp2_with fail
    go_ret2
    exact ⟨rfl, C2.out⟩
theorem order2_in {d : Array Qs} {a b s m : Nat} (ha : a < m) (hb : b < m) : (order2 ltQ d a b s).1 < m ∧ (order2 ltQ d a b s).2.1 < m ∧ (order2 ltQ d a b s).2.2 ≤ s + 1 := by
  unfold order2
  split
  · exact ⟨hb, ha, Nat.le_refl _⟩
  · exact ⟨ha, hb, Nat.le_succ _⟩
theorem median_in {d : Array Qs} {a b c s m : Nat} (ha : a < m) (hb : b < m) (hc : c < m) : (median ltQ d a b c s).1 < m ∧ (median ltQ d a b c s).2 ≤ s + 3 := by
  unfold median
  obtain ⟨p1, p2, p3⟩ := order2_in (d := d) (s := s) ha hb
  obtain ⟨q1, q2, q3⟩ := order2_in (d := d) (s := (order2 ltQ d a b s).2.2) p2 hc
  obtain ⟨r1, r2, r3⟩ := order2_in (d := d) (s := (order2 ltQ d (order2 ltQ d a b s).2.1 c (order2 ltQ d a b s).2.2).2.2) p1 q1
  exact ⟨r2, by simp only; omega⟩
def MedSay (w0 : World) (g : Nat) (d : Array Qs) (cb : Nat) (r : Nat × Nat) (e : Ending) (w' : World) : Prop := e = .returned (.int .i64 (r.1 : Nat)) ∧ CntQ w0 g d cb r.2 w'
set_option maxHeartbeats 6400000 in
set_option maxRecDepth 1000000 in
theorem median_says (d : Array Qs) (a b c g cap cb s m : Nat) (w0 w : World) (h : CntQ w0 g d cb s w) (hm : d.size = m) (ha : a < m) (hb : b < m) (hc : c < m) (hsz : m ≤ 1000) (hs : s ≤ 900) :
    Calls Tryz.prog 151 #[.slice (some ⟨g, 0, none⟩) m cap, .int .i64 a, .int .i64 b, .int .i64 c, .pointer (some ⟨cb, 0, none⟩), cmpV] w (MedSay w0 g d cb (median ltQ d a b c s)) := by
  obtain ⟨p1, p2, p3⟩ := order2_in (d := d) (s := s) ha hb
  have K1 := Lib.hid (order2_says d a b g cap cb s m w0 w h hm ha hb hsz (by omega))
  obtain ⟨q1, q2, q3⟩ := order2_in (d := d) (s := (order2 ltQ d a b s).2.2) p2 hc
  have K2 := Lib.hid (fun wx hx => order2_says d (order2 ltQ d a b s).2.1 c g cap cb (order2 ltQ d a b s).2.2 m w0 wx hx hm p2 hc hsz (by omega))
  have K3 := Lib.hid (fun wx hx => order2_says d (order2 ltQ d a b s).1 (order2 ltQ d (order2 ltQ d a b s).2.1 c (order2 ltQ d a b s).2.2).1 g cap cb (order2 ltQ d (order2 ltQ d a b s).2.1 c (order2 ltQ d a b s).2.2).2.2 m w0 wx hx hm p1 q1 hsz (by omega))
  have HM : Hid (median ltQ d a b c s = ((order2 ltQ d (order2 ltQ d a b s).1 (order2 ltQ d (order2 ltQ d a b s).2.1 c (order2 ltQ d a b s).2.2).1 (order2 ltQ d (order2 ltQ d a b s).2.1 c (order2 ltQ d a b s).2.2).2.2).2.1, (order2 ltQ d (order2 ltQ d a b s).1 (order2 ltQ d (order2 ltQ d a b s).2.1 c (order2 ltQ d a b s).2.2).1 (order2 ltQ d (order2 ltQ d a b s).2.1 c (order2 ltQ d a b s).2.2).2.2).2.2)) := Lib.hid rfl
  rw [HM.out]
  clear HM h hm
  generalize order2 ltQ d a b s = r1 at *
  generalize order2 ltQ d r1.2.1 c r1.2.2 = r2 at *
  generalize order2 ltQ d r1.1 r2.1 r2.2.2 = r3 at *
  unfold TwoSay at K1 K2 K3
  unfold cmpV at *
  go_enter Tryz.func151, Tryz.ntmps151
  go_wp2_with fail
  refine K1.out.mono ?_
  rintro e w1 ⟨rfl, h1⟩
  have H1 := Lib.hid h1
  clear h1 K1
  go_wp2_with fail
  refine (K2.out _ H1.out).mono ?_
  rintro e w2 ⟨rfl, h2⟩
  have H2 := Lib.hid h2
  clear h2 K2
  go_wp2_with fail
  refine (K3.out _ H2.out).mono ?_
  rintro e w3 ⟨rfl, h3⟩
  have H3 := Lib.hid h3
  clear h3 K3
  go_wp2_with fail
  go_ret
  exact ⟨rfl, H3.out⟩
def hintN : Hint → Nat
  | .unknown => 0
  | .increasing => 1
  | .decreasing => 2
theorem pivot_mid {d : Array Qs} {a b : Nat} (h8 : 8 ≤ b - a) (h50 : ¬ 50 ≤ b - a) : choosePivot ltQ d a b = ((median ltQ d (a + (b - a) / 4 * 1) (a + (b - a) / 4 * 2) (a + (b - a) / 4 * 3) 0).1, if (median ltQ d (a + (b - a) / 4 * 1) (a + (b - a) / 4 * 2) (a + (b - a) / 4 * 3) 0).2 = 0 then .increasing else if (median ltQ d (a + (b - a) / 4 * 1) (a + (b - a) / 4 * 2) (a + (b - a) / 4 * 3) 0).2 = 12 then .decreasing else .unknown) := by
  unfold choosePivot
  simp only [ge_iff_le, if_pos h8, if_neg h50]
def PivSay (w0 : World) (g : Nat) (d : Array Qs) (r : Nat × Hint) (e : Ending) (w' : World) : Prop := e = .returned (.tuple #[.int .i64 (r.1 : Nat), .int .i64 (hintN r.2 : Nat)]) ∧ RowQ w0 g d w'
set_option maxHeartbeats 6400000 in
set_option maxRecDepth 1000000 in
theorem pivot_says (d : Array Qs) (a b g cap m : Nat) (w0 w : World) (h : RowQ w0 g d w) (hm : d.size = m) (h8 : 8 ≤ b - a) (h50 : b - a < 50) (hb : b ≤ m) (hsz : m ≤ 1000) :
    Calls Tryz.prog 86 #[.slice (some ⟨g, 0, none⟩) m cap, .int .i64 a, .int .i64 b, cmpV] w (PivSay w0 g d (choosePivot ltQ d a b)) := by
  rw [pivot_mid h8 (by omega)]
  have H0 : Hid (CntQ w0 g d w.heap.size 0 (w.alloc (.cells #[.int .i64 0] 3))) := Lib.hid ⟨h.since ((World.Since.refl w.heap.size w).alloc (Nat.le_refl _) _), by simp, by simp, h.size, by simp⟩
  obtain ⟨L, hL⟩ : ∃ L : Nat, (b : Int) - (a : Int) = (L : Int) := ⟨b - a, by omega⟩
  have hL2 : b - a = L := by omega
  rw [hL2] at h8 h50 ⊢
  obtain ⟨Q, hQ⟩ : ∃ Q, Q = L / 4 := ⟨_, rfl⟩
  rw [← hQ]
  have hQi : (L : Int) / 4 = (Q : Int) := by omega
  have hQb : Q ≤ 12 ∧ a + Q * 3 < m := by omega
  have hm1 := median_in (d := d) (s := 0) (a := a + Q * 1) (b := a + Q * 2) (c := a + Q * 3) (m := m) (by omega) (by omega) (by omega)
  have K := Lib.hid (fun wx hx => median_says d (a + Q * 1) (a + Q * 2) (a + Q * 3) g cap w.heap.size 0 m w0 wx hx hm (by omega) (by omega) (by omega) hsz (by omega))
  generalize median ltQ d (a + Q * 1) (a + Q * 2) (a + Q * 3) 0 = r at *
  obtain ⟨r1, r2⟩ := r
  simp only at hm1 ⊢
  obtain ⟨hnt, hh⟩ : ∃ hnt : Hint, hnt = (if r2 = 0 then Hint.increasing else if r2 = 12 then Hint.decreasing else Hint.unknown) := ⟨_, rfl⟩
  rw [← hh]
  have HH := Lib.hid hh
  clear hh
  have HL := Lib.hid hL
  have HQ := Lib.hid hQi
  unfold MedSay at K
  clear h hm hL hL2 hQ hQi
  unfold cmpV at *
  have hLi : (8 : Int) ≤ (L : Int) := by omega
  have hLj : ¬ (50 : Int) ≤ (L : Int) := by omega
  go_enter Tryz.func86, Tryz.ntmps86
  go_upto_region 3 with fail
  rw [HL.out]
  go_wp2_with fail
  have e1 : Hid ((a : Int) + (L : Int) / 4 = ((a + Q * 1 : Nat) : Int) ∧ (a : Int) + (L : Int) / 4 * 2 = ((a + Q * 2 : Nat) : Int) ∧ (a : Int) + (L : Int) / 4 * 3 = ((a + Q * 3 : Nat) : Int)) := Lib.hid (by have := HQ.out; omega)
  rw [e1.out.1, e1.out.2.1, e1.out.2.2]
  refine (K.out _ H0.out).mono ?_
  rintro e w2 ⟨rfl, hs⟩
  have H2 := Lib.hid hs
  have c2 := hs.cell
  clear hs K
  by_cases hz : r2 = 0
  · subst hz
    obtain rfl : hnt = .increasing := by rw [HH.out]; rfl
    have z1 : (((0 : Nat) : Int) == 0) = true := rfl
    go_wp2_with fail
    go_ret2
    exact ⟨rfl, H2.out.row⟩
  · obtain rfl : hnt = .unknown := by rw [HH.out, if_neg hz, if_neg (by omega)]
    have z1 : ((r2 : Int) == 0) = false := by rw [beq_eq_false_iff_ne]; omega
    have z2 : ((r2 : Int) == 12) = false := by rw [beq_eq_false_iff_ne]; omega
    clear hz
    go_wp2_with fail
    go_ret2
    exact ⟨rfl, H2.out.row⟩
end Go.Proofs.YtkklagdniaoghaaGreatDoor
namespace Go.Proofs.YtkklagdniaoghaaGreatDoor
open Go.RowKit Go.Proofs.Rank Go.Sort

theorem scan_go {d : Array Qs} {b i : Nat} (h : i + 1 < b) (hc : ¬ cmpQ d[i + 1]!.1 d[i]!.1 < 0) : scanSorted ltQ d b (i + 1) = scanSorted ltQ d b (i + 1 + 1) := by
  rw [scanSorted, if_pos]
  simp only [Bool.and_eq_true, decide_eq_true_eq, Bool.not_eq_true', ltQ, decide_eq_false_iff_not, Nat.add_sub_cancel]
  exact ⟨h, hc⟩
theorem scan_stop {d : Array Qs} {b i : Nat} (hc : cmpQ d[i + 1]!.1 d[i]!.1 < 0) : scanSorted ltQ d b (i + 1) = i + 1 := by
  rw [scanSorted, if_neg]
  simp only [Bool.and_eq_true, decide_eq_true_eq, Bool.not_eq_true', ltQ, decide_eq_false_iff_not, Nat.add_sub_cancel]
  exact fun h => h.2 hc
theorem scan_end {d : Array Qs} {b i : Nat} (h : ¬ i < b) : scanSorted ltQ d b i = i := by
  rw [scanSorted, if_neg]
  simp only [Bool.and_eq_true, decide_eq_true_eq]
  exact fun h2 => h h2.1
theorem partial_mid {d : Array Qs} {a b : Nat} (h : b - a < 50) : partialInsertionSort ltQ d a b = (d, decide (scanSorted ltQ d b (a + 1) = b)) := by
  unfold partialInsertionSort partialIns
  by_cases h1 : scanSorted ltQ d b (a + 1) = b
  · simp only [h1, if_true, decide_true]
  · simp only [h1, if_false, if_pos h, decide_false]
theorem ret_bool {x y : Bool} (h : x = y) : Ending.returned (.bool y) = Ending.returned (.bool x) := by rw [h]
def ParSay (w0 : World) (g : Nat) (d : Array Qs) (r : Bool) (e : Ending) (w' : World) : Prop := e = .returned (.bool r) ∧ RowQ w0 g d w'
set_option maxHeartbeats 6400000 in
set_option maxRecDepth 1000000 in
theorem partial_says (d : Array Qs) (a b g cap m : Nat) (w0 w : World) (h : RowQ w0 g d w) (hm : d.size = m) (hab : a < b) (h50 : b - a < 50) (hb : b ≤ m) (hsz : m ≤ 1000) :
    Calls Tryz.prog 88 #[.slice (some ⟨g, 0, none⟩) m cap, .int .i64 a, .int .i64 b, cmpV] w (ParSay w0 g d (partialInsertionSort ltQ d a b).2) := by
  rw [partial_mid h50]
  obtain ⟨E, hE⟩ : ∃ E, E = scanSorted ltQ d b (a + 1) := ⟨_, rfl⟩
  rw [← hE]
  obtain ⟨S, hS⟩ : ∃ S : Bool, S = decide (E = b) := ⟨_, rfl⟩
  simp only
  rw [← hS]
  have HS : Hid ((E = b → S = true) ∧ (E ≠ b → S = false)) := Lib.hid ⟨fun e => by rw [hS, decide_eq_true e], fun e => by rw [hS, decide_eq_false e]⟩
  have HE := Lib.hid hE
  have H0 := Lib.hid h
  have HZ := Lib.hid hm
  clear h hm hE hS
  unfold cmpV
  go_enter Tryz.func88, Tryz.ntmps88
  go_wp2_with fail
  go_loopg [9, 10] 0 (fun gk i j wr => gk = 0 ∧ i = .int .i64 ((a : Int) + 1) ∧ j = .int .i64 0 ∧ Hid (RowQ w0 g d wr))
  case atStart => exact ⟨rfl, rfl, rfl, H0⟩
  case round =>
    obtain ⟨rfl, rfl, rfl, hR0⟩ := hrel
    go_wp2_with fail
    go_loopg [9] (b - (a + 1)) (fun gk i wr => ∃ I : Nat, a + 1 ≤ I ∧ I ≤ b ∧ gk = b - I ∧ i = .int .i64 I ∧ Hid (E = scanSorted ltQ d b I) ∧ Hid (RowQ w0 g d wr))
    case atStart => exact ⟨a + 1, by omega, by omega, rfl, by go_num, HE, hR0⟩
    case round =>
      clear hR0
      obtain ⟨I, hI, hI2, rfl, rfl, hT, hR⟩ := hrel
      by_cases hlt : I < b
      · obtain ⟨J, rfl⟩ : ∃ k, I = k + 1 := ⟨I - 1, by omega⟩
        have z1 : IntKind.i64.wrap ((J : Int) + 1 - 1) = (J : Int) := (IntWalk.i64_in _ (by omega)).trans (by omega)
        have z1b : IntKind.i64.wrap (J : Int) = (J : Int) := IntWalk.i64_in _ (by omega)
        have z2 : (0 : Int) ≤ (J : Int) + 1 := by omega
        have z3 : ((J : Int) + 1) < (m : Int) := by omega
        have z4 : J < m := by omega
        have z4b : decide (J < m) = true := by simp; omega
        have z5 : ((J : Int) + 1).toNat = J + 1 := by omega
        have hltI : ((J : Int) + 1) < (b : Int) := by omega
        have KC := Lib.hid (fun wx => cmp_says d[J + 1]! d[J]! wx)
        have HG := Lib.hid (scan_go (d := d) (b := b) (i := J) hlt)
        have HN := Lib.hid (scan_stop (d := d) (b := b) (i := J))
        unfold qV at KC
        generalize cmpQ d[J + 1]!.1 d[J]!.1 = c at *
        by_cases hc : c < 0
        · have hcb : decide (c < 0) = true := decide_eq_true hc
          have HE : Hid (E = J + 1) := Lib.hid (by rw [hT.out, HN.out hc])
          clear HG HN
          go_wp2_with fail
          have QQ := Lib.hid (And.intro (And.intro (hR.out.c0 (J + 1) (by have := HZ.out; omega)) (hR.out.c1 (J + 1) (by have := HZ.out; omega))) (And.intro (hR.out.c0 (J) (by have := HZ.out; omega)) (hR.out.c1 (J) (by have := HZ.out; omega))))
          go_region_held3 (fun w' => (w'.cell? ⟨g, (J + 1) * 2, none⟩ = some (.int .i64 (d[J + 1]!.1.1 : Nat)) ∧ w'.cell? ⟨g, (J + 1) * 2 + 1, none⟩ = some (.int .i64 (d[J + 1]!.1.2 : Nat))) ∧ (w'.cell? ⟨g, (J) * 2, none⟩ = some (.int .i64 (d[J]!.1.1 : Nat)) ∧ w'.cell? ⟨g, (J) * 2 + 1, none⟩ = some (.int .i64 (d[J]!.1.2 : Nat))))
            (first
              | exact QQ.out
              | exact Q2.out)
            (first
              | (go_at_call 37; refine (KC.out _).mono ?_; rintro e w2 ⟨rfl, hs⟩; have R2 := Lib.hid (hR.out.drew.since hs); have Q2 := Lib.hid (And.intro (And.intro (R2.out.c0 (J + 1) (by have := HZ.out; omega)) (R2.out.c1 (J + 1) (by have := HZ.out; omega))) (And.intro (R2.out.c0 (J) (by have := HZ.out; omega)) (R2.out.c1 (J) (by have := HZ.out; omega)))); clear hs))
          go_wp2_with fail
          have HF := Lib.hid (HS.out.2 (by have := HE.out; omega))
          have hne : (((J : Int) + 1) == (b : Int)) = false := by rw [beq_eq_false_iff_ne]; omega
          have hsm : ((b : Int) - (a : Int)) < 50 := by omega
          go_wp2_with fail
          go_ret
          exact ⟨ret_bool HF.out, R2.out⟩
        · have hcb : decide (c < 0) = false := decide_eq_false hc
          have hci : 0 ≤ c := by omega
          have HE : Hid (E = scanSorted ltQ d b (J + 1 + 1)) := Lib.hid (by rw [hT.out, HG.out hc])
          clear HG HN
          go_wp2_with fail
          have QQ := Lib.hid (And.intro (And.intro (hR.out.c0 (J + 1) (by have := HZ.out; omega)) (hR.out.c1 (J + 1) (by have := HZ.out; omega))) (And.intro (hR.out.c0 (J) (by have := HZ.out; omega)) (hR.out.c1 (J) (by have := HZ.out; omega))))
          go_region_held3 (fun w' => (w'.cell? ⟨g, (J + 1) * 2, none⟩ = some (.int .i64 (d[J + 1]!.1.1 : Nat)) ∧ w'.cell? ⟨g, (J + 1) * 2 + 1, none⟩ = some (.int .i64 (d[J + 1]!.1.2 : Nat))) ∧ (w'.cell? ⟨g, (J) * 2, none⟩ = some (.int .i64 (d[J]!.1.1 : Nat)) ∧ w'.cell? ⟨g, (J) * 2 + 1, none⟩ = some (.int .i64 (d[J]!.1.2 : Nat))))
            (first
              | exact QQ.out
              | exact Q2.out)
            (first
              | (go_at_call 37; refine (KC.out _).mono ?_; rintro e w2 ⟨rfl, hs⟩; have R2 := Lib.hid (hR.out.drew.since hs); have Q2 := Lib.hid (And.intro (And.intro (R2.out.c0 (J + 1) (by have := HZ.out; omega)) (R2.out.c1 (J + 1) (by have := HZ.out; omega))) (And.intro (R2.out.c0 (J) (by have := HZ.out; omega)) (R2.out.c1 (J) (by have := HZ.out; omega)))); clear hs))
          go_wp2_with fail
          go_roundg (b - (J + 1 + 1))
          case measure => omega
          case rel => exact ⟨J + 1 + 1, by omega, by omega, rfl, by go_num, HE, R2⟩
      · obtain rfl : I = b := by omega
        have HE : Hid (E = I) := Lib.hid (by rw [hT.out, scan_end (by omega)])
        have HF := Lib.hid (HS.out.1 HE.out)
        have hgb : decide ((I : Int) < (I : Int)) = false := by simp
        have hee : (((I : Int)) == (I : Int)) = true := by simp
        clear hT
        go_wp2_with fail
        go_quiet (fail)
        have R2 := Lib.hid (hR.out.since (since_drewN (World.Since.refl wr.heap.size wr) nq))
        go_wp2_with fail
        go_ret
        exact ⟨ret_bool HF.out, R2.out⟩
end Go.Proofs.YtkklagdniaoghaaGreatDoor
