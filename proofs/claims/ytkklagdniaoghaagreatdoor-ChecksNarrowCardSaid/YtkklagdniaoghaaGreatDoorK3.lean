/- The walks of the sort: heaps. -/
import Derived.Test.YtkklagdniaoghaaGreatDoorK2
namespace Go.Proofs.YtkklagdniaoghaaGreatDoor
open Go.RowKit Go.Proofs.Rank Go.Sort

theorem sift_end {hi first R : Nat} {d : Array Qs} (h : ¬ 2 * R + 1 < hi) : siftDown ltQ hi first R d = d := by
  rw [siftDown, dif_pos (by omega)]
theorem sift_step {hi first R : Nat} {d : Array Qs} (h : 2 * R + 1 < hi) {C : Nat}
    (hC : (C = 2 * R + 2 ∧ 2 * R + 2 < hi ∧ cmpQ d[first + (2 * R + 1)]!.1 d[first + (2 * R + 1) + 1]!.1 < 0) ∨ (C = 2 * R + 1 ∧ ¬ (2 * R + 2 < hi ∧ cmpQ d[first + (2 * R + 1)]!.1 d[first + (2 * R + 1) + 1]!.1 < 0))) :
    siftDown ltQ hi first R d = if cmpQ d[first + R]!.1 d[first + C]!.1 < 0 then siftDown ltQ hi first C (swp d (first + R) (first + C)) else d := by
  rw [siftDown, dif_neg (by omega)]
  rcases hC with ⟨rfl, h1, h2⟩ | ⟨rfl, h1⟩
  · rw [if_pos (by simp [ltQ, h2]; omega)]
    by_cases h3 : cmpQ d[first + R]!.1 d[first + (2 * R + 2)]!.1 < 0
    · rw [if_neg (by simp [ltQ, h3]), dif_pos h1, if_pos h3]
    · rw [if_pos (by simp [ltQ]; omega), if_neg h3]
  · rw [if_neg (by simp only [Bool.and_eq_true, decide_eq_true_eq, ltQ]; exact h1)]
    by_cases h3 : cmpQ d[first + R]!.1 d[first + (2 * R + 1)]!.1 < 0
    · rw [if_neg (by simp [ltQ, h3]), if_pos h3]
    · rw [if_pos (by simp [ltQ]; omega), if_neg h3]
set_option maxHeartbeats 6400000 in
set_option maxRecDepth 1000000 in
theorem siftDown_says (d0 : Array Qs) (lo hi first g cap : Nat) (w0 w : World) (h : RowQ w0 g d0 w) (hlo : lo ≤ hi) (hb : first + hi ≤ d0.size) (hsz : d0.size ≤ 1000) :
    Calls Tryz.prog 147 #[.slice (some ⟨g, 0, none⟩) d0.size cap, .int .i64 lo, .int .i64 hi, .int .i64 first, cmpV] w (SortSay w0 g (siftDown ltQ hi first lo d0)) := by
  have H0 := Lib.hid h
  obtain ⟨D, hD⟩ : ∃ D, D = siftDown ltQ hi first lo d0 := ⟨_, rfl⟩
  rw [← hD]
  have HD := Lib.hid hD
  generalize hm : d0.size = m at *
  have HM := Lib.hid hm
  clear h hm hD
  unfold cmpV
  go_enter Tryz.func147, Tryz.ntmps147
  go_wp2_with fail
  go_loopg [10] (hi - lo) (fun gk i wr => ∃ (R : Nat) (d : Array Qs), R ≤ hi ∧ gk = hi - R ∧ i = .int .i64 R ∧ Hid (d.size = m) ∧ Hid (D = siftDown ltQ hi first R d) ∧ Hid (RowQ w0 g d wr))
  case atStart => exact ⟨lo, d0, by omega, by omega, rfl, HM, HD, H0⟩
  case round =>
    obtain ⟨R, d, hR1, rfl, rfl, HZ, hT, hR⟩ := hrel
    by_cases hA : 2 * R + 1 < hi
    · have hAi : (2 * (R : Int) + 1) < (hi : Int) := by omega
      go_wp2_with fail
      obtain ⟨P, hP⟩ : ∃ P : Nat, 2 * (R : Int) + 1 = (P : Int) := ⟨2 * R + 1, by omega⟩
      rw [hP]
      obtain ⟨F1, hF1⟩ : ∃ F1 : Nat, F1 = first + P := ⟨_, rfl⟩
      obtain ⟨F2, hF2⟩ : ∃ F2 : Nat, F2 = first + P + 1 := ⟨_, rfl⟩
      obtain ⟨A, hAA⟩ : ∃ A : Nat, A = first + R := ⟨_, rfl⟩
      have HT := Lib.hid (fun C => sift_step (hi := hi) (first := first) (R := R) (d := d) hA (C := C))
      have HP := Lib.hid (show P = 2 * R + 1 by omega)
      have HF := Lib.hid (And.intro hF1 (And.intro hF2 hAA))
      have z1 : IntKind.i64.wrap ((first : Int) + (P : Int)) = (F1 : Int) := (IntWalk.i64_in _ (by omega)).trans (by omega)
      have z2 : IntKind.i64.wrap ((F1 : Int) + 1) = (F2 : Int) := (IntWalk.i64_in _ (by omega)).trans (by omega)
      have z3 : IntKind.i64.wrap ((P : Int) + 1) = (P : Int) + 1 := IntWalk.i64_in _ (by omega)
      have z4 : IntKind.i64.wrap ((first : Int) + (R : Int)) = (A : Int) := (IntWalk.i64_in _ (by omega)).trans (by omega)
      have z5 : IntKind.i64.wrap ((first : Int) + ((P : Int) + 1)) = (F2 : Int) := (IntWalk.i64_in _ (by omega)).trans (by omega)
      have y1 : F1 < m := by omega
      have y3 : A < m := by omega
      have y1b : decide (F1 < m) = true := by simp; omega
      have y3b : decide (A < m) = true := by simp; omega
      clear hP hF1 hF2 hAA
      by_cases hB : 2 * R + 2 < hi
      · have y2 : F2 < m := by have := HF.out; have := HP.out; omega
        have y2b : decide (F2 < m) = true := by simp; omega
        have hBi : ((P : Int) + 1) < (hi : Int) := by have := HP.out; omega
        have KC := Lib.hid (fun wx => cmp_says d[F1]! d[F2]! wx)
        unfold qV at KC
        have HT1 := Lib.hid (fun (hc : cmpQ d[F1]!.1 d[F2]!.1 < 0) => HT.out (2 * R + 2) (.inl ⟨rfl, hB, by have h := HF.out; have h2 := HP.out; rw [show first + (2 * R + 1) = F1 by omega, show F1 + 1 = F2 by omega]; exact hc⟩))
        have HT0 := Lib.hid (fun (hc : ¬ cmpQ d[F1]!.1 d[F2]!.1 < 0) => HT.out (2 * R + 1) (.inr ⟨rfl, fun hh => by have h := HF.out; have h2 := HP.out; rw [show first + (2 * R + 1) = F1 by omega, show F1 + 1 = F2 by omega] at hh; exact hc hh.2⟩))
        generalize cmpQ d[F1]!.1 d[F2]!.1 = c at *
        clear HT
        by_cases hc : c < 0
        · have HE0 := HT1.out hc
          clear HT1 HT0
          have QQ := Lib.hid (And.intro (And.intro (hR.out.c0 (F1) (by have := HZ.out; omega)) (hR.out.c1 (F1) (by have := HZ.out; omega))) (And.intro (hR.out.c0 (F2) (by have := HZ.out; omega)) (hR.out.c1 (F2) (by have := HZ.out; omega))))
          go_region_held3 (fun w' => (w'.cell? ⟨g, (F1) * 2, none⟩ = some (.int .i64 (d[F1]!.1.1 : Nat)) ∧ w'.cell? ⟨g, (F1) * 2 + 1, none⟩ = some (.int .i64 (d[F1]!.1.2 : Nat))) ∧ (w'.cell? ⟨g, (F2) * 2, none⟩ = some (.int .i64 (d[F2]!.1.1 : Nat)) ∧ w'.cell? ⟨g, (F2) * 2 + 1, none⟩ = some (.int .i64 (d[F2]!.1.2 : Nat))))
            (first
              | exact QQ.out
              | exact Q2.out)
            (first
              | (go_at_call 37; refine (KC.out _).mono ?_; rintro e w2 ⟨rfl, hs⟩; have R2 := Lib.hid (hR.out.drew.since hs); have Q2 := Lib.hid (And.intro (And.intro (R2.out.c0 (F1) (by have := HZ.out; omega)) (R2.out.c1 (F1) (by have := HZ.out; omega))) (And.intro (R2.out.c0 (F2) (by have := HZ.out; omega)) (R2.out.c1 (F2) (by have := HZ.out; omega)))); clear hs))
          go_wp2_with fail
          obtain ⟨C, hCC⟩ : ∃ C : Nat, (P : Int) + 1 = (C : Int) := ⟨P + 1, by omega⟩
          rw [hCC] at z5 ⊢
          have hC2 : C = 2 * R + 2 := by have := HP.out; omega
          have HC := Lib.hid hC2
          obtain ⟨F, hFF⟩ : ∃ F, F = F2 := ⟨_, rfl⟩
          rw [← hFF] at z5 y2 y2b
          have HE : D = if cmpQ d[A]!.1 d[F]!.1 < 0 then siftDown ltQ hi first C (swp d A F) else d := by rw [hT.out, HE0, hFF, hC2]; have h := HF.out; have h2 := HP.out; rw [show first + (2 * R + 2) = F2 by omega, ← h.2.2]
          have hne : A ≠ F := by have h := HF.out; have h2 := HP.out; omega
          have hlt2 : C ≤ hi ∧ R < C := by omega
          clear HE0 hFF hCC hC2 z1 z2 z3 hBi y1 y1b
          have KC2 := Lib.hid (fun wx => cmp_says d[A]! d[F]! wx)
          unfold qV at KC2
          generalize cmpQ d[A]!.1 d[F]!.1 = e at *
          by_cases he : e < 0
          · rw [if_pos he] at HE
            have HE := Lib.hid HE
            have QQ2 := Lib.hid (And.intro (And.intro (R2.out.c0 (A) (by have := HZ.out; omega)) (R2.out.c1 (A) (by have := HZ.out; omega))) (And.intro (R2.out.c0 (F) (by have := HZ.out; omega)) (R2.out.c1 (F) (by have := HZ.out; omega))))
            go_region_held3 (fun w' => (w'.cell? ⟨g, (A) * 2, none⟩ = some (.int .i64 (d[A]!.1.1 : Nat)) ∧ w'.cell? ⟨g, (A) * 2 + 1, none⟩ = some (.int .i64 (d[A]!.1.2 : Nat))) ∧ (w'.cell? ⟨g, (F) * 2, none⟩ = some (.int .i64 (d[F]!.1.1 : Nat)) ∧ w'.cell? ⟨g, (F) * 2 + 1, none⟩ = some (.int .i64 (d[F]!.1.2 : Nat))))
              (first
                | exact QQ2.out
                | exact Q4.out)
              (first
                | (go_at_call 37; refine (KC2.out _).mono ?_; rintro e w3 ⟨rfl, hs⟩; have R4 := Lib.hid (R2.out.drew.since hs); have Q4 := Lib.hid (And.intro (And.intro (R4.out.c0 (A) (by have := HZ.out; omega)) (R4.out.c1 (A) (by have := HZ.out; omega))) (And.intro (R4.out.c0 (F) (by have := HZ.out; omega)) (R4.out.c1 (F) (by have := HZ.out; omega)))); clear hs))
            go_wp2_with fail
            have n1 : ∀ (W : World) v, (W.setCell ⟨g, (A) * 2, none⟩ v).cell? ⟨g, (F) * 2, none⟩ = W.cell? ⟨g, (F) * 2, none⟩ := fun W v => cell_apart W g _ _ v (by omega)
            have n2 : ∀ (W : World) v, (W.setCell ⟨g, (A) * 2 + 1, none⟩ v).cell? ⟨g, (F) * 2, none⟩ = W.cell? ⟨g, (F) * 2, none⟩ := fun W v => cell_apart W g _ _ v (by omega)
            have n3 : ∀ (W : World) v, (W.setCell ⟨g, (A) * 2, none⟩ v).cell? ⟨g, (F) * 2 + 1, none⟩ = W.cell? ⟨g, (F) * 2 + 1, none⟩ := fun W v => cell_apart W g _ _ v (by omega)
            have n4 : ∀ (W : World) v, (W.setCell ⟨g, (A) * 2 + 1, none⟩ v).cell? ⟨g, (F) * 2 + 1, none⟩ = W.cell? ⟨g, (F) * 2 + 1, none⟩ := fun W v => cell_apart W g _ _ v (by omega)
            have QS := Lib.hid (And.intro (And.intro (R4.out.c0 (A) (by have := HZ.out; omega)) (R4.out.c1 (A) (by have := HZ.out; omega))) (And.intro (R4.out.c0 (F) (by have := HZ.out; omega)) (R4.out.c1 (F) (by have := HZ.out; omega))))
            have k0 := QS.out.1.1
            have k1 := QS.out.1.2
            have k2 := QS.out.2.1
            have k3 := QS.out.2.2
            have f0 := R4.out.fz ((A) * 2)
            have f1 := R4.out.fz ((A) * 2 + 1)
            have f2 := R4.out.fz ((F) * 2)
            have f3 := R4.out.fz ((F) * 2 + 1)
            refine wp_region_free (fun w' => (w'.cell? ⟨g, (A) * 2, none⟩ = some (.int .i64 (d[A]!.1.1 : Nat)) ∧ w'.cell? ⟨g, (A) * 2 + 1, none⟩ = some (.int .i64 (d[A]!.1.2 : Nat))) ∧ (w'.cell? ⟨g, (F) * 2, none⟩ = some (.int .i64 (d[F]!.1.1 : Nat)) ∧ w'.cell? ⟨g, (F) * 2 + 1, none⟩ = some (.int .i64 (d[F]!.1.2 : Nat)))) [21, 23] (by kernel_rfl) QS.out (fun hSL => ?_)
            refine wpAnyFree_free 0 (v := ?_) rfl (by kernel_rfl) (by kernel_rfl) (by kernel_rfl) (fun _ _ _ h => h) (by rfl) (fun w' => ?_) ?_
            rotate_left
            · go_simp
              all_goals rfl
            try simp only [Act.put]
            try simp only [List.setIfInBounds_toArray]
            try simp only [List.set_cons_succ, List.set_cons_zero]
            refine wpAnyFree_free 1 (v := ?_) rfl (by kernel_rfl) (by kernel_rfl) (by kernel_rfl) (fun _ _ _ h => h) (by rfl) (fun w' => ?_) ?_
            rotate_left
            · go_simp
              all_goals rfl
            try simp only [Act.put]
            try simp only [List.setIfInBounds_toArray]
            try simp only [List.set_cons_succ, List.set_cons_zero]
            refine wpAnyFree_free 2 (v := ?_) rfl (by kernel_rfl) (by kernel_rfl) (by kernel_rfl) (fun _ _ _ h => h) (by rfl) (fun w' => ?_) ?_
            rotate_left
            · go_simp
              all_goals rfl
            try simp only [Act.put]
            try simp only [List.setIfInBounds_toArray]
            try simp only [List.set_cons_succ, List.set_cons_zero]
            refine wpAnyFree_free 3 (v := ?_) rfl (by kernel_rfl) (by kernel_rfl) (by kernel_rfl) (fun _ _ _ h => h) (by rfl) (fun w' => ?_) ?_
            rotate_left
            · go_simp
              all_goals rfl
            try simp only [Act.put]
            try simp only [List.setIfInBounds_toArray]
            try simp only [List.set_cons_succ, List.set_cons_zero]
            refine wpAnyFree_free 4 (v := ?_) rfl (by kernel_rfl) (by kernel_rfl) (by kernel_rfl) (fun _ _ _ h => h) (by rfl) (fun w' => ?_) ?_
            rotate_left
            · go_simp
              all_goals rfl
            try simp only [Act.put]
            try simp only [List.setIfInBounds_toArray]
            try simp only [List.set_cons_succ, List.set_cons_zero]
            refine wpAnyFree_free 5 (v := ?_) rfl (by kernel_rfl) (by kernel_rfl) (by kernel_rfl) (fun _ _ _ h => h) (by rfl) (fun w' => ?_) ?_
            rotate_left
            · go_simp
              all_goals rfl
            try simp only [Act.put]
            try simp only [List.setIfInBounds_toArray]
            try simp only [List.set_cons_succ, List.set_cons_zero]
            refine wpAnyFree_free 6 (v := ?_) rfl (by kernel_rfl) (by kernel_rfl) (by kernel_rfl) (fun _ _ _ h => h) (by rfl) (fun w' => ?_) ?_
            rotate_left
            · go_simp
              all_goals rfl
            try simp only [Act.put]
            try simp only [List.setIfInBounds_toArray]
            try simp only [List.set_cons_succ, List.set_cons_zero]
            refine wpAnyFree_free 7 (v := ?_) rfl (by kernel_rfl) (by kernel_rfl) (by kernel_rfl) (fun _ _ _ h => h) (by rfl) (fun w' => ?_) ?_
            rotate_left
            · go_simp
              all_goals rfl
            try simp only [Act.put]
            try simp only [List.setIfInBounds_toArray]
            try simp only [List.set_cons_succ, List.set_cons_zero]
            refine wpAnyFree_free 8 (v := ?_) rfl (by kernel_rfl) (by kernel_rfl) (by kernel_rfl) (fun _ _ _ h => h) (by rfl) (fun w' => ?_) ?_
            rotate_left
            · go_simp
              all_goals rfl
            try simp only [Act.put]
            try simp only [List.setIfInBounds_toArray]
            try simp only [List.set_cons_succ, List.set_cons_zero]
            refine wpAnyFree_free 9 (v := ?_) rfl (by kernel_rfl) (by kernel_rfl) (by kernel_rfl) (fun _ _ _ h => h) (by rfl) (fun w' => ?_) ?_
            rotate_left
            · go_simp
              all_goals rfl
            try simp only [Act.put]
            try simp only [List.setIfInBounds_toArray]
            try simp only [List.set_cons_succ, List.set_cons_zero]
            refine wpAnyFree_free 10 (v := ?_) rfl (by kernel_rfl) (by kernel_rfl) (by kernel_rfl) (fun _ _ _ h => h) (by rfl) (fun w' => ?_) ?_
            rotate_left
            · go_simp
              all_goals rfl
            try simp only [Act.put]
            try simp only [List.setIfInBounds_toArray]
            try simp only [List.set_cons_succ, List.set_cons_zero]
            refine wpAnyFree_free 11 (v := ?_) rfl (by kernel_rfl) (by kernel_rfl) (by kernel_rfl) (fun _ _ _ h => h) (by rfl) (fun w' => ?_) ?_
            rotate_left
            · go_simp
              all_goals rfl
            try simp only [Act.put]
            try simp only [List.setIfInBounds_toArray]
            try simp only [List.set_cons_succ, List.set_cons_zero]
            refine wpAnyFree_free 12 (v := ?_) rfl (by kernel_rfl) (by kernel_rfl) (by kernel_rfl) (fun _ _ _ h => h) (by rfl) (fun w' => ?_) ?_
            rotate_left
            · go_simp
              all_goals rfl
            try simp only [Act.put]
            try simp only [List.setIfInBounds_toArray]
            try simp only [List.set_cons_succ, List.set_cons_zero]
            refine wpAnyFree_take 13 (v := ?_) rfl (by kernel_rfl) (by kernel_rfl) (by kernel_rfl) (by kernel_rfl) (by kernel_rfl) (fun _ _ _ h => h) hSL (by rfl) (fun w' hw' => ?_) ?_
            rotate_left
            · obtain ⟨⟨g0, g1⟩, g2, g3⟩ := hw'
              go_simp
              all_goals rfl
            try simp only [Act.put]
            try simp only [List.setIfInBounds_toArray]
            try simp only [List.set_cons_succ, List.set_cons_zero]
            refine wpAnyFree_free 14 (v := ?_) rfl (by kernel_rfl) (by kernel_rfl) (by kernel_rfl) (fun _ _ _ h => h) (by rfl) (fun w' => ?_) ?_
            rotate_left
            · go_simp
              all_goals rfl
            try simp only [Act.put]
            try simp only [List.setIfInBounds_toArray]
            try simp only [List.set_cons_succ, List.set_cons_zero]
            refine wpAnyFree_free 15 (v := ?_) rfl (by kernel_rfl) (by kernel_rfl) (by kernel_rfl) (fun _ _ _ h => h) (by rfl) (fun w' => ?_) ?_
            rotate_left
            · go_simp
              all_goals rfl
            try simp only [Act.put]
            try simp only [List.setIfInBounds_toArray]
            try simp only [List.set_cons_succ, List.set_cons_zero]
            refine wpAnyFree_free 16 (v := ?_) rfl (by kernel_rfl) (by kernel_rfl) (by kernel_rfl) (fun _ _ _ h => h) (by rfl) (fun w' => ?_) ?_
            rotate_left
            · go_simp
              all_goals rfl
            try simp only [Act.put]
            try simp only [List.setIfInBounds_toArray]
            try simp only [List.set_cons_succ, List.set_cons_zero]
            refine wpAnyFree_free 17 (v := ?_) rfl (by kernel_rfl) (by kernel_rfl) (by kernel_rfl) (fun _ _ _ h => h) (by rfl) (fun w' => ?_) ?_
            rotate_left
            · go_simp
              all_goals rfl
            try simp only [Act.put]
            try simp only [List.setIfInBounds_toArray]
            try simp only [List.set_cons_succ, List.set_cons_zero]
            refine wpAnyFree_free 18 (v := ?_) rfl (by kernel_rfl) (by kernel_rfl) (by kernel_rfl) (fun _ _ _ h => h) (by rfl) (fun w' => ?_) ?_
            rotate_left
            · go_simp
              all_goals rfl
            try simp only [Act.put]
            try simp only [List.setIfInBounds_toArray]
            try simp only [List.set_cons_succ, List.set_cons_zero]
            refine wpAnyFree_take 19 (v := ?_) rfl (by kernel_rfl) (by kernel_rfl) (by kernel_rfl) (by kernel_rfl) (by kernel_rfl) (fun _ _ _ h => h) hSL (by rfl) (fun w' hw' => ?_) ?_
            rotate_left
            · obtain ⟨⟨g0, g1⟩, g2, g3⟩ := hw'
              go_simp
              all_goals rfl
            try simp only [Act.put]
            try simp only [List.setIfInBounds_toArray]
            try simp only [List.set_cons_succ, List.set_cons_zero]
            refine wpAnyFree_free 20 (v := ?_) rfl (by kernel_rfl) (by kernel_rfl) (by kernel_rfl) (fun _ _ _ h => h) (by rfl) (fun w' => ?_) ?_
            rotate_left
            · go_simp
              all_goals rfl
            try simp only [Act.put]
            try simp only [List.setIfInBounds_toArray]
            try simp only [List.set_cons_succ, List.set_cons_zero]
            refine wpAnyFree_late 21 (by kernel_rfl) (by kernel_rfl) rfl (by rfl) (fun K hK => ?_)
            go_simp
            refine hK.out _ _ ?_
            clear hK K
            try simp only [Act.put]
            try simp only [List.setIfInBounds_toArray]
            try simp only [List.set_cons_succ, List.set_cons_zero]
            refine wpAnyFree_free 22 (v := ?_) rfl (by kernel_rfl) (by kernel_rfl) (by kernel_rfl) (fun _ _ _ h => h) (by rfl) (fun w' => ?_) ?_
            rotate_left
            · go_simp
              all_goals rfl
            try simp only [Act.put]
            try simp only [List.setIfInBounds_toArray]
            try simp only [List.set_cons_succ, List.set_cons_zero]
            refine wpAnyFree_late 23 (by kernel_rfl) (by kernel_rfl) rfl (by rfl) (fun K hK => ?_)
            go_simp
            refine hK.out _ _ ?_
            clear hK K
            try simp only [Act.put]
            try simp only [List.setIfInBounds_toArray]
            try simp only [List.set_cons_succ, List.set_cons_zero]
            refine wpAnyFree_done (by kernel_rfl) ?_ _
            have R5 : Hid (RowQ w0 g (swp d (A) (F)) (swpW w3 g (A) (F) d[F]! d[A]!).drew) := Lib.hid ((R4.out.swap (i := A) (j := F) (by have := HZ.out; omega) (by have := HZ.out; omega)).drew)
            clear n1 n2 n3 n4 k0 k1 k2 k3 f0 f1 f2 f3 hSL QS
            go_wp2_with fail
            go_roundg (hi - C)
            case measure => omega
            case rel => exact ⟨C, swp d A F, by omega, rfl, by first | rfl | go_num, Lib.hid ((size_swp d _ _).trans HZ.out), HE, R5⟩
          · rw [if_neg he] at HE
            have HE := Lib.hid HE
            have hei : 0 ≤ e := by omega
            have heb : decide (e < 0) = false := decide_eq_false he
            have QQ2 := Lib.hid (And.intro (And.intro (R2.out.c0 (A) (by have := HZ.out; omega)) (R2.out.c1 (A) (by have := HZ.out; omega))) (And.intro (R2.out.c0 (F) (by have := HZ.out; omega)) (R2.out.c1 (F) (by have := HZ.out; omega))))
            go_region_held3 (fun w' => (w'.cell? ⟨g, (A) * 2, none⟩ = some (.int .i64 (d[A]!.1.1 : Nat)) ∧ w'.cell? ⟨g, (A) * 2 + 1, none⟩ = some (.int .i64 (d[A]!.1.2 : Nat))) ∧ (w'.cell? ⟨g, (F) * 2, none⟩ = some (.int .i64 (d[F]!.1.1 : Nat)) ∧ w'.cell? ⟨g, (F) * 2 + 1, none⟩ = some (.int .i64 (d[F]!.1.2 : Nat))))
              (first
                | exact QQ2.out
                | exact Q4.out)
              (first
                | (go_at_call 37; refine (KC2.out _).mono ?_; rintro e w3 ⟨rfl, hs⟩; have R4 := Lib.hid (R2.out.drew.since hs); have Q4 := Lib.hid (And.intro (And.intro (R4.out.c0 (A) (by have := HZ.out; omega)) (R4.out.c1 (A) (by have := HZ.out; omega))) (And.intro (R4.out.c0 (F) (by have := HZ.out; omega)) (R4.out.c1 (F) (by have := HZ.out; omega)))); clear hs))
            go_wp2_with fail
            go_end0
            exact ⟨rfl, by rw [HE.out]; exact R4.out⟩
        · have hci : 0 ≤ c := by omega
          have HE0 := HT0.out hc
          clear HT1 HT0
          have QQ := Lib.hid (And.intro (And.intro (hR.out.c0 (F1) (by have := HZ.out; omega)) (hR.out.c1 (F1) (by have := HZ.out; omega))) (And.intro (hR.out.c0 (F2) (by have := HZ.out; omega)) (hR.out.c1 (F2) (by have := HZ.out; omega))))
          go_region_held3 (fun w' => (w'.cell? ⟨g, (F1) * 2, none⟩ = some (.int .i64 (d[F1]!.1.1 : Nat)) ∧ w'.cell? ⟨g, (F1) * 2 + 1, none⟩ = some (.int .i64 (d[F1]!.1.2 : Nat))) ∧ (w'.cell? ⟨g, (F2) * 2, none⟩ = some (.int .i64 (d[F2]!.1.1 : Nat)) ∧ w'.cell? ⟨g, (F2) * 2 + 1, none⟩ = some (.int .i64 (d[F2]!.1.2 : Nat))))
            (first
              | exact QQ.out
              | exact Q2.out)
            (first
              | (go_at_call 37; refine (KC.out _).mono ?_; rintro e w2 ⟨rfl, hs⟩; have R2 := Lib.hid (hR.out.drew.since hs); have Q2 := Lib.hid (And.intro (And.intro (R2.out.c0 (F1) (by have := HZ.out; omega)) (R2.out.c1 (F1) (by have := HZ.out; omega))) (And.intro (R2.out.c0 (F2) (by have := HZ.out; omega)) (R2.out.c1 (F2) (by have := HZ.out; omega)))); clear hs))
          go_wp2_with fail
          obtain ⟨C, hCC⟩ : ∃ C, C = P := ⟨_, rfl⟩
          rw [← hCC] at z1 ⊢
          have hC2 : C = 2 * R + 1 := by have := HP.out; omega
          obtain ⟨F, hFF⟩ : ∃ F, F = F1 := ⟨_, rfl⟩
          rw [← hFF] at z1 y1 y1b
          have HE : D = if cmpQ d[A]!.1 d[F]!.1 < 0 then siftDown ltQ hi first C (swp d A F) else d := by rw [hT.out, HE0, hFF, hC2]; have h := HF.out; have h2 := HP.out; rw [show first + (2 * R + 1) = F1 by omega, ← h.2.2]
          have hne : A ≠ F := by have h := HF.out; have h2 := HP.out; omega
          have hlt2 : C ≤ hi ∧ R < C := by omega
          clear HE0 hFF hCC hC2 z2 z3 z5 hBi
          have KC2 := Lib.hid (fun wx => cmp_says d[A]! d[F]! wx)
          unfold qV at KC2
          generalize cmpQ d[A]!.1 d[F]!.1 = e at *
          by_cases he : e < 0
          · rw [if_pos he] at HE
            have HE := Lib.hid HE
            have QQ2 := Lib.hid (And.intro (And.intro (R2.out.c0 (A) (by have := HZ.out; omega)) (R2.out.c1 (A) (by have := HZ.out; omega))) (And.intro (R2.out.c0 (F) (by have := HZ.out; omega)) (R2.out.c1 (F) (by have := HZ.out; omega))))
            go_region_held3 (fun w' => (w'.cell? ⟨g, (A) * 2, none⟩ = some (.int .i64 (d[A]!.1.1 : Nat)) ∧ w'.cell? ⟨g, (A) * 2 + 1, none⟩ = some (.int .i64 (d[A]!.1.2 : Nat))) ∧ (w'.cell? ⟨g, (F) * 2, none⟩ = some (.int .i64 (d[F]!.1.1 : Nat)) ∧ w'.cell? ⟨g, (F) * 2 + 1, none⟩ = some (.int .i64 (d[F]!.1.2 : Nat))))
              (first
                | exact QQ2.out
                | exact Q4.out)
              (first
                | (go_at_call 37; refine (KC2.out _).mono ?_; rintro e w3 ⟨rfl, hs⟩; have R4 := Lib.hid (R2.out.drew.since hs); have Q4 := Lib.hid (And.intro (And.intro (R4.out.c0 (A) (by have := HZ.out; omega)) (R4.out.c1 (A) (by have := HZ.out; omega))) (And.intro (R4.out.c0 (F) (by have := HZ.out; omega)) (R4.out.c1 (F) (by have := HZ.out; omega)))); clear hs))
            go_wp2_with fail
            have n1 : ∀ (W : World) v, (W.setCell ⟨g, (A) * 2, none⟩ v).cell? ⟨g, (F) * 2, none⟩ = W.cell? ⟨g, (F) * 2, none⟩ := fun W v => cell_apart W g _ _ v (by omega)
            have n2 : ∀ (W : World) v, (W.setCell ⟨g, (A) * 2 + 1, none⟩ v).cell? ⟨g, (F) * 2, none⟩ = W.cell? ⟨g, (F) * 2, none⟩ := fun W v => cell_apart W g _ _ v (by omega)
            have n3 : ∀ (W : World) v, (W.setCell ⟨g, (A) * 2, none⟩ v).cell? ⟨g, (F) * 2 + 1, none⟩ = W.cell? ⟨g, (F) * 2 + 1, none⟩ := fun W v => cell_apart W g _ _ v (by omega)
            have n4 : ∀ (W : World) v, (W.setCell ⟨g, (A) * 2 + 1, none⟩ v).cell? ⟨g, (F) * 2 + 1, none⟩ = W.cell? ⟨g, (F) * 2 + 1, none⟩ := fun W v => cell_apart W g _ _ v (by omega)
            have QS := Lib.hid (And.intro (And.intro (R4.out.c0 (A) (by have := HZ.out; omega)) (R4.out.c1 (A) (by have := HZ.out; omega))) (And.intro (R4.out.c0 (F) (by have := HZ.out; omega)) (R4.out.c1 (F) (by have := HZ.out; omega))))
            have k0 := QS.out.1.1
            have k1 := QS.out.1.2
            have k2 := QS.out.2.1
            have k3 := QS.out.2.2
            have f0 := R4.out.fz ((A) * 2)
            have f1 := R4.out.fz ((A) * 2 + 1)
            have f2 := R4.out.fz ((F) * 2)
            have f3 := R4.out.fz ((F) * 2 + 1)
            refine wp_region_free (fun w' => (w'.cell? ⟨g, (A) * 2, none⟩ = some (.int .i64 (d[A]!.1.1 : Nat)) ∧ w'.cell? ⟨g, (A) * 2 + 1, none⟩ = some (.int .i64 (d[A]!.1.2 : Nat))) ∧ (w'.cell? ⟨g, (F) * 2, none⟩ = some (.int .i64 (d[F]!.1.1 : Nat)) ∧ w'.cell? ⟨g, (F) * 2 + 1, none⟩ = some (.int .i64 (d[F]!.1.2 : Nat)))) [21, 23] (by kernel_rfl) QS.out (fun hSL => ?_)
            refine wpAnyFree_free 0 (v := ?_) rfl (by kernel_rfl) (by kernel_rfl) (by kernel_rfl) (fun _ _ _ h => h) (by rfl) (fun w' => ?_) ?_
            rotate_left
            · go_simp
              all_goals rfl
            try simp only [Act.put]
            try simp only [List.setIfInBounds_toArray]
            try simp only [List.set_cons_succ, List.set_cons_zero]
            refine wpAnyFree_free 1 (v := ?_) rfl (by kernel_rfl) (by kernel_rfl) (by kernel_rfl) (fun _ _ _ h => h) (by rfl) (fun w' => ?_) ?_
            rotate_left
            · go_simp
              all_goals rfl
            try simp only [Act.put]
            try simp only [List.setIfInBounds_toArray]
            try simp only [List.set_cons_succ, List.set_cons_zero]
            refine wpAnyFree_free 2 (v := ?_) rfl (by kernel_rfl) (by kernel_rfl) (by kernel_rfl) (fun _ _ _ h => h) (by rfl) (fun w' => ?_) ?_
            rotate_left
            · go_simp
              all_goals rfl
            try simp only [Act.put]
            try simp only [List.setIfInBounds_toArray]
            try simp only [List.set_cons_succ, List.set_cons_zero]
            refine wpAnyFree_free 3 (v := ?_) rfl (by kernel_rfl) (by kernel_rfl) (by kernel_rfl) (fun _ _ _ h => h) (by rfl) (fun w' => ?_) ?_
            rotate_left
            · go_simp
              all_goals rfl
            try simp only [Act.put]
            try simp only [List.setIfInBounds_toArray]
            try simp only [List.set_cons_succ, List.set_cons_zero]
            refine wpAnyFree_free 4 (v := ?_) rfl (by kernel_rfl) (by kernel_rfl) (by kernel_rfl) (fun _ _ _ h => h) (by rfl) (fun w' => ?_) ?_
            rotate_left
            · go_simp
              all_goals rfl
            try simp only [Act.put]
            try simp only [List.setIfInBounds_toArray]
            try simp only [List.set_cons_succ, List.set_cons_zero]
            refine wpAnyFree_free 5 (v := ?_) rfl (by kernel_rfl) (by kernel_rfl) (by kernel_rfl) (fun _ _ _ h => h) (by rfl) (fun w' => ?_) ?_
            rotate_left
            · go_simp
              all_goals rfl
            try simp only [Act.put]
            try simp only [List.setIfInBounds_toArray]
            try simp only [List.set_cons_succ, List.set_cons_zero]
            refine wpAnyFree_free 6 (v := ?_) rfl (by kernel_rfl) (by kernel_rfl) (by kernel_rfl) (fun _ _ _ h => h) (by rfl) (fun w' => ?_) ?_
            rotate_left
            · go_simp
              all_goals rfl
            try simp only [Act.put]
            try simp only [List.setIfInBounds_toArray]
            try simp only [List.set_cons_succ, List.set_cons_zero]
            refine wpAnyFree_free 7 (v := ?_) rfl (by kernel_rfl) (by kernel_rfl) (by kernel_rfl) (fun _ _ _ h => h) (by rfl) (fun w' => ?_) ?_
            rotate_left
            · go_simp
              all_goals rfl
            try simp only [Act.put]
            try simp only [List.setIfInBounds_toArray]
            try simp only [List.set_cons_succ, List.set_cons_zero]
            refine wpAnyFree_free 8 (v := ?_) rfl (by kernel_rfl) (by kernel_rfl) (by kernel_rfl) (fun _ _ _ h => h) (by rfl) (fun w' => ?_) ?_
            rotate_left
            · go_simp
              all_goals rfl
            try simp only [Act.put]
            try simp only [List.setIfInBounds_toArray]
            try simp only [List.set_cons_succ, List.set_cons_zero]
            refine wpAnyFree_free 9 (v := ?_) rfl (by kernel_rfl) (by kernel_rfl) (by kernel_rfl) (fun _ _ _ h => h) (by rfl) (fun w' => ?_) ?_
            rotate_left
            · go_simp
              all_goals rfl
            try simp only [Act.put]
            try simp only [List.setIfInBounds_toArray]
            try simp only [List.set_cons_succ, List.set_cons_zero]
            refine wpAnyFree_free 10 (v := ?_) rfl (by kernel_rfl) (by kernel_rfl) (by kernel_rfl) (fun _ _ _ h => h) (by rfl) (fun w' => ?_) ?_
            rotate_left
            · go_simp
              all_goals rfl
            try simp only [Act.put]
            try simp only [List.setIfInBounds_toArray]
            try simp only [List.set_cons_succ, List.set_cons_zero]
            refine wpAnyFree_free 11 (v := ?_) rfl (by kernel_rfl) (by kernel_rfl) (by kernel_rfl) (fun _ _ _ h => h) (by rfl) (fun w' => ?_) ?_
            rotate_left
            · go_simp
              all_goals rfl
            try simp only [Act.put]
            try simp only [List.setIfInBounds_toArray]
            try simp only [List.set_cons_succ, List.set_cons_zero]
            refine wpAnyFree_free 12 (v := ?_) rfl (by kernel_rfl) (by kernel_rfl) (by kernel_rfl) (fun _ _ _ h => h) (by rfl) (fun w' => ?_) ?_
            rotate_left
            · go_simp
              all_goals rfl
            try simp only [Act.put]
            try simp only [List.setIfInBounds_toArray]
            try simp only [List.set_cons_succ, List.set_cons_zero]
            refine wpAnyFree_take 13 (v := ?_) rfl (by kernel_rfl) (by kernel_rfl) (by kernel_rfl) (by kernel_rfl) (by kernel_rfl) (fun _ _ _ h => h) hSL (by rfl) (fun w' hw' => ?_) ?_
            rotate_left
            · obtain ⟨⟨g0, g1⟩, g2, g3⟩ := hw'
              go_simp
              all_goals rfl
            try simp only [Act.put]
            try simp only [List.setIfInBounds_toArray]
            try simp only [List.set_cons_succ, List.set_cons_zero]
            refine wpAnyFree_free 14 (v := ?_) rfl (by kernel_rfl) (by kernel_rfl) (by kernel_rfl) (fun _ _ _ h => h) (by rfl) (fun w' => ?_) ?_
            rotate_left
            · go_simp
              all_goals rfl
            try simp only [Act.put]
            try simp only [List.setIfInBounds_toArray]
            try simp only [List.set_cons_succ, List.set_cons_zero]
            refine wpAnyFree_free 15 (v := ?_) rfl (by kernel_rfl) (by kernel_rfl) (by kernel_rfl) (fun _ _ _ h => h) (by rfl) (fun w' => ?_) ?_
            rotate_left
            · go_simp
              all_goals rfl
            try simp only [Act.put]
            try simp only [List.setIfInBounds_toArray]
            try simp only [List.set_cons_succ, List.set_cons_zero]
            refine wpAnyFree_free 16 (v := ?_) rfl (by kernel_rfl) (by kernel_rfl) (by kernel_rfl) (fun _ _ _ h => h) (by rfl) (fun w' => ?_) ?_
            rotate_left
            · go_simp
              all_goals rfl
            try simp only [Act.put]
            try simp only [List.setIfInBounds_toArray]
            try simp only [List.set_cons_succ, List.set_cons_zero]
            refine wpAnyFree_free 17 (v := ?_) rfl (by kernel_rfl) (by kernel_rfl) (by kernel_rfl) (fun _ _ _ h => h) (by rfl) (fun w' => ?_) ?_
            rotate_left
            · go_simp
              all_goals rfl
            try simp only [Act.put]
            try simp only [List.setIfInBounds_toArray]
            try simp only [List.set_cons_succ, List.set_cons_zero]
            refine wpAnyFree_free 18 (v := ?_) rfl (by kernel_rfl) (by kernel_rfl) (by kernel_rfl) (fun _ _ _ h => h) (by rfl) (fun w' => ?_) ?_
            rotate_left
            · go_simp
              all_goals rfl
            try simp only [Act.put]
            try simp only [List.setIfInBounds_toArray]
            try simp only [List.set_cons_succ, List.set_cons_zero]
            refine wpAnyFree_take 19 (v := ?_) rfl (by kernel_rfl) (by kernel_rfl) (by kernel_rfl) (by kernel_rfl) (by kernel_rfl) (fun _ _ _ h => h) hSL (by rfl) (fun w' hw' => ?_) ?_
            rotate_left
            · obtain ⟨⟨g0, g1⟩, g2, g3⟩ := hw'
              go_simp
              all_goals rfl
            try simp only [Act.put]
            try simp only [List.setIfInBounds_toArray]
            try simp only [List.set_cons_succ, List.set_cons_zero]
            refine wpAnyFree_free 20 (v := ?_) rfl (by kernel_rfl) (by kernel_rfl) (by kernel_rfl) (fun _ _ _ h => h) (by rfl) (fun w' => ?_) ?_
            rotate_left
            · go_simp
              all_goals rfl
            try simp only [Act.put]
            try simp only [List.setIfInBounds_toArray]
            try simp only [List.set_cons_succ, List.set_cons_zero]
            refine wpAnyFree_late 21 (by kernel_rfl) (by kernel_rfl) rfl (by rfl) (fun K hK => ?_)
            go_simp
            refine hK.out _ _ ?_
            clear hK K
            try simp only [Act.put]
            try simp only [List.setIfInBounds_toArray]
            try simp only [List.set_cons_succ, List.set_cons_zero]
            refine wpAnyFree_free 22 (v := ?_) rfl (by kernel_rfl) (by kernel_rfl) (by kernel_rfl) (fun _ _ _ h => h) (by rfl) (fun w' => ?_) ?_
            rotate_left
            · go_simp
              all_goals rfl
            try simp only [Act.put]
            try simp only [List.setIfInBounds_toArray]
            try simp only [List.set_cons_succ, List.set_cons_zero]
            refine wpAnyFree_late 23 (by kernel_rfl) (by kernel_rfl) rfl (by rfl) (fun K hK => ?_)
            go_simp
            refine hK.out _ _ ?_
            clear hK K
            try simp only [Act.put]
            try simp only [List.setIfInBounds_toArray]
            try simp only [List.set_cons_succ, List.set_cons_zero]
            refine wpAnyFree_done (by kernel_rfl) ?_ _
            have R5 : Hid (RowQ w0 g (swp d (A) (F)) (swpW w3 g (A) (F) d[F]! d[A]!).drew) := Lib.hid ((R4.out.swap (i := A) (j := F) (by have := HZ.out; omega) (by have := HZ.out; omega)).drew)
            clear n1 n2 n3 n4 k0 k1 k2 k3 f0 f1 f2 f3 hSL QS
            go_wp2_with fail
            go_roundg (hi - C)
            case measure => omega
            case rel => exact ⟨C, swp d A F, by omega, rfl, by first | rfl | go_num, Lib.hid ((size_swp d _ _).trans HZ.out), HE, R5⟩
          · rw [if_neg he] at HE
            have HE := Lib.hid HE
            have hei : 0 ≤ e := by omega
            have heb : decide (e < 0) = false := decide_eq_false he
            have QQ2 := Lib.hid (And.intro (And.intro (R2.out.c0 (A) (by have := HZ.out; omega)) (R2.out.c1 (A) (by have := HZ.out; omega))) (And.intro (R2.out.c0 (F) (by have := HZ.out; omega)) (R2.out.c1 (F) (by have := HZ.out; omega))))
            go_region_held3 (fun w' => (w'.cell? ⟨g, (A) * 2, none⟩ = some (.int .i64 (d[A]!.1.1 : Nat)) ∧ w'.cell? ⟨g, (A) * 2 + 1, none⟩ = some (.int .i64 (d[A]!.1.2 : Nat))) ∧ (w'.cell? ⟨g, (F) * 2, none⟩ = some (.int .i64 (d[F]!.1.1 : Nat)) ∧ w'.cell? ⟨g, (F) * 2 + 1, none⟩ = some (.int .i64 (d[F]!.1.2 : Nat))))
              (first
                | exact QQ2.out
                | exact Q4.out)
              (first
                | (go_at_call 37; refine (KC2.out _).mono ?_; rintro e w3 ⟨rfl, hs⟩; have R4 := Lib.hid (R2.out.drew.since hs); have Q4 := Lib.hid (And.intro (And.intro (R4.out.c0 (A) (by have := HZ.out; omega)) (R4.out.c1 (A) (by have := HZ.out; omega))) (And.intro (R4.out.c0 (F) (by have := HZ.out; omega)) (R4.out.c1 (F) (by have := HZ.out; omega)))); clear hs))
            go_wp2_with fail
            go_end0
            exact ⟨rfl, by rw [HE.out]; exact R4.out⟩
      · have hBi : ¬ ((P : Int) + 1) < (hi : Int) := by have := HP.out; omega
        have hBb : decide (((P : Int) + 1) < (hi : Int)) = false := decide_eq_false hBi
        have HE0 := HT.out (2 * R + 1) (.inr ⟨rfl, fun hh => hB hh.1⟩)
        clear HT
        go_quiet (fail)
        have R2 := Lib.hid (hR.out.since (since_drewN (World.Since.refl wr.heap.size wr) nq))
        go_wp2_with fail
        obtain ⟨C, hCC⟩ : ∃ C, C = P := ⟨_, rfl⟩
        rw [← hCC] at z1 ⊢
        have hC2 : C = 2 * R + 1 := by have := HP.out; omega
        obtain ⟨F, hFF⟩ : ∃ F, F = F1 := ⟨_, rfl⟩
        rw [← hFF] at z1 y1 y1b
        have HE : D = if cmpQ d[A]!.1 d[F]!.1 < 0 then siftDown ltQ hi first C (swp d A F) else d := by rw [hT.out, HE0, hFF, hC2]; have h := HF.out; have h2 := HP.out; rw [show first + (2 * R + 1) = F1 by omega, ← h.2.2]
        have hne : A ≠ F := by have h := HF.out; have h2 := HP.out; omega
        have hlt2 : C ≤ hi ∧ R < C := by omega
        clear HE0 hFF hCC hC2 z2 z3 z5 hBi hBb
        have KC2 := Lib.hid (fun wx => cmp_says d[A]! d[F]! wx)
        unfold qV at KC2
        generalize cmpQ d[A]!.1 d[F]!.1 = e at *
        by_cases he : e < 0
        · rw [if_pos he] at HE
          have HE := Lib.hid HE
          have QQ2 := Lib.hid (And.intro (And.intro (R2.out.c0 (A) (by have := HZ.out; omega)) (R2.out.c1 (A) (by have := HZ.out; omega))) (And.intro (R2.out.c0 (F) (by have := HZ.out; omega)) (R2.out.c1 (F) (by have := HZ.out; omega))))
          go_region_held3 (fun w' => (w'.cell? ⟨g, (A) * 2, none⟩ = some (.int .i64 (d[A]!.1.1 : Nat)) ∧ w'.cell? ⟨g, (A) * 2 + 1, none⟩ = some (.int .i64 (d[A]!.1.2 : Nat))) ∧ (w'.cell? ⟨g, (F) * 2, none⟩ = some (.int .i64 (d[F]!.1.1 : Nat)) ∧ w'.cell? ⟨g, (F) * 2 + 1, none⟩ = some (.int .i64 (d[F]!.1.2 : Nat))))
            (first
              | exact QQ2.out
              | exact Q4.out)
            (first
              | (go_at_call 37; refine (KC2.out _).mono ?_; rintro e w3 ⟨rfl, hs⟩; have R4 := Lib.hid (R2.out.drew.since hs); have Q4 := Lib.hid (And.intro (And.intro (R4.out.c0 (A) (by have := HZ.out; omega)) (R4.out.c1 (A) (by have := HZ.out; omega))) (And.intro (R4.out.c0 (F) (by have := HZ.out; omega)) (R4.out.c1 (F) (by have := HZ.out; omega)))); clear hs))
          go_wp2_with fail
          have n1 : ∀ (W : World) v, (W.setCell ⟨g, (A) * 2, none⟩ v).cell? ⟨g, (F) * 2, none⟩ = W.cell? ⟨g, (F) * 2, none⟩ := fun W v => cell_apart W g _ _ v (by omega)
          have n2 : ∀ (W : World) v, (W.setCell ⟨g, (A) * 2 + 1, none⟩ v).cell? ⟨g, (F) * 2, none⟩ = W.cell? ⟨g, (F) * 2, none⟩ := fun W v => cell_apart W g _ _ v (by omega)
          have n3 : ∀ (W : World) v, (W.setCell ⟨g, (A) * 2, none⟩ v).cell? ⟨g, (F) * 2 + 1, none⟩ = W.cell? ⟨g, (F) * 2 + 1, none⟩ := fun W v => cell_apart W g _ _ v (by omega)
          have n4 : ∀ (W : World) v, (W.setCell ⟨g, (A) * 2 + 1, none⟩ v).cell? ⟨g, (F) * 2 + 1, none⟩ = W.cell? ⟨g, (F) * 2 + 1, none⟩ := fun W v => cell_apart W g _ _ v (by omega)
          have QS := Lib.hid (And.intro (And.intro (R4.out.c0 (A) (by have := HZ.out; omega)) (R4.out.c1 (A) (by have := HZ.out; omega))) (And.intro (R4.out.c0 (F) (by have := HZ.out; omega)) (R4.out.c1 (F) (by have := HZ.out; omega))))
          have k0 := QS.out.1.1
          have k1 := QS.out.1.2
          have k2 := QS.out.2.1
          have k3 := QS.out.2.2
          have f0 := R4.out.fz ((A) * 2)
          have f1 := R4.out.fz ((A) * 2 + 1)
          have f2 := R4.out.fz ((F) * 2)
          have f3 := R4.out.fz ((F) * 2 + 1)
          refine wp_region_free (fun w' => (w'.cell? ⟨g, (A) * 2, none⟩ = some (.int .i64 (d[A]!.1.1 : Nat)) ∧ w'.cell? ⟨g, (A) * 2 + 1, none⟩ = some (.int .i64 (d[A]!.1.2 : Nat))) ∧ (w'.cell? ⟨g, (F) * 2, none⟩ = some (.int .i64 (d[F]!.1.1 : Nat)) ∧ w'.cell? ⟨g, (F) * 2 + 1, none⟩ = some (.int .i64 (d[F]!.1.2 : Nat)))) [21, 23] (by kernel_rfl) QS.out (fun hSL => ?_)
          refine wpAnyFree_free 0 (v := ?_) rfl (by kernel_rfl) (by kernel_rfl) (by kernel_rfl) (fun _ _ _ h => h) (by rfl) (fun w' => ?_) ?_
          rotate_left
          · go_simp
            all_goals rfl
          try simp only [Act.put]
          try simp only [List.setIfInBounds_toArray]
          try simp only [List.set_cons_succ, List.set_cons_zero]
          refine wpAnyFree_free 1 (v := ?_) rfl (by kernel_rfl) (by kernel_rfl) (by kernel_rfl) (fun _ _ _ h => h) (by rfl) (fun w' => ?_) ?_
          rotate_left
          · go_simp
            all_goals rfl
          try simp only [Act.put]
          try simp only [List.setIfInBounds_toArray]
          try simp only [List.set_cons_succ, List.set_cons_zero]
          refine wpAnyFree_free 2 (v := ?_) rfl (by kernel_rfl) (by kernel_rfl) (by kernel_rfl) (fun _ _ _ h => h) (by rfl) (fun w' => ?_) ?_
          rotate_left
          · go_simp
            all_goals rfl
          try simp only [Act.put]
          try simp only [List.setIfInBounds_toArray]
          try simp only [List.set_cons_succ, List.set_cons_zero]
          refine wpAnyFree_free 3 (v := ?_) rfl (by kernel_rfl) (by kernel_rfl) (by kernel_rfl) (fun _ _ _ h => h) (by rfl) (fun w' => ?_) ?_
          rotate_left
          · go_simp
            all_goals rfl
          try simp only [Act.put]
          try simp only [List.setIfInBounds_toArray]
          try simp only [List.set_cons_succ, List.set_cons_zero]
          refine wpAnyFree_free 4 (v := ?_) rfl (by kernel_rfl) (by kernel_rfl) (by kernel_rfl) (fun _ _ _ h => h) (by rfl) (fun w' => ?_) ?_
          rotate_left
          · go_simp
            all_goals rfl
          try simp only [Act.put]
          try simp only [List.setIfInBounds_toArray]
          try simp only [List.set_cons_succ, List.set_cons_zero]
          refine wpAnyFree_free 5 (v := ?_) rfl (by kernel_rfl) (by kernel_rfl) (by kernel_rfl) (fun _ _ _ h => h) (by rfl) (fun w' => ?_) ?_
          rotate_left
          · go_simp
            all_goals rfl
          try simp only [Act.put]
          try simp only [List.setIfInBounds_toArray]
          try simp only [List.set_cons_succ, List.set_cons_zero]
          refine wpAnyFree_free 6 (v := ?_) rfl (by kernel_rfl) (by kernel_rfl) (by kernel_rfl) (fun _ _ _ h => h) (by rfl) (fun w' => ?_) ?_
          rotate_left
          · go_simp
            all_goals rfl
          try simp only [Act.put]
          try simp only [List.setIfInBounds_toArray]
          try simp only [List.set_cons_succ, List.set_cons_zero]
          refine wpAnyFree_free 7 (v := ?_) rfl (by kernel_rfl) (by kernel_rfl) (by kernel_rfl) (fun _ _ _ h => h) (by rfl) (fun w' => ?_) ?_
          rotate_left
          · go_simp
            all_goals rfl
          try simp only [Act.put]
          try simp only [List.setIfInBounds_toArray]
          try simp only [List.set_cons_succ, List.set_cons_zero]
          refine wpAnyFree_free 8 (v := ?_) rfl (by kernel_rfl) (by kernel_rfl) (by kernel_rfl) (fun _ _ _ h => h) (by rfl) (fun w' => ?_) ?_
          rotate_left
          · go_simp
            all_goals rfl
          try simp only [Act.put]
          try simp only [List.setIfInBounds_toArray]
          try simp only [List.set_cons_succ, List.set_cons_zero]
          refine wpAnyFree_free 9 (v := ?_) rfl (by kernel_rfl) (by kernel_rfl) (by kernel_rfl) (fun _ _ _ h => h) (by rfl) (fun w' => ?_) ?_
          rotate_left
          · go_simp
            all_goals rfl
          try simp only [Act.put]
          try simp only [List.setIfInBounds_toArray]
          try simp only [List.set_cons_succ, List.set_cons_zero]
          refine wpAnyFree_free 10 (v := ?_) rfl (by kernel_rfl) (by kernel_rfl) (by kernel_rfl) (fun _ _ _ h => h) (by rfl) (fun w' => ?_) ?_
          rotate_left
          · go_simp
            all_goals rfl
          try simp only [Act.put]
          try simp only [List.setIfInBounds_toArray]
          try simp only [List.set_cons_succ, List.set_cons_zero]
          refine wpAnyFree_free 11 (v := ?_) rfl (by kernel_rfl) (by kernel_rfl) (by kernel_rfl) (fun _ _ _ h => h) (by rfl) (fun w' => ?_) ?_
          rotate_left
          · go_simp
            all_goals rfl
          try simp only [Act.put]
          try simp only [List.setIfInBounds_toArray]
          try simp only [List.set_cons_succ, List.set_cons_zero]
          refine wpAnyFree_free 12 (v := ?_) rfl (by kernel_rfl) (by kernel_rfl) (by kernel_rfl) (fun _ _ _ h => h) (by rfl) (fun w' => ?_) ?_
          rotate_left
          · go_simp
            all_goals rfl
          try simp only [Act.put]
          try simp only [List.setIfInBounds_toArray]
          try simp only [List.set_cons_succ, List.set_cons_zero]
          refine wpAnyFree_take 13 (v := ?_) rfl (by kernel_rfl) (by kernel_rfl) (by kernel_rfl) (by kernel_rfl) (by kernel_rfl) (fun _ _ _ h => h) hSL (by rfl) (fun w' hw' => ?_) ?_
          rotate_left
          · obtain ⟨⟨g0, g1⟩, g2, g3⟩ := hw'
            go_simp
            all_goals rfl
          try simp only [Act.put]
          try simp only [List.setIfInBounds_toArray]
          try simp only [List.set_cons_succ, List.set_cons_zero]
          refine wpAnyFree_free 14 (v := ?_) rfl (by kernel_rfl) (by kernel_rfl) (by kernel_rfl) (fun _ _ _ h => h) (by rfl) (fun w' => ?_) ?_
          rotate_left
          · go_simp
            all_goals rfl
          try simp only [Act.put]
          try simp only [List.setIfInBounds_toArray]
          try simp only [List.set_cons_succ, List.set_cons_zero]
          refine wpAnyFree_free 15 (v := ?_) rfl (by kernel_rfl) (by kernel_rfl) (by kernel_rfl) (fun _ _ _ h => h) (by rfl) (fun w' => ?_) ?_
          rotate_left
          · go_simp
            all_goals rfl
          try simp only [Act.put]
          try simp only [List.setIfInBounds_toArray]
          try simp only [List.set_cons_succ, List.set_cons_zero]
          refine wpAnyFree_free 16 (v := ?_) rfl (by kernel_rfl) (by kernel_rfl) (by kernel_rfl) (fun _ _ _ h => h) (by rfl) (fun w' => ?_) ?_
          rotate_left
          · go_simp
            all_goals rfl
          try simp only [Act.put]
          try simp only [List.setIfInBounds_toArray]
          try simp only [List.set_cons_succ, List.set_cons_zero]
          refine wpAnyFree_free 17 (v := ?_) rfl (by kernel_rfl) (by kernel_rfl) (by kernel_rfl) (fun _ _ _ h => h) (by rfl) (fun w' => ?_) ?_
          rotate_left
          · go_simp
            all_goals rfl
          try simp only [Act.put]
          try simp only [List.setIfInBounds_toArray]
          try simp only [List.set_cons_succ, List.set_cons_zero]
          refine wpAnyFree_free 18 (v := ?_) rfl (by kernel_rfl) (by kernel_rfl) (by kernel_rfl) (fun _ _ _ h => h) (by rfl) (fun w' => ?_) ?_
          rotate_left
          · go_simp
            all_goals rfl
          try simp only [Act.put]
          try simp only [List.setIfInBounds_toArray]
          try simp only [List.set_cons_succ, List.set_cons_zero]
          refine wpAnyFree_take 19 (v := ?_) rfl (by kernel_rfl) (by kernel_rfl) (by kernel_rfl) (by kernel_rfl) (by kernel_rfl) (fun _ _ _ h => h) hSL (by rfl) (fun w' hw' => ?_) ?_
          rotate_left
          · obtain ⟨⟨g0, g1⟩, g2, g3⟩ := hw'
            go_simp
            all_goals rfl
          try simp only [Act.put]
          try simp only [List.setIfInBounds_toArray]
          try simp only [List.set_cons_succ, List.set_cons_zero]
          refine wpAnyFree_free 20 (v := ?_) rfl (by kernel_rfl) (by kernel_rfl) (by kernel_rfl) (fun _ _ _ h => h) (by rfl) (fun w' => ?_) ?_
          rotate_left
          · go_simp
            all_goals rfl
          try simp only [Act.put]
          try simp only [List.setIfInBounds_toArray]
          try simp only [List.set_cons_succ, List.set_cons_zero]
          refine wpAnyFree_late 21 (by kernel_rfl) (by kernel_rfl) rfl (by rfl) (fun K hK => ?_)
          go_simp
          refine hK.out _ _ ?_
          clear hK K
          try simp only [Act.put]
          try simp only [List.setIfInBounds_toArray]
          try simp only [List.set_cons_succ, List.set_cons_zero]
          refine wpAnyFree_free 22 (v := ?_) rfl (by kernel_rfl) (by kernel_rfl) (by kernel_rfl) (fun _ _ _ h => h) (by rfl) (fun w' => ?_) ?_
          rotate_left
          · go_simp
            all_goals rfl
          try simp only [Act.put]
          try simp only [List.setIfInBounds_toArray]
          try simp only [List.set_cons_succ, List.set_cons_zero]
          refine wpAnyFree_late 23 (by kernel_rfl) (by kernel_rfl) rfl (by rfl) (fun K hK => ?_)
          go_simp
          refine hK.out _ _ ?_
          clear hK K
          try simp only [Act.put]
          try simp only [List.setIfInBounds_toArray]
          try simp only [List.set_cons_succ, List.set_cons_zero]
          refine wpAnyFree_done (by kernel_rfl) ?_ _
          have R5 : Hid (RowQ w0 g (swp d (A) (F)) (swpW w3 g (A) (F) d[F]! d[A]!).drew) := Lib.hid ((R4.out.swap (i := A) (j := F) (by have := HZ.out; omega) (by have := HZ.out; omega)).drew)
          clear n1 n2 n3 n4 k0 k1 k2 k3 f0 f1 f2 f3 hSL QS
          go_wp2_with fail
          go_roundg (hi - C)
          case measure => omega
          case rel => exact ⟨C, swp d A F, by omega, rfl, by first | rfl | go_num, Lib.hid ((size_swp d _ _).trans HZ.out), HE, R5⟩
        · rw [if_neg he] at HE
          have HE := Lib.hid HE
          have hei : 0 ≤ e := by omega
          have heb : decide (e < 0) = false := decide_eq_false he
          have QQ2 := Lib.hid (And.intro (And.intro (R2.out.c0 (A) (by have := HZ.out; omega)) (R2.out.c1 (A) (by have := HZ.out; omega))) (And.intro (R2.out.c0 (F) (by have := HZ.out; omega)) (R2.out.c1 (F) (by have := HZ.out; omega))))
          go_region_held3 (fun w' => (w'.cell? ⟨g, (A) * 2, none⟩ = some (.int .i64 (d[A]!.1.1 : Nat)) ∧ w'.cell? ⟨g, (A) * 2 + 1, none⟩ = some (.int .i64 (d[A]!.1.2 : Nat))) ∧ (w'.cell? ⟨g, (F) * 2, none⟩ = some (.int .i64 (d[F]!.1.1 : Nat)) ∧ w'.cell? ⟨g, (F) * 2 + 1, none⟩ = some (.int .i64 (d[F]!.1.2 : Nat))))
            (first
              | exact QQ2.out
              | exact Q4.out)
            (first
              | (go_at_call 37; refine (KC2.out _).mono ?_; rintro e w3 ⟨rfl, hs⟩; have R4 := Lib.hid (R2.out.drew.since hs); have Q4 := Lib.hid (And.intro (And.intro (R4.out.c0 (A) (by have := HZ.out; omega)) (R4.out.c1 (A) (by have := HZ.out; omega))) (And.intro (R4.out.c0 (F) (by have := HZ.out; omega)) (R4.out.c1 (F) (by have := HZ.out; omega)))); clear hs))
          go_wp2_with fail
          go_end0
          exact ⟨rfl, by rw [HE.out]; exact R4.out⟩
    · have hAi : ¬ (2 * (R : Int) + 1) < (hi : Int) := by omega
      have HE : Hid (D = d) := Lib.hid (by rw [hT.out, sift_end hA])
      clear hT
      go_wp2_with fail
      go_end0
      exact ⟨rfl, by rw [HE.out]; exact hR.out⟩
end Go.Proofs.YtkklagdniaoghaaGreatDoor
