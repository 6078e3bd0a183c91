/- The walks of the sort: breaking patterns. -/
import Derived.Test.YtkklagdniaoghaaGreatDoorKA
import Derived.Test.YtkklagdniaoghaaGreatDoorK9a
import Derived.Sort.Walk7
import Derived.Sort.LotD1
import Derived.Sort.LotD5
import Derived.Laws.Bits64b
namespace Go.Proofs.YtkklagdniaoghaaGreatDoor
open Go.RowKit Go.Proofs.Rank Go.Sort

/-- A world of the sort's, and the generator's state in block cb. -/
structure BoxQ (w0 : World) (g : Nat) (d : Array Qs) (cb X : Nat) (w : World) : Prop where
  row : RowQ w0 g d w
  cell : w.cell? ⟨cb, 0, none⟩ = some (.int .u64 (X : Nat))
  fz : w.frozen? ⟨cb, 0, none⟩ = false
  new : w0.heap.size ≤ cb
theorem BoxQ.bump {w0 w : World} {g : Nat} {d : Array Qs} {cb s : Nat} (h : BoxQ w0 g d cb s w) (t : Nat) : BoxQ w0 g d cb t ((w.setCell ⟨cb, 0, none⟩ (.int .u64 (t : Nat))).drewN 3) :=
  ⟨(h.row.setNew h.new _ _).since (since_drewN (World.Since.refl _ _) 3), by rw [World.cell?_drewN]; exact World.cell?_setCell_same _ _ _ h.cell, by rw [World.frozen?_drewN]; simp [h.fz], h.new⟩
theorem drew_cell (w : World) (a : Addr) : w.drew.cell? a = w.cell? a := rfl
theorem drew_frozen (w : World) (a : Addr) : w.drew.frozen? a = w.frozen? a := rfl
theorem swpW_cell (w : World) (g i j : Nat) (x y : Qs) {cb : Nat} (hne : cb ≠ g) : (swpW w g i j x y).cell? ⟨cb, 0, none⟩ = w.cell? ⟨cb, 0, none⟩ := by
  have ap : ∀ (W : World) o v, (W.setCell ⟨g, o, none⟩ v).cell? ⟨cb, 0, none⟩ = W.cell? ⟨cb, 0, none⟩ := fun W o v => World.cell?_setCell_other _ _ _ _ (fun e => hne (by injection e with e1; exact e1.symm))
  unfold swpW
  rw [ap, ap, ap, ap]
theorem swpW_frozen (w : World) (g i j : Nat) (x y : Qs) (a : Addr) : (swpW w g i j x y).frozen? a = w.frozen? a := by
  unfold swpW
  simp
theorem BoxQ.swap {w0 w : World} {g : Nat} {d : Array Qs} {cb s : Nat} (h : BoxQ w0 g d cb s w) {i j : Nat} (hi : i < d.size) (hj : j < d.size) : BoxQ w0 g (swp d i j) cb s (swpW w g i j d[j]! d[i]!).drew := by
  have hne : cb ≠ g := fun e => by have := h.row.lt; have := h.new; omega
  exact ⟨(h.row.swap hi hj).drew, by rw [drew_cell, swpW_cell _ _ _ _ _ _ hne]; exact h.cell, by rw [drew_frozen, swpW_frozen]; exact h.fz, h.new⟩
set_option maxHeartbeats 6400000 in
set_option maxRecDepth 1000000 in
theorem breakGo_says (d : Array Qs) (a L g cap m : Nat) (w0 w : World) (h : RowQ w0 g d w) (hm : d.size = m) (hb : a + L ≤ m) (hsz : m ≤ 1000) (h8 : 8 ≤ L) :
    Calls Tryz.prog 85 #[.slice (some ⟨g, 0, none⟩) m cap, .int .i64 a, .int .i64 ((a + L : Nat) : Int), cmpV] w (SortSay w0 g (breakPatterns d a (a + L))) := by
  rw [breakPatterns_eq d a L h8]
  obtain ⟨M, hM⟩ : ∃ M : Nat, M = 1 <<< bitsLen L := ⟨_, rfl⟩
  have hM1 : 1 ≤ M := by rw [hM, Nat.one_shiftLeft]; exact Nat.two_pow_pos _
  have hM2 : M ≤ 2 * L := by rw [hM, Nat.one_shiftLeft]; exact two_pow_bitsLen_le (by omega)
  have hNP : ∀ w, Calls Tryz.prog 148 #[.int .i64 (L : Int)] w fun e w' => e = .returned (.int .u64 (M : Int)) ∧ w' = w := by rw [hM]; exact fun w => AnyF.nextPowerOfTwo Tryz.laysPow L (by omega) w
  rw [← hM]
  clear hM
  obtain ⟨I0, hI0⟩ : ∃ I0, I0 = a + L / 4 * 2 - 1 := ⟨_, rfl⟩
  rw [← hI0]
  obtain ⟨E, hE⟩ : ∃ E, E = bpRest a L M I0 3 0 (UInt64.ofNat L, d) := ⟨_, rfl⟩
  rw [← hE]
  have HE : Hid (E = bpRest a L M I0 3 0 (UInt64.ofNat L, d)) := Lib.hid hE
  have HZ := Lib.hid hm
  have hR := Lib.hid h
  clear hE h hm
  have hLz : ((a : Int) + (L : Int) - (a : Int)) = (L : Int) := by omega
  have h8z : (8 : Int) ≤ (L : Int) := by omega
  have hi0z : (a : Int) + (L : Int) / 4 * 2 - 1 = (I0 : Int) := by omega
  have hi2z : (a : Int) + (L : Int) / 4 * 2 + 1 = (I0 : Int) + 2 := by omega
  have hi0m : I0 + 2 < m := by omega
  have HI0 := Lib.hid hI0
  clear hI0
  unfold cmpV
  go_enter Tryz.func85, Tryz.ntmps85
  go_wp2_with (go_at_call 148; refine (hNP _).mono ?_; rintro e w' ⟨rfl, rfl⟩)
  have S0 : Hid (BoxQ w0 g d w.heap.size L (w.alloc (.cells #[.int .u64 (L : Nat)] 213))) := Lib.hid ⟨hR.out.since ((World.Since.refl w.heap.size w).alloc (Nat.le_refl _) _), by simp, by simp, hR.out.size⟩
  go_loopg [11] 3 (fun g1 vi wr => ∃ (t I : Nat) (r : UInt64) (d : Array Qs), vi = .int .i64 (I : Nat) ∧ I = I0 + t ∧ t ≤ 3 ∧ 3 - t ≤ g1 ∧ Hid (d.size = m) ∧ Hid (BoxQ w0 g d w.heap.size r.toNat wr) ∧ Hid (E = bpRest a L M I0 (3 - t) t (r, d)))
  case atStart =>
    refine ⟨0, I0, UInt64.ofNat L, d, by go_num, rfl, by omega, by omega, HZ, ?_, HE⟩
    rw [show (UInt64.ofNat L).toNat = L from by simp; omega]
    exact S0
  case round =>
    clear S0 HE hR HZ
    obtain ⟨t, I, r, d, rfl, hIt, ht, hg1, HZ, S1, HR⟩ := hrel
    have HIt := Lib.hid hIt
    have hIb : I ≤ I0 + t := by omega
    have hIc : t < 3 → I < m := by omega
    have hId : t < 3 → I ≤ I0 + 2 := by omega
    have hIe : t = 3 → I0 + 2 < I := by omega
    clear hIt hIb
    by_cases ht3 : t < 3
    · have hle : (I : Int) ≤ (I0 : Int) + 2 := by omega
      have y1 : I < m := by omega
      have y1b : decide (I < m) = true := by simp; omega
      obtain ⟨R0, hRr⟩ : ∃ R0 : Nat, R0 = r.toNat := ⟨_, rfl⟩
      have lR : R0 < 18446744073709551616 := by rw [hRr]; exact r.toNat_lt
      obtain ⟨R', hR'⟩ : ∃ R' : Nat, R' = xorNextN R0 := ⟨_, rfl⟩
      have lR' : R' < 18446744073709551616 := by rw [hR']; exact xorNextN_lt R0 lR
      obtain ⟨O, hO⟩ : ∃ O : Nat, O = R' &&& (M - 1) := ⟨_, rfl⟩
      have lO : O ≤ M - 1 := by rw [hO]; exact Nat.and_le_right
      have eAnd : bits .and .u64 (R' : Int) ((M : Int) - 1) = (O : Int) := by
        rw [show ((M : Int) - 1) = ((M - 1 : Nat) : Int) by omega, bits_and_u64_nat _ _ lR' (by omega), hO]
      rw [← hRr] at S1
      have hNext : Calls Tryz.prog 149 #[.pointer (some ⟨w.heap.size, 0, none⟩)] wr fun e w' => e = .returned (.int .u64 (R' : Int)) ∧ w' = (wr.setCell ⟨w.heap.size, 0, none⟩ (.int .u64 (R' : Int))).drewN 3 := by
        rw [hR']; exact AnyF.xorshift_Next Tryz.laysXor _ _ R0 lR wr S1.out.cell S1.out.fz
      have e0 : R' = (xorNext r).toNat := by rw [hR', hRr, xorNext_toNat]
      have HN : Hid (R' = (xorNext r).toNat ∧ O = (xorNext r).toNat &&& (M - 1)) := Lib.hid ⟨e0, by rw [hO, e0]⟩
      clear hRr hR' hO e0
      have S3 := Lib.hid (S1.out.bump R')
      have S2 := Lib.hid S3.out.row
      generalize (wr.setCell ⟨w.heap.size, 0, none⟩ (.int .u64 (R' : Int))).drewN 3 = w2 at hNext S2 S3
      clear S1
      by_cases hLO : L ≤ O
      · have HX := Lib.hid (HR.out.trans (bp_step a L M I0 t r d (O - L) ht3 (by rw [← HN.out.2, if_pos (by omega)])))
        obtain ⟨Q, rfl⟩ : ∃ Q, O = L + Q := ⟨O - L, by omega⟩
        have hOL : (L : Int) + (Q : Int) - (L : Int) = (Q : Int) := by omega
        have hLOz : (L : Int) ≤ ((L + Q : Nat) : Int) := by omega
        obtain ⟨B, hB⟩ : ∃ B, B = a + Q := ⟨_, rfl⟩
        have y2 : B < m := by omega
        have y2b : decide (B < m) = true := by simp; omega
        have z10 : IntKind.i64.wrap (B : Int) = (B : Int) := IntWalk.i64_in _ (by omega)
        have z11 : (0 : Int) ≤ (B : Int) ∧ (B : Int) < (m : Int) := by omega
        have z9 : (a : Int) + (Q : Int) = (B : Int) := by omega
        have HBq := Lib.hid hB
        clear hB
        go_wp2_with (go_at_call 149; refine hNext.mono ?_; rintro e w' ⟨rfl, hw'⟩; obtain rfl : w2 = w' := hw'.symm)
        obtain ⟨u0, e0⟩ := S2.out.mid0 (i := I) (j := B) (by have := HZ.out; omega) (.int .i64 (d[B]!.1.1 : Nat)) (.int .i64 (d[B]!.1.2 : Nat))
        obtain ⟨u1, e1⟩ := S2.out.mid1 (i := I) (j := B) (by have := HZ.out; omega) (.int .i64 (d[B]!.1.1 : Nat)) (.int .i64 (d[B]!.1.2 : Nat)) (.int .i64 (d[I]!.1.1 : Nat))
        have QS := Lib.hid (And.intro (And.intro (S2.out.c0 (I) (by have := HZ.out; omega)) (S2.out.c1 (I) (by have := HZ.out; omega))) (And.intro (S2.out.c0 (B) (by have := HZ.out; omega)) (S2.out.c1 (B) (by have := HZ.out; omega))))
        have k0 := QS.out.1.1
        have k1 := QS.out.1.2
        have k2 := QS.out.2.1
        have k3 := QS.out.2.2
        have f0 := S2.out.fz ((I) * 2)
        have f1 := S2.out.fz ((I) * 2 + 1)
        have f2 := S2.out.fz ((B) * 2)
        have f3 := S2.out.fz ((B) * 2 + 1)
        refine wp_region_free (fun w' => (w'.cell? ⟨g, (I) * 2, none⟩ = some (.int .i64 (d[I]!.1.1 : Nat)) ∧ w'.cell? ⟨g, (I) * 2 + 1, none⟩ = some (.int .i64 (d[I]!.1.2 : Nat))) ∧ (w'.cell? ⟨g, (B) * 2, none⟩ = some (.int .i64 (d[B]!.1.1 : Nat)) ∧ w'.cell? ⟨g, (B) * 2 + 1, none⟩ = some (.int .i64 (d[B]!.1.2 : Nat)))) [17, 19] (by kernel_rfl) QS.out (fun hSL => ?_)
        refine wpAnyFree_free 0 (v := ?_) rfl (by kernel_rfl) (by kernel_rfl) (by kernel_rfl) (fun _ _ _ h => h) (by rfl) (fun w' => ?_) ?_
        rotate_left
        · go_simp
          all_goals rfl
        try simp only [Act.put]
        try simp only [List.setIfInBounds_toArray]
        try simp only [List.set_cons_succ, List.set_cons_zero]
        refine wpAnyFree_free 1 (v := ?_) rfl (by kernel_rfl) (by kernel_rfl) (by kernel_rfl) (fun _ _ _ h => h) (by rfl) (fun w' => ?_) ?_
        rotate_left
        · go_simp
          all_goals rfl
        try simp only [Act.put]
        try simp only [List.setIfInBounds_toArray]
        try simp only [List.set_cons_succ, List.set_cons_zero]
        refine wpAnyFree_free 2 (v := ?_) rfl (by kernel_rfl) (by kernel_rfl) (by kernel_rfl) (fun _ _ _ h => h) (by rfl) (fun w' => ?_) ?_
        rotate_left
        · go_simp
          all_goals rfl
        try simp only [Act.put]
        try simp only [List.setIfInBounds_toArray]
        try simp only [List.set_cons_succ, List.set_cons_zero]
        refine wpAnyFree_free 3 (v := ?_) rfl (by kernel_rfl) (by kernel_rfl) (by kernel_rfl) (fun _ _ _ h => h) (by rfl) (fun w' => ?_) ?_
        rotate_left
        · go_simp
          all_goals rfl
        try simp only [Act.put]
        try simp only [List.setIfInBounds_toArray]
        try simp only [List.set_cons_succ, List.set_cons_zero]
        refine wpAnyFree_free 4 (v := ?_) rfl (by kernel_rfl) (by kernel_rfl) (by kernel_rfl) (fun _ _ _ h => h) (by rfl) (fun w' => ?_) ?_
        rotate_left
        · go_simp
          all_goals rfl
        try simp only [Act.put]
        try simp only [List.setIfInBounds_toArray]
        try simp only [List.set_cons_succ, List.set_cons_zero]
        refine wpAnyFree_free 5 (v := ?_) rfl (by kernel_rfl) (by kernel_rfl) (by kernel_rfl) (fun _ _ _ h => h) (by rfl) (fun w' => ?_) ?_
        rotate_left
        · go_simp
          all_goals rfl
        try simp only [Act.put]
        try simp only [List.setIfInBounds_toArray]
        try simp only [List.set_cons_succ, List.set_cons_zero]
        refine wpAnyFree_free 6 (v := ?_) rfl (by kernel_rfl) (by kernel_rfl) (by kernel_rfl) (fun _ _ _ h => h) (by rfl) (fun w' => ?_) ?_
        rotate_left
        · go_simp
          all_goals rfl
        try simp only [Act.put]
        try simp only [List.setIfInBounds_toArray]
        try simp only [List.set_cons_succ, List.set_cons_zero]
        refine wpAnyFree_free 7 (v := ?_) rfl (by kernel_rfl) (by kernel_rfl) (by kernel_rfl) (fun _ _ _ h => h) (by rfl) (fun w' => ?_) ?_
        rotate_left
        · go_simp
          all_goals rfl
        try simp only [Act.put]
        try simp only [List.setIfInBounds_toArray]
        try simp only [List.set_cons_succ, List.set_cons_zero]
        refine wpAnyFree_free 8 (v := ?_) rfl (by kernel_rfl) (by kernel_rfl) (by kernel_rfl) (fun _ _ _ h => h) (by rfl) (fun w' => ?_) ?_
        rotate_left
        · go_simp
          all_goals rfl
        try simp only [Act.put]
        try simp only [List.setIfInBounds_toArray]
        try simp only [List.set_cons_succ, List.set_cons_zero]
        refine wpAnyFree_free 9 (v := ?_) rfl (by kernel_rfl) (by kernel_rfl) (by kernel_rfl) (fun _ _ _ h => h) (by rfl) (fun w' => ?_) ?_
        rotate_left
        · go_simp
          all_goals rfl
        try simp only [Act.put]
        try simp only [List.setIfInBounds_toArray]
        try simp only [List.set_cons_succ, List.set_cons_zero]
        refine wpAnyFree_free 10 (v := ?_) rfl (by kernel_rfl) (by kernel_rfl) (by kernel_rfl) (fun _ _ _ h => h) (by rfl) (fun w' => ?_) ?_
        rotate_left
        · go_simp
          all_goals rfl
        try simp only [Act.put]
        try simp only [List.setIfInBounds_toArray]
        try simp only [List.set_cons_succ, List.set_cons_zero]
        refine wpAnyFree_take 11 (v := ?_) rfl (by kernel_rfl) (by kernel_rfl) (by kernel_rfl) (by kernel_rfl) (by kernel_rfl) (fun _ _ _ h => h) hSL (by rfl) (fun w' hw' => ?_) ?_
        rotate_left
        · obtain ⟨⟨g0, g1⟩, g2, g3⟩ := hw'
          go_simp
          all_goals rfl
        try simp only [Act.put]
        try simp only [List.setIfInBounds_toArray]
        try simp only [List.set_cons_succ, List.set_cons_zero]
        refine wpAnyFree_free 12 (v := ?_) rfl (by kernel_rfl) (by kernel_rfl) (by kernel_rfl) (fun _ _ _ h => h) (by rfl) (fun w' => ?_) ?_
        rotate_left
        · go_simp
          all_goals rfl
        try simp only [Act.put]
        try simp only [List.setIfInBounds_toArray]
        try simp only [List.set_cons_succ, List.set_cons_zero]
        refine wpAnyFree_free 13 (v := ?_) rfl (by kernel_rfl) (by kernel_rfl) (by kernel_rfl) (fun _ _ _ h => h) (by rfl) (fun w' => ?_) ?_
        rotate_left
        · go_simp
          all_goals rfl
        try simp only [Act.put]
        try simp only [List.setIfInBounds_toArray]
        try simp only [List.set_cons_succ, List.set_cons_zero]
        refine wpAnyFree_free 14 (v := ?_) rfl (by kernel_rfl) (by kernel_rfl) (by kernel_rfl) (fun _ _ _ h => h) (by rfl) (fun w' => ?_) ?_
        rotate_left
        · go_simp
          all_goals rfl
        try simp only [Act.put]
        try simp only [List.setIfInBounds_toArray]
        try simp only [List.set_cons_succ, List.set_cons_zero]
        refine wpAnyFree_take 15 (v := ?_) rfl (by kernel_rfl) (by kernel_rfl) (by kernel_rfl) (by kernel_rfl) (by kernel_rfl) (fun _ _ _ h => h) hSL (by rfl) (fun w' hw' => ?_) ?_
        rotate_left
        · obtain ⟨⟨g0, g1⟩, g2, g3⟩ := hw'
          go_simp
          all_goals rfl
        try simp only [Act.put]
        try simp only [List.setIfInBounds_toArray]
        try simp only [List.set_cons_succ, List.set_cons_zero]
        refine wpAnyFree_free 16 (v := ?_) rfl (by kernel_rfl) (by kernel_rfl) (by kernel_rfl) (fun _ _ _ h => h) (by rfl) (fun w' => ?_) ?_
        rotate_left
        · go_simp
          all_goals rfl
        try simp only [Act.put]
        try simp only [List.setIfInBounds_toArray]
        try simp only [List.set_cons_succ, List.set_cons_zero]
        refine wpAnyFree_late 17 (by kernel_rfl) (by kernel_rfl) rfl (by rfl) (fun K hK => ?_)
        go_simp
        refine hK.out _ _ ?_
        clear hK K
        try simp only [Act.put]
        try simp only [List.setIfInBounds_toArray]
        try simp only [List.set_cons_succ, List.set_cons_zero]
        refine wpAnyFree_free 18 (v := ?_) rfl (by kernel_rfl) (by kernel_rfl) (by kernel_rfl) (fun _ _ _ h => h) (by rfl) (fun w' => ?_) ?_
        rotate_left
        · go_simp
          all_goals rfl
        try simp only [Act.put]
        try simp only [List.setIfInBounds_toArray]
        try simp only [List.set_cons_succ, List.set_cons_zero]
        refine wpAnyFree_late 19 (by kernel_rfl) (by kernel_rfl) rfl (by rfl) (fun K hK => ?_)
        go_simp
        refine hK.out _ _ ?_
        clear hK K
        try simp only [Act.put]
        try simp only [List.setIfInBounds_toArray]
        try simp only [List.set_cons_succ, List.set_cons_zero]
        refine wpAnyFree_done (by kernel_rfl) ?_ _
        have R3 : Hid (RowQ w0 g (swp d (I) (B)) (swpW w2 g (I) (B) d[B]! d[I]!).drew) := Lib.hid ((S2.out.swap (i := I) (j := B) (by have := HZ.out; omega) (by have := HZ.out; omega)).drew)
        clear e0 e1 k0 k1 k2 k3 f0 f1 f2 f3 hSL QS
        go_wp2_with fail
        go_roundg (3 - (t + 1))
        case measure => omega
        case rel => exact ⟨t + 1, I + 1, xorNext r, swp d I B, by go_num, by have := HIt.out; omega, by omega, Nat.le_refl _, Lib.hid ((size_swp d _ _).trans HZ.out), Lib.hid (by rw [← HN.out.1]; exact S3.out.swap (by have := HZ.out; omega) (by have := HZ.out; omega)), Lib.hid (by rw [HX.out, HBq.out, HIt.out, Nat.add_sub_cancel_left])⟩
      · have HX := Lib.hid (HR.out.trans (bp_step a L M I0 t r d O ht3 (by rw [← HN.out.2, if_neg (by omega)])))
        obtain ⟨Q, hQ⟩ : ∃ Q, Q = O := ⟨_, rfl⟩
        have hLOz : ¬ (L : Int) ≤ (O : Int) := by omega
        obtain ⟨B, hB⟩ : ∃ B, B = a + Q := ⟨_, rfl⟩
        have y2 : B < m := by omega
        have y2b : decide (B < m) = true := by simp; omega
        obtain rfl : O = Q := hQ.symm
        have z10 : IntKind.i64.wrap (B : Int) = (B : Int) := IntWalk.i64_in _ (by omega)
        have z11 : (0 : Int) ≤ (B : Int) ∧ (B : Int) < (m : Int) := by omega
        have z9 : IntKind.i64.wrap ((a : Int) + (O : Int)) = (B : Int) := (IntWalk.i64_in _ (by omega)).trans (by omega)
        have HBq := Lib.hid hB
        clear hB
        go_wp2_with (go_at_call 149; refine hNext.mono ?_; rintro e w' ⟨rfl, hw'⟩; obtain rfl : w2 = w' := hw'.symm)
        obtain ⟨u0, e0⟩ := S2.out.mid0 (i := I) (j := B) (by have := HZ.out; omega) (.int .i64 (d[B]!.1.1 : Nat)) (.int .i64 (d[B]!.1.2 : Nat))
        obtain ⟨u1, e1⟩ := S2.out.mid1 (i := I) (j := B) (by have := HZ.out; omega) (.int .i64 (d[B]!.1.1 : Nat)) (.int .i64 (d[B]!.1.2 : Nat)) (.int .i64 (d[I]!.1.1 : Nat))
        have QS := Lib.hid (And.intro (And.intro (S2.out.c0 (I) (by have := HZ.out; omega)) (S2.out.c1 (I) (by have := HZ.out; omega))) (And.intro (S2.out.c0 (B) (by have := HZ.out; omega)) (S2.out.c1 (B) (by have := HZ.out; omega))))
        have k0 := QS.out.1.1
        have k1 := QS.out.1.2
        have k2 := QS.out.2.1
        have k3 := QS.out.2.2
        have f0 := S2.out.fz ((I) * 2)
        have f1 := S2.out.fz ((I) * 2 + 1)
        have f2 := S2.out.fz ((B) * 2)
        have f3 := S2.out.fz ((B) * 2 + 1)
        refine wp_region_free (fun w' => (w'.cell? ⟨g, (I) * 2, none⟩ = some (.int .i64 (d[I]!.1.1 : Nat)) ∧ w'.cell? ⟨g, (I) * 2 + 1, none⟩ = some (.int .i64 (d[I]!.1.2 : Nat))) ∧ (w'.cell? ⟨g, (B) * 2, none⟩ = some (.int .i64 (d[B]!.1.1 : Nat)) ∧ w'.cell? ⟨g, (B) * 2 + 1, none⟩ = some (.int .i64 (d[B]!.1.2 : Nat)))) [17, 19] (by kernel_rfl) QS.out (fun hSL => ?_)
        refine wpAnyFree_free 0 (v := ?_) rfl (by kernel_rfl) (by kernel_rfl) (by kernel_rfl) (fun _ _ _ h => h) (by rfl) (fun w' => ?_) ?_
        rotate_left
        · go_simp
          all_goals rfl
        try simp only [Act.put]
        try simp only [List.setIfInBounds_toArray]
        try simp only [List.set_cons_succ, List.set_cons_zero]
        refine wpAnyFree_free 1 (v := ?_) rfl (by kernel_rfl) (by kernel_rfl) (by kernel_rfl) (fun _ _ _ h => h) (by rfl) (fun w' => ?_) ?_
        rotate_left
        · go_simp
          all_goals rfl
        try simp only [Act.put]
        try simp only [List.setIfInBounds_toArray]
        try simp only [List.set_cons_succ, List.set_cons_zero]
        refine wpAnyFree_free 2 (v := ?_) rfl (by kernel_rfl) (by kernel_rfl) (by kernel_rfl) (fun _ _ _ h => h) (by rfl) (fun w' => ?_) ?_
        rotate_left
        · go_simp
          all_goals rfl
        try simp only [Act.put]
        try simp only [List.setIfInBounds_toArray]
        try simp only [List.set_cons_succ, List.set_cons_zero]
        refine wpAnyFree_free 3 (v := ?_) rfl (by kernel_rfl) (by kernel_rfl) (by kernel_rfl) (fun _ _ _ h => h) (by rfl) (fun w' => ?_) ?_
        rotate_left
        · go_simp
          all_goals rfl
        try simp only [Act.put]
        try simp only [List.setIfInBounds_toArray]
        try simp only [List.set_cons_succ, List.set_cons_zero]
        refine wpAnyFree_free 4 (v := ?_) rfl (by kernel_rfl) (by kernel_rfl) (by kernel_rfl) (fun _ _ _ h => h) (by rfl) (fun w' => ?_) ?_
        rotate_left
        · go_simp
          all_goals rfl
        try simp only [Act.put]
        try simp only [List.setIfInBounds_toArray]
        try simp only [List.set_cons_succ, List.set_cons_zero]
        refine wpAnyFree_free 5 (v := ?_) rfl (by kernel_rfl) (by kernel_rfl) (by kernel_rfl) (fun _ _ _ h => h) (by rfl) (fun w' => ?_) ?_
        rotate_left
        · go_simp
          all_goals rfl
        try simp only [Act.put]
        try simp only [List.setIfInBounds_toArray]
        try simp only [List.set_cons_succ, List.set_cons_zero]
        refine wpAnyFree_free 6 (v := ?_) rfl (by kernel_rfl) (by kernel_rfl) (by kernel_rfl) (fun _ _ _ h => h) (by rfl) (fun w' => ?_) ?_
        rotate_left
        · go_simp
          all_goals rfl
        try simp only [Act.put]
        try simp only [List.setIfInBounds_toArray]
        try simp only [List.set_cons_succ, List.set_cons_zero]
        refine wpAnyFree_free 7 (v := ?_) rfl (by kernel_rfl) (by kernel_rfl) (by kernel_rfl) (fun _ _ _ h => h) (by rfl) (fun w' => ?_) ?_
        rotate_left
        · go_simp
          all_goals rfl
        try simp only [Act.put]
        try simp only [List.setIfInBounds_toArray]
        try simp only [List.set_cons_succ, List.set_cons_zero]
        refine wpAnyFree_free 8 (v := ?_) rfl (by kernel_rfl) (by kernel_rfl) (by kernel_rfl) (fun _ _ _ h => h) (by rfl) (fun w' => ?_) ?_
        rotate_left
        · go_simp
          all_goals rfl
        try simp only [Act.put]
        try simp only [List.setIfInBounds_toArray]
        try simp only [List.set_cons_succ, List.set_cons_zero]
        refine wpAnyFree_free 9 (v := ?_) rfl (by kernel_rfl) (by kernel_rfl) (by kernel_rfl) (fun _ _ _ h => h) (by rfl) (fun w' => ?_) ?_
        rotate_left
        · go_simp
          all_goals rfl
        try simp only [Act.put]
        try simp only [List.setIfInBounds_toArray]
        try simp only [List.set_cons_succ, List.set_cons_zero]
        refine wpAnyFree_free 10 (v := ?_) rfl (by kernel_rfl) (by kernel_rfl) (by kernel_rfl) (fun _ _ _ h => h) (by rfl) (fun w' => ?_) ?_
        rotate_left
        · go_simp
          all_goals rfl
        try simp only [Act.put]
        try simp only [List.setIfInBounds_toArray]
        try simp only [List.set_cons_succ, List.set_cons_zero]
        refine wpAnyFree_take 11 (v := ?_) rfl (by kernel_rfl) (by kernel_rfl) (by kernel_rfl) (by kernel_rfl) (by kernel_rfl) (fun _ _ _ h => h) hSL (by rfl) (fun w' hw' => ?_) ?_
        rotate_left
        · obtain ⟨⟨g0, g1⟩, g2, g3⟩ := hw'
          go_simp
          all_goals rfl
        try simp only [Act.put]
        try simp only [List.setIfInBounds_toArray]
        try simp only [List.set_cons_succ, List.set_cons_zero]
        refine wpAnyFree_free 12 (v := ?_) rfl (by kernel_rfl) (by kernel_rfl) (by kernel_rfl) (fun _ _ _ h => h) (by rfl) (fun w' => ?_) ?_
        rotate_left
        · go_simp
          all_goals rfl
        try simp only [Act.put]
        try simp only [List.setIfInBounds_toArray]
        try simp only [List.set_cons_succ, List.set_cons_zero]
        refine wpAnyFree_free 13 (v := ?_) rfl (by kernel_rfl) (by kernel_rfl) (by kernel_rfl) (fun _ _ _ h => h) (by rfl) (fun w' => ?_) ?_
        rotate_left
        · go_simp
          all_goals rfl
        try simp only [Act.put]
        try simp only [List.setIfInBounds_toArray]
        try simp only [List.set_cons_succ, List.set_cons_zero]
        refine wpAnyFree_free 14 (v := ?_) rfl (by kernel_rfl) (by kernel_rfl) (by kernel_rfl) (fun _ _ _ h => h) (by rfl) (fun w' => ?_) ?_
        rotate_left
        · go_simp
          all_goals rfl
        try simp only [Act.put]
        try simp only [List.setIfInBounds_toArray]
        try simp only [List.set_cons_succ, List.set_cons_zero]
        refine wpAnyFree_take 15 (v := ?_) rfl (by kernel_rfl) (by kernel_rfl) (by kernel_rfl) (by kernel_rfl) (by kernel_rfl) (fun _ _ _ h => h) hSL (by rfl) (fun w' hw' => ?_) ?_
        rotate_left
        · obtain ⟨⟨g0, g1⟩, g2, g3⟩ := hw'
          go_simp
          all_goals rfl
        try simp only [Act.put]
        try simp only [List.setIfInBounds_toArray]
        try simp only [List.set_cons_succ, List.set_cons_zero]
        refine wpAnyFree_free 16 (v := ?_) rfl (by kernel_rfl) (by kernel_rfl) (by kernel_rfl) (fun _ _ _ h => h) (by rfl) (fun w' => ?_) ?_
        rotate_left
        · go_simp
          all_goals rfl
        try simp only [Act.put]
        try simp only [List.setIfInBounds_toArray]
        try simp only [List.set_cons_succ, List.set_cons_zero]
        refine wpAnyFree_late 17 (by kernel_rfl) (by kernel_rfl) rfl (by rfl) (fun K hK => ?_)
        go_simp
        refine hK.out _ _ ?_
        clear hK K
        try simp only [Act.put]
        try simp only [List.setIfInBounds_toArray]
        try simp only [List.set_cons_succ, List.set_cons_zero]
        refine wpAnyFree_free 18 (v := ?_) rfl (by kernel_rfl) (by kernel_rfl) (by kernel_rfl) (fun _ _ _ h => h) (by rfl) (fun w' => ?_) ?_
        rotate_left
        · go_simp
          all_goals rfl
        try simp only [Act.put]
        try simp only [List.setIfInBounds_toArray]
        try simp only [List.set_cons_succ, List.set_cons_zero]
        refine wpAnyFree_late 19 (by kernel_rfl) (by kernel_rfl) rfl (by rfl) (fun K hK => ?_)
        go_simp
        refine hK.out _ _ ?_
        clear hK K
        try simp only [Act.put]
        try simp only [List.setIfInBounds_toArray]
        try simp only [List.set_cons_succ, List.set_cons_zero]
        refine wpAnyFree_done (by kernel_rfl) ?_ _
        have R3 : Hid (RowQ w0 g (swp d (I) (B)) (swpW w2 g (I) (B) d[B]! d[I]!).drew) := Lib.hid ((S2.out.swap (i := I) (j := B) (by have := HZ.out; omega) (by have := HZ.out; omega)).drew)
        clear e0 e1 k0 k1 k2 k3 f0 f1 f2 f3 hSL QS
        go_wp2_with fail
        go_roundg (3 - (t + 1))
        case measure => omega
        case rel => exact ⟨t + 1, I + 1, xorNext r, swp d I B, by go_num, by have := HIt.out; omega, by omega, Nat.le_refl _, Lib.hid ((size_swp d _ _).trans HZ.out), Lib.hid (by rw [← HN.out.1]; exact S3.out.swap (by have := HZ.out; omega) (by have := HZ.out; omega)), Lib.hid (by rw [HX.out, HBq.out, HIt.out])⟩
    · obtain rfl : t = 3 := by omega
      have hle : ¬ ((I : Int) ≤ (I0 : Int) + 2) := by have := hIe rfl; omega
      clear hIc hId hIe
      go_wp2_with fail
      go_end0
      exact ⟨rfl, by rw [HR.out]; exact S1.out.row⟩
set_option maxHeartbeats 2000000 in
set_option maxRecDepth 1000000 in
theorem break_says (d : Array Qs) (a b g cap m : Nat) (w0 w : World) (h : RowQ w0 g d w) (hm : d.size = m) (hab : a ≤ b) (hb : b ≤ m) (hsz : m ≤ 1000) :
    Calls Tryz.prog 85 #[.slice (some ⟨g, 0, none⟩) m cap, .int .i64 a, .int .i64 b, cmpV] w (SortSay w0 g (breakPatterns d a b)) := by
  obtain ⟨L, rfl⟩ : ∃ L, b = a + L := ⟨b - a, by omega⟩
  by_cases h8 : 8 ≤ L
  · exact breakGo_says d a L g cap m w0 w h hm hb hsz h8
  · have hv : breakPatterns d a (a + L) = d := by unfold breakPatterns; simp only [Nat.add_sub_cancel_left]; rw [if_neg h8]
    rw [hv]
    have hLz : ((a : Int) + (L : Int) - (a : Int)) = (L : Int) := by omega
    have h8z : ¬ (8 : Int) ≤ (L : Int) := by omega
    have hR := Lib.hid h
    clear h
    unfold cmpV
    go_enter Tryz.func85, Tryz.ntmps85
    go_wp2_with fail
    go_end0
    exact ⟨rfl, hR.out⟩
end Go.Proofs.YtkklagdniaoghaaGreatDoor
