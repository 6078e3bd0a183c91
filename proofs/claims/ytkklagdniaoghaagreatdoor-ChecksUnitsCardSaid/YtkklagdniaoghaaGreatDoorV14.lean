/- The walk of UnitF: the answer. -/
import Derived.Test.YtkklagdniaoghaaGreatDoorV13
import Derived.Test.YtkklagdniaoghaaGreatDoorH1
namespace Go.Proofs.YtkklagdniaoghaaGreatDoor
open Go.RowKit Go.Proofs.Uni
open Go.Proofs.Frac (fr fr_den fr_num_le fr_den_le)

/-- How many runs of a length there are, as the program reckons it. -/
theorem max_facts (l I : Nat) (hl : l ≤ 200) (hI : I ≤ 3) :
    IntKind.i64.wrap ((l : Int) - ((I : Int) + 1)) = (l : Int) - ((I : Int) + 1) ∧ ∃ D : Int, IntKind.i64.wrap ((l : Int) - ((I : Int) + 1) + 1) = D ∧ max D 0 = ((l + 1 - (I + 1) : Nat) : Int) :=
  ⟨IntWalk.i64_in _ (by omega), _, IntWalk.i64_in _ (by omega), by omega⟩
/-- The numbers on the way to the mean. -/
theorem mean_facts7 (c n : Nat) (P R : Nat × Nat) (hc : c ≤ 9) (n1 : 1 ≤ n) (n3 : n ≤ 3) (hP : P.1 ≤ 24000000 ∧ 0 < P.2 ∧ P.2 ≤ 8000000) (hR : R.1 ≤ 24000000 ∧ 0 < R.2 ∧ R.2 ≤ 8000000) :
    (IntKind.i64.wrap ((P.2 : Int) * n) = ((P.2 * n : Nat) : Int) ∧ wrap64 ((P.2 : Int) * n) = ((P.2 * n : Nat) : Int) ∧ (∀ wx, Calls Tryz.prog 25 #[.int .i64 P.1, .int .i64 (P.2 * n : Nat)] wx fun e w' => e = .returned (frV (fr P.1 (P.2 * n))) ∧ wx.Since wx.heap.size w')) ∧
    (IntKind.i64.wrap ((R.2 : Int) * n) = ((R.2 * n : Nat) : Int) ∧ wrap64 ((R.2 : Int) * n) = ((R.2 * n : Nat) : Int) ∧ (∀ wx, Calls Tryz.prog 25 #[.int .i64 R.1, .int .i64 (R.2 * n : Nat)] wx fun e w' => e = .returned (frV (fr R.1 (R.2 * n))) ∧ wx.Since wx.heap.size w')) ∧
    ∃ x1 x2 x3 x4 x5 : Nat,
      IntKind.i64.wrap ((1 + (c : Int)) * (fr P.1 (P.2 * n)).1) = x1 ∧ IntKind.i64.wrap ((x1 : Int) * (fr R.1 (R.2 * n)).1) = x2 ∧ IntKind.i64.wrap ((c : Int) * (fr P.1 (P.2 * n)).1) = x3 ∧ IntKind.i64.wrap ((x3 : Int) * (fr R.1 (R.2 * n)).2) = x4 ∧ IntKind.i64.wrap (((fr R.1 (R.2 * n)).1 : Int) * (fr P.1 (P.2 * n)).2) = x5 ∧
      wrap64 ((1 + (c : Int)) * (fr P.1 (P.2 * n)).1) = x1 ∧ wrap64 ((x1 : Int) * (fr R.1 (R.2 * n)).1) = x2 ∧ wrap64 ((c : Int) * (fr P.1 (P.2 * n)).1) = x3 ∧ wrap64 ((x3 : Int) * (fr R.1 (R.2 * n)).2) = x4 ∧ wrap64 (((fr R.1 (R.2 * n)).1 : Int) * (fr P.1 (P.2 * n)).2) = x5 ∧
      x4 ≤ 1000000000000000000 ∧ x5 ≤ 1000000000000000000 ∧ (∀ wx, Calls Tryz.prog 25 #[.int .i64 x2, .int .i64 ((x4 : Int) + x5)] wx fun e w' => e = .returned (frV (fr x2 (x4 + x5))) ∧ wx.Since wx.heap.size w') ∧
      meanF c (fr P.1 (P.2 * n)) (fr R.1 (R.2 * n)) = fr x2 (x4 + x5) := by
  obtain ⟨p1, p2, p3⟩ := hP
  obtain ⟨r1, r2, r3⟩ := hR
  have hPn : P.2 * n ≤ 24000000 := Nat.mul_le_mul p3 n3
  have hRn : R.2 * n ≤ 24000000 := Nat.mul_le_mul r3 n3
  have hPp : 0 < P.2 * n := Nat.mul_pos p2 n1
  have hRp : 0 < R.2 * n := Nat.mul_pos r2 n1
  refine ⟨⟨wrap_mul (by omega), wrap_mul6 (by omega), fun wx => over_says _ _ wx (by omega) (by omega)⟩, ⟨wrap_mul (by omega), wrap_mul6 (by omega), fun wx => over_says _ _ wx (by omega) (by omega)⟩, ?_⟩
  have a1 := Nat.le_trans (fr_num_le P.1 (P.2 * n)) p1
  have a2 := Nat.le_trans (fr_den_le (n := P.1) hPp) hPn
  have a3 := Nat.le_trans (fr_num_le R.1 (R.2 * n)) r1
  have a4 := Nat.le_trans (fr_den_le (n := R.1) hRp) hRn
  generalize fr P.1 (P.2 * n) = p at *
  generalize fr R.1 (R.2 * n) = r at *
  have e1 : (1 + c) * p.1 ≤ 10 * 24000000 := Nat.mul_le_mul (by omega) a1
  have e2 : (1 + c) * p.1 * r.1 ≤ 10 * 24000000 * 24000000 := Nat.mul_le_mul e1 a3
  have e3 : c * p.1 ≤ 9 * 24000000 := Nat.mul_le_mul hc a1
  have e4 : c * p.1 * r.2 ≤ 9 * 24000000 * 24000000 := Nat.mul_le_mul e3 a4
  have e5 : r.1 * p.2 ≤ 24000000 * 24000000 := Nat.mul_le_mul a3 a2
  have c1 : (1 + (c : Int)) = ((1 + c : Nat) : Int) := by omega
  have K := fun wx => over_says ((1 + c) * p.1 * r.1) (c * p.1 * r.2 + r.1 * p.2) wx (by omega) (by omega)
  simp only [Int.natCast_add] at K
  refine ⟨(1 + c) * p.1, (1 + c) * p.1 * r.1, c * p.1, c * p.1 * r.2, r.1 * p.2, ?_, wrap_mul (by omega), wrap_mul (by omega), wrap_mul (by omega), wrap_mul (by omega), ?_, wrap_mul6 (by omega), wrap_mul6 (by omega), wrap_mul6 (by omega), wrap_mul6 (by omega), by omega, by omega, K, rfl⟩
  · rw [c1]; exact wrap_mul (by omega)
  · rw [c1]; exact wrap_mul6 (by omega)
set_option maxHeartbeats 6400000 in
set_option maxRecDepth 1000000 in
theorem unit_ok (s t : ByteArray) (n b : Nat) (w : World) (hs : s.size ≤ 100000000) (ht : t.size ≤ 100000000) (hT : Tabs w) (h1 : isT s = true) (h2 : isT t = true) (h3 : (uni s).length ≤ 200) (h4 : (uni t).length ≤ 200) (n1 : 1 ≤ n) (n3 : n ≤ 3) (b1 : 1 ≤ b) (b3 : b ≤ 3) :
    Calls Tryz.prog 7 #[.string s, .string t, .int .i64 n, .int .i64 b] w (UnitSay (unitR s t n b) w) := by
  have K1 := Lib.hid (fun wx hT => isText_says s wx hs hT)
  have K2 := Lib.hid (fun wx hT => isText_says t wx ht hT)
  have HU : Hid (unitR s t n b = (meanF (b * b) (fr (shares (uni s) (uni t) (uni s) n).1 ((shares (uni s) (uni t) (uni s) n).2 * n)) (fr (shares (uni s) (uni t) (uni t) n).1 ((shares (uni s) (uni t) (uni t) n).2 * n)), 0)) := Lib.hid (unitR_ok s t n b h1 h2 h3 h4 n1 n3 b1 b3)
  rw [HU.out]
  clear HU
  rw [h1] at K1
  rw [h2] at K2
  have M1 := Lib.hid (fun wx => split_says s wx hs)
  have M2 := Lib.hid (fun wx => split_says t wx ht)
  have S0 : Hid (w.Since w.heap.size (w.alloc (.cells #[.int .i64 0, .int .i64 0] 25))) := Lib.hid ((World.Since.refl w.heap.size w).alloc (Nat.le_refl _) _)
  have T0 : Hid (Tabs (w.alloc (.cells #[.int .i64 0, .int .i64 0] 25))) := Lib.hid (hT.up ((World.Since.refl w.heap.size w).alloc (Nat.le_refl _) _))
  clear hT
  have HCs := Lib.hid (fun w2 => box_cells w w2)
  unfold UniSay at M1 M2
  have l1 := uni_len s
  have l2 := uni_len t
  generalize uni s = xs at *
  generalize uni t = ys at *
  go_enter Tryz.func7, Tryz.ntmps7
  go_wp2_with fail
  refine (K1.out _ T0.out).mono ?_
  rintro e w1 ⟨rfl, hs1⟩
  go_wp2_with fail
  refine (K2.out _ (T0.out.up hs1)).mono ?_
  rintro e w2 ⟨rfl, hs2⟩
  have hs3 := since_two hs1 hs2
  clear hs1 hs2
  go_wp2_with fail
  refine (M1.out _).mono ?_
  rintro e w3 ⟨A, c, rfl, hA, hs4⟩
  have hs5 := since_two hs3 hs4
  have hA5 := hA
  clear hs3 hs4 hA
  go_wp2_with fail
  refine (M2.out _).mono ?_
  rintro e w4 ⟨B, d, rfl, hB, hs6⟩
  have hs7 := since_two hs5 hs6
  have HA := Lib.hid (hA5.up hs6)
  have HB := Lib.hid hB
  clear hs5 hs6 hB hA5
  obtain ⟨⟨c0, c1⟩, ⟨f0, f1⟩⟩ := HCs.out _ hs7
  have C4 : Hid ((w4.cell? ⟨w.heap.size, 0, none⟩ = some (.int .i64 0) ∧ w4.cell? ⟨w.heap.size, 1, none⟩ = some (.int .i64 0)) ∧ (w4.frozen? ⟨w.heap.size, 0, none⟩ = false ∧ w4.frozen? ⟨w.heap.size, 1, none⟩ = false)) := Lib.hid ⟨⟨c0, c1⟩, ⟨f0, f1⟩⟩
  have W4 : Hid (w.heap.size < w4.heap.size) := Lib.hid (by have := hs7.size; simp at this; omega)
  have S2 := Lib.hid (since_two S0.out hs7)
  clear hs7 HCs c0 c1 f0 f1
  have hx1 : ¬ (200 : Int) < (xs.length : Int) := by omega
  have hy1 : ¬ (200 : Int) < (ys.length : Int) := by omega
  have p1 : ¬ (n : Int) < 1 := by omega
  have p2 : ¬ (3 : Int) < n := by omega
  have p3 : ¬ (b : Int) < 1 := by omega
  have p4 : ¬ (3 : Int) < b := by omega
  have KO : Hid (∀ wx : World, Calls Tryz.prog 25 #[.int .i64 0, .int .i64 1] wx fun e w' => e = .returned (.agg #[.int .i64 0, .int .i64 1]) ∧ wx.Since wx.heap.size w') := Lib.hid (fun wx => over_says 0 1 wx (by omega) (by omega))
  go_wp2_with fail
  refine (KO.out _).mono ?_
  rintro e wp ⟨rfl, hsp⟩
  go_wp2_with fail
  refine (KO.out _).mono ?_
  rintro e wq ⟨rfl, hsq⟩
  have hpq := since_two hsp hsq
  have HA := Lib.hid (HA.out.up hpq)
  have HB := Lib.hid (HB.out.up hpq)
  have C4 : Hid ((wq.cell? ⟨w.heap.size, 0, none⟩ = some (.int .i64 0) ∧ wq.cell? ⟨w.heap.size, 1, none⟩ = some (.int .i64 0)) ∧ (wq.frozen? ⟨w.heap.size, 0, none⟩ = false ∧ wq.frozen? ⟨w.heap.size, 1, none⟩ = false)) := Lib.hid (by
    have h := C4.out
    have hw := W4.out
    exact ⟨⟨(hpq.cell hw).trans h.1.1, (hpq.cell hw).trans h.1.2⟩, ⟨(hpq.frozen hw).trans h.2.1, (hpq.frozen hw).trans h.2.2⟩⟩)
  have S2 := Lib.hid (since_two S2.out hpq)
  have W4 : Hid (w.heap.size < wq.heap.size) := Lib.hid (by have := W4.out; have := hpq.size; omega)
  clear hsp hsq hpq KO
  go_wp2_with fail
  have BP : Hid (Box ((wq.alloc (.cells #[.int .i64 0, .int .i64 1] 25)).alloc (.cells #[.int .i64 0, .int .i64 1] 25)) wq.heap.size (0, 1)) := Lib.hid ⟨by simp, by simp, by simp, by simp⟩
  have BR : Hid (Box ((wq.alloc (.cells #[.int .i64 0, .int .i64 1] 25)).alloc (.cells #[.int .i64 0, .int .i64 1] 25)) (wq.heap.size + 1) (0, 1)) := Lib.hid (by
    have e : wq.heap.size + 1 = (wq.alloc (.cells #[.int .i64 0, .int .i64 1] 25)).heap.size := by simp
    rw [e]
    exact ⟨by simp, by simp, by simp, by simp⟩)
  have S5 : Hid (wq.Since wq.heap.size ((wq.alloc (.cells #[.int .i64 0, .int .i64 1] 25)).alloc (.cells #[.int .i64 0, .int .i64 1] 25))) := Lib.hid (since_alloc (since_alloc (World.Since.refl wq.heap.size wq) _) _)
  have Z5 : Hid (wq.heap.size + 2 ≤ ((wq.alloc (.cells #[.int .i64 0, .int .i64 1] 25)).alloc (.cells #[.int .i64 0, .int .i64 1] 25)).heap.size) := Lib.hid (by simp)
  generalize ((wq.alloc (.cells #[.int .i64 0, .int .i64 1] 25)).alloc (.cells #[.int .i64 0, .int .i64 1] 25)) = w5 at *
  go_loopg [15] n (fun g i wr => ∃ I : Nat, I ≤ n ∧ g = n - I ∧ i = .int .i64 (I + 1 : Nat) ∧ Hid (Box wr wq.heap.size (shares xs ys xs I)) ∧ Hid (Box wr (wq.heap.size + 1) (shares xs ys ys I)) ∧ Hid (wq.Since wq.heap.size wr) ∧ Hid (wq.heap.size + 2 ≤ wr.heap.size))
  case atStart => exact ⟨0, by omega, by omega, rfl, BP, BR, S5, Z5⟩
  case round =>
    obtain ⟨I, hI, rfl, rfl, hP, hR, hS, hZ⟩ := hrel
    by_cases hlt : I < n
    · have g1 : ((I + 1 : Nat) : Int) ≤ n := by omega
      have KM := Lib.hid (fun wx hA hB => common_says xs ys (I + 1) wx A B c d hA hB (by omega) (by omega) (by omega) (by omega))
      have A2 := Lib.hid (HA.out.up hS.out)
      have B2 := Lib.hid (HB.out.up hS.out)
      obtain ⟨q1, q2, q3⟩ := refUnit_loopfacts xs ys xs I h3 h3 (by omega)
      obtain ⟨r1, r2, _⟩ := refUnit_loopfacts xs ys ys I h3 h4 (by omega)
      have KQ := Lib.hid (fun wx => over_says (Bag.mt xs ys (I + 1)) (xs.length + 1 - (I + 1)) wx (by omega) (by omega))
      have LQ := Lib.hid (fun wx => over_says (Bag.mt xs ys (I + 1)) (ys.length + 1 - (I + 1)) wx (by omega) (by omega))
      have KP := Lib.hid (fun wx => plus_says (shares xs ys xs I) (share xs ys xs (I + 1)) wx q1 q2)
      have LP := Lib.hid (fun wx => plus_says (shares xs ys ys I) (share xs ys ys (I + 1)) wx r1 r2)
      have EP : Hid (shares xs ys xs (I + 1) = plusR (shares xs ys xs I) (share xs ys xs (I + 1))) := Lib.hid rfl
      have ER : Hid (shares xs ys ys (I + 1) = plusR (shares xs ys ys I) (share xs ys ys (I + 1))) := Lib.hid rfl
      unfold share at KP LP EP ER
      clear q1 q2 r1 r2
      generalize hP2 : shares xs ys xs (I + 1) = P2 at *
      generalize hR2 : shares xs ys ys (I + 1) = R2 at *
      have HP2 := Lib.hid hP2
      have HR2 := Lib.hid hR2
      clear hP2 hR2
      generalize shares xs ys xs I = P at *
      generalize shares xs ys ys I = R at *
      generalize Bag.mt xs ys (I + 1) = m at *
      generalize fr m (xs.length + 1 - (I + 1)) = Q at *
      generalize fr m (ys.length + 1 - (I + 1)) = T at *
      have GX := Lib.hid (max_facts xs.length I (by omega) (by omega))
      have GY := Lib.hid (max_facts ys.length I (by omega) (by omega))
      generalize xs.length + 1 - (I + 1) = G at *
      generalize ys.length + 1 - (I + 1) = H at *
      rw [← EP.out] at KP
      rw [← ER.out] at LP
      clear EP ER
      unfold frV at KP KQ LP LQ
      go_wp2_with fail
      refine (KM.out _ A2.out B2.out).mono ?_
      rintro e w6 ⟨rfl, hs8⟩
      have S6 := Lib.hid (since_two hS.out hs8)
      have P6 := Lib.hid (hP.out.up hs8 (by have := hZ.out; omega))
      have R6 := Lib.hid (hR.out.up hs8 (by have := hZ.out; omega))
      have Z6 : Hid (wq.heap.size + 2 ≤ w6.heap.size) := Lib.hid (by have := hZ.out; have := hs8.size; omega)
      clear hs8 hP hR hS hZ A2 B2 KM
      go_wp2_with fail
      go_cut [16] from 61 to 89 (fun v wc => v = .int .i64 m ∧ Hid (Box wc wq.heap.size P2) ∧ Hid (Box wc (wq.heap.size + 1) R) ∧ Hid (wq.Since wq.heap.size wc) ∧ Hid (wq.heap.size + 2 ≤ wc.heap.size))
      case first =>
        obtain ⟨z1, D, z2, hM⟩ := GX.out
        have hS0 : w6.drew.cell? ⟨wq.heap.size, 0, none⟩ = some (.int .i64 (P.1 : Nat)) ∧ w6.drew.cell? ⟨wq.heap.size, 1, none⟩ = some (.int .i64 (P.2 : Nat)) := ⟨P6.out.c0, P6.out.c1⟩
        refine wp_region_late (fun w' => w'.cell? ⟨wq.heap.size, 0, none⟩ = some (.int .i64 (P.1 : Nat)) ∧ w'.cell? ⟨wq.heap.size, 1, none⟩ = some (.int .i64 (P.2 : Nat))) [10] (by kernel_rfl) hS0 (fun hSL => ?_)
        clear hS0 GX GY
        refine wpAnyLate_take 0 (v := ?_) rfl (by kernel_rfl) (by kernel_rfl) (by kernel_rfl) (by kernel_rfl) (by kernel_rfl) (fun _ _ _ h => h) hSL (by rfl) (fun w' hw' => ?_) ?_
        rotate_left
        · obtain ⟨g0, g1⟩ := hw'
          go_simp
          all_goals rfl
        try simp only [Act.put, List.setIfInBounds_toArray, List.set_cons_zero, List.set_cons_succ]
        refine wpAnyLate_take 1 (v := ?_) rfl (by kernel_rfl) (by kernel_rfl) (by kernel_rfl) (by kernel_rfl) (by kernel_rfl) (fun _ _ _ h => h) hSL (by rfl) (fun w' hw' => ?_) ?_
        rotate_left
        · obtain ⟨g0, g1⟩ := hw'
          go_simp
          all_goals rfl
        try simp only [Act.put, List.setIfInBounds_toArray, List.set_cons_zero, List.set_cons_succ]
        refine wpAnyLate_take 2 (v := ?_) rfl (by kernel_rfl) (by kernel_rfl) (by kernel_rfl) (by kernel_rfl) (by kernel_rfl) (fun _ _ _ h => h) hSL (by rfl) (fun w' hw' => ?_) ?_
        rotate_left
        · obtain ⟨g0, g1⟩ := hw'
          go_simp
          all_goals rfl
        try simp only [Act.put, List.setIfInBounds_toArray, List.set_cons_zero, List.set_cons_succ]
        refine wpAnyLate_take 3 (v := ?_) rfl (by kernel_rfl) (by kernel_rfl) (by kernel_rfl) (by kernel_rfl) (by kernel_rfl) (fun _ _ _ h => h) hSL (by rfl) (fun w' hw' => ?_) ?_
        rotate_left
        · obtain ⟨g0, g1⟩ := hw'
          go_simp
          all_goals rfl
        try simp only [Act.put, List.setIfInBounds_toArray, List.set_cons_zero, List.set_cons_succ]
        refine wpAnyLate_take 4 (v := ?_) rfl (by kernel_rfl) (by kernel_rfl) (by kernel_rfl) (by kernel_rfl) (by kernel_rfl) (fun _ _ _ h => h) hSL (by rfl) (fun w' hw' => ?_) ?_
        rotate_left
        · obtain ⟨g0, g1⟩ := hw'
          go_simp
          all_goals rfl
        try simp only [Act.put, List.setIfInBounds_toArray, List.set_cons_zero, List.set_cons_succ]
        refine wpAnyLate_take 5 (v := ?_) rfl (by kernel_rfl) (by kernel_rfl) (by kernel_rfl) (by kernel_rfl) (by kernel_rfl) (fun _ _ _ h => h) hSL (by rfl) (fun w' hw' => ?_) ?_
        rotate_left
        · obtain ⟨g0, g1⟩ := hw'
          go_simp
          all_goals rfl
        try simp only [Act.put, List.setIfInBounds_toArray, List.set_cons_zero, List.set_cons_succ]
        refine wpAnyLate_take 6 (v := ?_) rfl (by kernel_rfl) (by kernel_rfl) (by kernel_rfl) (by kernel_rfl) (by kernel_rfl) (fun _ _ _ h => h) hSL (by rfl) (fun w' hw' => ?_) ?_
        rotate_left
        · obtain ⟨g0, g1⟩ := hw'
          go_simp
          all_goals rfl
        try simp only [Act.put, List.setIfInBounds_toArray, List.set_cons_zero, List.set_cons_succ]
        refine wpAnyLate_take 7 (v := ?_) rfl (by kernel_rfl) (by kernel_rfl) (by kernel_rfl) (by kernel_rfl) (by kernel_rfl) (fun _ _ _ h => h) hSL (by rfl) (fun w' hw' => ?_) ?_
        rotate_left
        · obtain ⟨g0, g1⟩ := hw'
          go_simp
          all_goals rfl
        try simp only [Act.put, List.setIfInBounds_toArray, List.set_cons_zero, List.set_cons_succ]
        refine wpAnyLate_call 8 (by kernel_rfl) rfl (by rfl) (fun K hK => ?_)
        go_simp
        refine (KQ.out _).mono ?_
        rintro e w7 ⟨rfl, hs7⟩
        have P7 := Lib.hid (P6.out.drew.up hs7 (by have := Z6.out; show _ < w6.heap.size; omega))
        have H7 := Lib.hid hs7
        clear hs7
        go_wp2_with fail
        refine hK.out _ _ (⟨P7.out.c0, P7.out.c1⟩) (fun hSL => ?_)
        clear hK K
        try simp only [Act.put, List.setIfInBounds_toArray, List.set_cons_zero, List.set_cons_succ]
        refine wpAnyLate_call 9 (by kernel_rfl) rfl (by rfl) (fun K hK => ?_)
        go_simp
        refine (KP.out _).mono ?_
        rintro e w8 ⟨rfl, hs8⟩
        have H8 := Lib.hid (since_two H7.out hs8)
        have P8 := Lib.hid (P6.out.drew.up H8.out (by have := Z6.out; show _ < w6.heap.size; omega))
        have k4 := P8.out.c0
        have k5 := P8.out.c1
        have k6 := P8.out.f0
        have k7 := P8.out.f1
        clear hs8
        go_wp2_with fail
        refine hK.out _ _ (⟨k4, k5⟩) (fun hSL => ?_)
        clear hK K
        try simp only [Act.put, List.setIfInBounds_toArray, List.set_cons_zero, List.set_cons_succ]
        refine wpAnyLate_late 10 (by kernel_rfl) (by kernel_rfl) rfl (by rfl) (fun K hK => ?_)
        go_simp
        refine hK.out _ _ ?_
        clear hK K
        try simp only [Act.put, List.setIfInBounds_toArray, List.set_cons_zero, List.set_cons_succ]
        refine wpAnyLate_done (by kernel_rfl) ?_ _
        go_wp2_with fail
        go_meet
        case rel =>
          have hz := Z6.out
          have h78 : w6.heap.size ≤ w8.heap.size := H8.out.size
          exact ⟨rfl, Lib.hid (P8.out.put _ _), Lib.hid ((R6.out.drew.up H8.out (by show _ < w6.heap.size; omega)).other (by omega) _ _), Lib.hid (((since_two S6.out.drew H8.out).setCell (Nat.le_refl _) _).setCell (Nat.le_refl _) _), Lib.hid (by simp; omega)⟩
      case rest =>
        obtain ⟨rfl, P9, R9, S9, Z9⟩ := hcut
        clear P6 R6 S6 Z6
        go_wp2_with fail
        obtain ⟨z1, D, z2, hM⟩ := GY.out
        have hS0 : wc.drew.cell? ⟨wq.heap.size + 1, 0, none⟩ = some (.int .i64 (R.1 : Nat)) ∧ wc.drew.cell? ⟨wq.heap.size + 1, 1, none⟩ = some (.int .i64 (R.2 : Nat)) := ⟨R9.out.c0, R9.out.c1⟩
        refine wp_region_late (fun w' => w'.cell? ⟨wq.heap.size + 1, 0, none⟩ = some (.int .i64 (R.1 : Nat)) ∧ w'.cell? ⟨wq.heap.size + 1, 1, none⟩ = some (.int .i64 (R.2 : Nat))) [10] (by kernel_rfl) hS0 (fun hSL => ?_)
        clear hS0 GX GY
        refine wpAnyLate_take 0 (v := ?_) rfl (by kernel_rfl) (by kernel_rfl) (by kernel_rfl) (by kernel_rfl) (by kernel_rfl) (fun _ _ _ h => h) hSL (by rfl) (fun w' hw' => ?_) ?_
        rotate_left
        · obtain ⟨g0, g1⟩ := hw'
          go_simp
          all_goals rfl
        try simp only [Act.put, List.setIfInBounds_toArray, List.set_cons_zero, List.set_cons_succ]
        refine wpAnyLate_take 1 (v := ?_) rfl (by kernel_rfl) (by kernel_rfl) (by kernel_rfl) (by kernel_rfl) (by kernel_rfl) (fun _ _ _ h => h) hSL (by rfl) (fun w' hw' => ?_) ?_
        rotate_left
        · obtain ⟨g0, g1⟩ := hw'
          go_simp
          all_goals rfl
        try simp only [Act.put, List.setIfInBounds_toArray, List.set_cons_zero, List.set_cons_succ]
        refine wpAnyLate_take 2 (v := ?_) rfl (by kernel_rfl) (by kernel_rfl) (by kernel_rfl) (by kernel_rfl) (by kernel_rfl) (fun _ _ _ h => h) hSL (by rfl) (fun w' hw' => ?_) ?_
        rotate_left
        · obtain ⟨g0, g1⟩ := hw'
          go_simp
          all_goals rfl
        try simp only [Act.put, List.setIfInBounds_toArray, List.set_cons_zero, List.set_cons_succ]
        refine wpAnyLate_take 3 (v := ?_) rfl (by kernel_rfl) (by kernel_rfl) (by kernel_rfl) (by kernel_rfl) (by kernel_rfl) (fun _ _ _ h => h) hSL (by rfl) (fun w' hw' => ?_) ?_
        rotate_left
        · obtain ⟨g0, g1⟩ := hw'
          go_simp
          all_goals rfl
        try simp only [Act.put, List.setIfInBounds_toArray, List.set_cons_zero, List.set_cons_succ]
        refine wpAnyLate_take 4 (v := ?_) rfl (by kernel_rfl) (by kernel_rfl) (by kernel_rfl) (by kernel_rfl) (by kernel_rfl) (fun _ _ _ h => h) hSL (by rfl) (fun w' hw' => ?_) ?_
        rotate_left
        · obtain ⟨g0, g1⟩ := hw'
          go_simp
          all_goals rfl
        try simp only [Act.put, List.setIfInBounds_toArray, List.set_cons_zero, List.set_cons_succ]
        refine wpAnyLate_take 5 (v := ?_) rfl (by kernel_rfl) (by kernel_rfl) (by kernel_rfl) (by kernel_rfl) (by kernel_rfl) (fun _ _ _ h => h) hSL (by rfl) (fun w' hw' => ?_) ?_
        rotate_left
        · obtain ⟨g0, g1⟩ := hw'
          go_simp
          all_goals rfl
        try simp only [Act.put, List.setIfInBounds_toArray, List.set_cons_zero, List.set_cons_succ]
        refine wpAnyLate_take 6 (v := ?_) rfl (by kernel_rfl) (by kernel_rfl) (by kernel_rfl) (by kernel_rfl) (by kernel_rfl) (fun _ _ _ h => h) hSL (by rfl) (fun w' hw' => ?_) ?_
        rotate_left
        · obtain ⟨g0, g1⟩ := hw'
          go_simp
          all_goals rfl
        try simp only [Act.put, List.setIfInBounds_toArray, List.set_cons_zero, List.set_cons_succ]
        refine wpAnyLate_take 7 (v := ?_) rfl (by kernel_rfl) (by kernel_rfl) (by kernel_rfl) (by kernel_rfl) (by kernel_rfl) (fun _ _ _ h => h) hSL (by rfl) (fun w' hw' => ?_) ?_
        rotate_left
        · obtain ⟨g0, g1⟩ := hw'
          go_simp
          all_goals rfl
        try simp only [Act.put, List.setIfInBounds_toArray, List.set_cons_zero, List.set_cons_succ]
        refine wpAnyLate_call 8 (by kernel_rfl) rfl (by rfl) (fun K hK => ?_)
        go_simp
        refine (LQ.out _).mono ?_
        rintro e w7 ⟨rfl, hs7⟩
        have P7 := Lib.hid (R9.out.drew.up hs7 (by have := Z9.out; show _ < wc.heap.size; omega))
        have H7 := Lib.hid hs7
        clear hs7
        go_wp2_with fail
        refine hK.out _ _ (⟨P7.out.c0, P7.out.c1⟩) (fun hSL => ?_)
        clear hK K
        try simp only [Act.put, List.setIfInBounds_toArray, List.set_cons_zero, List.set_cons_succ]
        refine wpAnyLate_call 9 (by kernel_rfl) rfl (by rfl) (fun K hK => ?_)
        go_simp
        refine (LP.out _).mono ?_
        rintro e w8 ⟨rfl, hs8⟩
        have H8 := Lib.hid (since_two H7.out hs8)
        have P8 := Lib.hid (R9.out.drew.up H8.out (by have := Z9.out; show _ < wc.heap.size; omega))
        have k4 := P8.out.c0
        have k5 := P8.out.c1
        have k6 := P8.out.f0
        have k7 := P8.out.f1
        clear hs8
        go_wp2_with fail
        refine hK.out _ _ (⟨k4, k5⟩) (fun hSL => ?_)
        clear hK K
        try simp only [Act.put, List.setIfInBounds_toArray, List.set_cons_zero, List.set_cons_succ]
        refine wpAnyLate_late 10 (by kernel_rfl) (by kernel_rfl) rfl (by rfl) (fun K hK => ?_)
        go_simp
        refine hK.out _ _ ?_
        clear hK K
        try simp only [Act.put, List.setIfInBounds_toArray, List.set_cons_zero, List.set_cons_succ]
        refine wpAnyLate_done (by kernel_rfl) ?_ _
        clear z1 z2 hM
        go_wp2_with fail
        go_roundg (n - (I + 1))
        case measure => omega
        case rel =>
          have hz := Z9.out
          have h78 : wc.heap.size ≤ w8.heap.size := H8.out.size
          exact ⟨I + 1, by omega, rfl, by go_num, Lib.hid (by rw [HP2.out]; exact (P9.out.drew.up H8.out (by show _ < wc.heap.size; omega)).other (by omega) _ _), Lib.hid (by rw [HR2.out]; exact P8.out.put _ _), Lib.hid (((since_two S9.out.drew H8.out).setCell (by simp) _).setCell (by simp) _), Lib.hid (by simp; omega)⟩
    · obtain rfl : I = n := by omega
      have bP := shares_small xs ys xs h3 (mt_200 xs ys h3) n3
      have bR := shares_small xs ys ys h4 (mt_200 xs ys h3) n3
      have hbb : b * b ≤ 9 := Nat.mul_le_mul b3 b3
      have eb := wrap_mul (a := b) (b := b) (by omega)
      have eb6 := wrap_mul6 (a := b) (b := b) (by omega)
      have HW := Lib.hid (mean_facts7 (b * b) I (shares xs ys xs I) (shares xs ys ys I) hbb n1 n3 bP bR)
      generalize shares xs ys xs I = P at *
      generalize shares xs ys ys I = R at *
      generalize b * b = bb at *
      obtain ⟨⟨m1, m1', KQ⟩, ⟨m2, m2', KR⟩, E⟩ := HW.out
      generalize P.2 * I = PD at *
      generalize R.2 * I = RD at *
      generalize fr P.1 PD = p at *
      generalize fr R.1 RD = r at *
      obtain ⟨x1, x2, x3, x4, x5, E1, E2, E3, E4, E5, E1', E2', E3', E4', E5', b4, b5, KM, EM⟩ := E
      have HEM := Lib.hid EM
      have KQ := Lib.hid KQ
      have KR := Lib.hid KR
      have KM := Lib.hid KM
      generalize fr x2 (x4 + x5) = q at *
      unfold frV at KQ KR KM
      clear HW bP bR EM E1' E2' E3' E4' E5' m1' m2' eb6
      have k0 := hP.out.c0
      have k1 := hP.out.c1
      have hS0 : (wr.drew.cell? ⟨wq.heap.size, 0, none⟩ = some (.int .i64 (P.1 : Nat)) ∧ wr.drew.cell? ⟨wq.heap.size, 1, none⟩ = some (.int .i64 (P.2 : Nat))) ∧ (wr.drew.cell? ⟨wq.heap.size + 1, 0, none⟩ = some (.int .i64 (R.1 : Nat)) ∧ wr.drew.cell? ⟨wq.heap.size + 1, 1, none⟩ = some (.int .i64 (R.2 : Nat))) := ⟨⟨hP.out.c0, hP.out.c1⟩, hR.out.c0, hR.out.c1⟩
      go_wp2_with fail
      refine wp_region_late (fun w' => (w'.cell? ⟨wq.heap.size, 0, none⟩ = some (.int .i64 (P.1 : Nat)) ∧ w'.cell? ⟨wq.heap.size, 1, none⟩ = some (.int .i64 (P.2 : Nat))) ∧ (w'.cell? ⟨wq.heap.size + 1, 0, none⟩ = some (.int .i64 (R.1 : Nat)) ∧ w'.cell? ⟨wq.heap.size + 1, 1, none⟩ = some (.int .i64 (R.2 : Nat)))) [14, 15] (by kernel_rfl) hS0 (fun hSL => ?_)
      clear hS0
      refine wpAnyLate_take 0 (v := ?_) rfl (by kernel_rfl) (by kernel_rfl) (by kernel_rfl) (by kernel_rfl) (by kernel_rfl) (fun _ _ _ h => h) hSL (by rfl) (fun w' hw' => ?_) ?_
      rotate_left
      · obtain ⟨⟨g0, g1⟩, g2, g3⟩ := hw'
        go_simp
        all_goals rfl
      try simp only [Act.put, List.setIfInBounds_toArray, List.set_cons_zero, List.set_cons_succ]
      refine wpAnyLate_take 1 (v := ?_) rfl (by kernel_rfl) (by kernel_rfl) (by kernel_rfl) (by kernel_rfl) (by kernel_rfl) (fun _ _ _ h => h) hSL (by rfl) (fun w' hw' => ?_) ?_
      rotate_left
      · obtain ⟨⟨g0, g1⟩, g2, g3⟩ := hw'
        go_simp
        all_goals rfl
      try simp only [Act.put, List.setIfInBounds_toArray, List.set_cons_zero, List.set_cons_succ]
      refine wpAnyLate_take 2 (v := ?_) rfl (by kernel_rfl) (by kernel_rfl) (by kernel_rfl) (by kernel_rfl) (by kernel_rfl) (fun _ _ _ h => h) hSL (by rfl) (fun w' hw' => ?_) ?_
      rotate_left
      · obtain ⟨⟨g0, g1⟩, g2, g3⟩ := hw'
        go_simp
        all_goals rfl
      try simp only [Act.put, List.setIfInBounds_toArray, List.set_cons_zero, List.set_cons_succ]
      refine wpAnyLate_take 3 (v := ?_) rfl (by kernel_rfl) (by kernel_rfl) (by kernel_rfl) (by kernel_rfl) (by kernel_rfl) (fun _ _ _ h => h) hSL (by rfl) (fun w' hw' => ?_) ?_
      rotate_left
      · obtain ⟨⟨g0, g1⟩, g2, g3⟩ := hw'
        go_simp
        all_goals rfl
      try simp only [Act.put, List.setIfInBounds_toArray, List.set_cons_zero, List.set_cons_succ]
      refine wpAnyLate_take 4 (v := ?_) rfl (by kernel_rfl) (by kernel_rfl) (by kernel_rfl) (by kernel_rfl) (by kernel_rfl) (fun _ _ _ h => h) hSL (by rfl) (fun w' hw' => ?_) ?_
      rotate_left
      · obtain ⟨⟨g0, g1⟩, g2, g3⟩ := hw'
        go_simp
        all_goals rfl
      try simp only [Act.put, List.setIfInBounds_toArray, List.set_cons_zero, List.set_cons_succ]
      refine wpAnyLate_take 5 (v := ?_) rfl (by kernel_rfl) (by kernel_rfl) (by kernel_rfl) (by kernel_rfl) (by kernel_rfl) (fun _ _ _ h => h) hSL (by rfl) (fun w' hw' => ?_) ?_
      rotate_left
      · obtain ⟨⟨g0, g1⟩, g2, g3⟩ := hw'
        go_simp
        all_goals rfl
      try simp only [Act.put, List.setIfInBounds_toArray, List.set_cons_zero, List.set_cons_succ]
      refine wpAnyLate_take 7 (v := ?_) rfl (by kernel_rfl) (by kernel_rfl) (by kernel_rfl) (by kernel_rfl) (by kernel_rfl) (fun _ _ _ h => h) hSL (by rfl) (fun w' hw' => ?_) ?_
      rotate_left
      · obtain ⟨⟨g0, g1⟩, g2, g3⟩ := hw'
        go_simp
        all_goals rfl
      try simp only [Act.put, List.setIfInBounds_toArray, List.set_cons_zero, List.set_cons_succ]
      refine wpAnyLate_take 8 (v := ?_) rfl (by kernel_rfl) (by kernel_rfl) (by kernel_rfl) (by kernel_rfl) (by kernel_rfl) (fun _ _ _ h => h) hSL (by rfl) (fun w' hw' => ?_) ?_
      rotate_left
      · obtain ⟨⟨g0, g1⟩, g2, g3⟩ := hw'
        go_simp
        all_goals rfl
      try simp only [Act.put, List.setIfInBounds_toArray, List.set_cons_zero, List.set_cons_succ]
      refine wpAnyLate_take 9 (v := ?_) rfl (by kernel_rfl) (by kernel_rfl) (by kernel_rfl) (by kernel_rfl) (by kernel_rfl) (fun _ _ _ h => h) hSL (by rfl) (fun w' hw' => ?_) ?_
      rotate_left
      · obtain ⟨⟨g0, g1⟩, g2, g3⟩ := hw'
        go_simp
        all_goals rfl
      try simp only [Act.put, List.setIfInBounds_toArray, List.set_cons_zero, List.set_cons_succ]
      refine wpAnyLate_take 10 (v := ?_) rfl (by kernel_rfl) (by kernel_rfl) (by kernel_rfl) (by kernel_rfl) (by kernel_rfl) (fun _ _ _ h => h) hSL (by rfl) (fun w' hw' => ?_) ?_
      rotate_left
      · obtain ⟨⟨g0, g1⟩, g2, g3⟩ := hw'
        go_simp
        all_goals rfl
      try simp only [Act.put, List.setIfInBounds_toArray, List.set_cons_zero, List.set_cons_succ]
      refine wpAnyLate_take 11 (v := ?_) rfl (by kernel_rfl) (by kernel_rfl) (by kernel_rfl) (by kernel_rfl) (by kernel_rfl) (fun _ _ _ h => h) hSL (by rfl) (fun w' hw' => ?_) ?_
      rotate_left
      · obtain ⟨⟨g0, g1⟩, g2, g3⟩ := hw'
        go_simp
        all_goals rfl
      try simp only [Act.put, List.setIfInBounds_toArray, List.set_cons_zero, List.set_cons_succ]
      refine wpAnyLate_take 12 (v := ?_) rfl (by kernel_rfl) (by kernel_rfl) (by kernel_rfl) (by kernel_rfl) (by kernel_rfl) (fun _ _ _ h => h) hSL (by rfl) (fun w' hw' => ?_) ?_
      rotate_left
      · obtain ⟨⟨g0, g1⟩, g2, g3⟩ := hw'
        go_simp
        all_goals rfl
      try simp only [Act.put, List.setIfInBounds_toArray, List.set_cons_zero, List.set_cons_succ]
      refine wpAnyLate_call 6 (by kernel_rfl) rfl (by rfl) (fun K hK => ?_)
      go_simp
      refine (KQ.out _).mono ?_
      rintro e w7 ⟨rfl, hs7⟩
      have hz := hZ.out
      have P7 := Lib.hid (hP.out.drew.up hs7 (by show _ < wr.heap.size; omega))
      have R7 := Lib.hid (hR.out.drew.up hs7 (by show _ < wr.heap.size; omega))
      have S7 := Lib.hid (since_two hS.out.drew hs7)
      have Z7 : Hid (wq.heap.size + 2 ≤ w7.heap.size) := Lib.hid (by have : wr.heap.size ≤ w7.heap.size := hs7.size; omega)
      clear hs7 hz
      go_wp2_with fail
      refine hK.out _ _ (⟨⟨P7.out.c0, P7.out.c1⟩, R7.out.c0, R7.out.c1⟩) (fun hSL => ?_)
      clear hK K
      try simp only [Act.put, List.setIfInBounds_toArray, List.set_cons_zero, List.set_cons_succ]
      refine wpAnyLate_call 13 (by kernel_rfl) rfl (by rfl) (fun K hK => ?_)
      go_simp
      refine (KR.out _).mono ?_
      rintro e w8 ⟨rfl, hs8⟩
      have hz := Z7.out
      have P8 := Lib.hid (P7.out.up hs8 (by omega))
      have R8 := Lib.hid (R7.out.up hs8 (by omega))
      have S8 := Lib.hid (since_two S7.out hs8)
      clear hs8 hz
      have k4 := P8.out.c0
      have k5 := P8.out.c1
      have k6 := P8.out.f0
      have k7 := P8.out.f1
      have k8 := R8.out.c0
      have k9 := R8.out.c1
      have l6 := R8.out.f0
      have l7 := R8.out.f1
      go_wp2_with fail
      refine hK.out _ _ (⟨⟨k4, k5⟩, k8, k9⟩) (fun hSL => ?_)
      clear hK K
      try simp only [Act.put, List.setIfInBounds_toArray, List.set_cons_zero, List.set_cons_succ]
      refine wpAnyLate_late 14 (by kernel_rfl) (by kernel_rfl) rfl (by rfl) (fun K hK => ?_)
      go_simp
      refine hK.out _ _ ?_
      clear hK K
      try simp only [Act.put, List.setIfInBounds_toArray, List.set_cons_zero, List.set_cons_succ]
      refine wpAnyLate_late 15 (by kernel_rfl) (by kernel_rfl) rfl (by rfl) (fun K hK => ?_)
      go_simp
      refine hK.out _ _ ?_
      clear hK K
      try simp only [Act.put, List.setIfInBounds_toArray, List.set_cons_zero, List.set_cons_succ]
      refine wpAnyLate_done (by kernel_rfl) ?_ _
      have PA := Lib.hid ((P8.out.put p.1 p.2).other (b := wq.heap.size + 1) (by omega) (.int .i64 r.1) (.int .i64 r.2))
      have RA := Lib.hid ((R8.out.other (b := wq.heap.size) (by omega) (.int .i64 p.1) (.int .i64 p.2)).put r.1 r.2)
      have SA := Lib.hid ((((S8.out.setCell (a := ⟨wq.heap.size, 0, none⟩) (Nat.le_refl _) (.int .i64 p.1)).setCell (a := ⟨wq.heap.size, 1, none⟩) (Nat.le_refl _) (.int .i64 p.2)).setCell (a := ⟨wq.heap.size + 1, 0, none⟩) (by simp) (.int .i64 r.1)).setCell (a := ⟨wq.heap.size + 1, 1, none⟩) (by simp) (.int .i64 r.2))
      clear k4 k5 k6 k7 k8 k9 l6 l7 P7 R7 S7 Z7 P8 R8 S8 KQ KR hP hR hS hZ
      go_upto_region 17 with fail
      generalize ((((w8.setCell ⟨wq.heap.size, 0, none⟩ (.int .i64 p.1)).setCell ⟨wq.heap.size, 1, none⟩ (.int .i64 p.2)).setCell ⟨wq.heap.size + 1, 0, none⟩ (.int .i64 r.1)).setCell ⟨wq.heap.size + 1, 1, none⟩ (.int .i64 r.2)) = wa at *
      have k6 := PA.out.c0
      have k7 := PA.out.c1
      have k8 := RA.out.c0
      have k9 := RA.out.c1
      have C5 : Hid ((wa.cell? ⟨w.heap.size, 0, none⟩ = some (.int .i64 0) ∧ wa.cell? ⟨w.heap.size, 1, none⟩ = some (.int .i64 0)) ∧ (wa.frozen? ⟨w.heap.size, 0, none⟩ = false ∧ wa.frozen? ⟨w.heap.size, 1, none⟩ = false)) := Lib.hid (by
        have h := C4.out
        have hw := W4.out
        exact ⟨⟨(SA.out.cell hw).trans h.1.1, (SA.out.cell hw).trans h.1.2⟩, ⟨(SA.out.frozen hw).trans h.2.1, (SA.out.frozen hw).trans h.2.2⟩⟩)
      have SB := Lib.hid (since_two S2.out SA.out)
      have W5 : Hid (w.heap.size < wa.heap.size) := Lib.hid (by have := W4.out; have := SA.out.size; omega)
      clear PA RA SA C4
      go_wp2_with fail
      refine (KM.out _).mono ?_
      rintro e wb ⟨rfl, hs⟩
      have hw := W5.out
      have j0 : wb.cell? ⟨w.heap.size, 0, none⟩ = some (.int .i64 0) := (hs.cell hw).trans C5.out.1.1
      have j1 : wb.cell? ⟨w.heap.size, 1, none⟩ = some (.int .i64 0) := (hs.cell hw).trans C5.out.1.2
      have g0 : wb.frozen? ⟨w.heap.size, 0, none⟩ = false := (hs.frozen hw).trans C5.out.2.1
      have g1 : wb.frozen? ⟨w.heap.size, 1, none⟩ = false := (hs.frozen hw).trans C5.out.2.2
      have SC := Lib.hid (since_two SB.out hs)
      clear hs hw KM k6 k7 k8 k9
      obtain ⟨y1, y2⟩ := q
      go_wp2_with fail
      exact bodyPost_ret (v := unitV ((y1, y2), 0)) (by simp [results, Tryz.results7, go_sem, j0, j1, unitV, frV]) rfl ⟨by rw [HEM.out], ((SC.out.setCell (Nat.le_refl _) _).setCell (Nat.le_refl _) _)⟩
end Go.Proofs.YtkklagdniaoghaaGreatDoor
