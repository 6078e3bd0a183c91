/- The walk of the specification's UnitF: the answer. -/
import Derived.Test.YtkklagdniaoghaaGreatDoorVA
import Derived.Deep.RegionWith
import Derived.Deep.Cut
import Derived.Deep.CutRange
namespace Go.Proofs.YtkklagdniaoghaaGreatDoor
open Go.RowKit Go.Proofs.Uni
open Go.Proofs.Frac (fr fr_den fr_num_le fr_den_le)

/-- A quotient lies in block b. -/
structure Box (w : World) (b : Nat) (q : Nat × Nat) : Prop where
  c0 : w.cell? ⟨b, 0, none⟩ = some (.int .i64 (q.1 : Nat))
  c1 : w.cell? ⟨b, 1, none⟩ = some (.int .i64 (q.2 : Nat))
  f0 : w.frozen? ⟨b, 0, none⟩ = false
  f1 : w.frozen? ⟨b, 1, none⟩ = false
theorem Box.up {w w' : World} {b n : Nat} {q : Nat × Nat} (h : Box w b q) (hs : World.Since n w w') (hb : b < n) : Box w' b q :=
  ⟨by rw [hs.cell hb]; exact h.c0, by rw [hs.cell hb]; exact h.c1, by rw [hs.frozen hb]; exact h.f0, by rw [hs.frozen hb]; exact h.f1⟩
theorem Box.put {w : World} {b : Nat} {q : Nat × Nat} (h : Box w b q) (x y : Nat) : Box ((w.setCell ⟨b, 0, none⟩ (.int .i64 x)).setCell ⟨b, 1, none⟩ (.int .i64 y)) b (x, y) := by
  have n1 : (⟨b, 0, none⟩ : Addr) ≠ ⟨b, 1, none⟩ := by simp
  refine ⟨?_, ?_, by simp [h.f0], by simp [h.f1]⟩
  · rw [World.cell?_setCell_other _ _ _ _ n1.symm]
    exact World.cell?_setCell_same _ _ _ h.c0
  · exact World.cell?_setCell_same _ _ _ (by rw [World.cell?_setCell_other _ _ _ _ n1]; exact h.c1)
theorem Box.other {w : World} {b c : Nat} {q : Nat × Nat} (h : Box w c q) (hne : b ≠ c) (x y : Value) : Box ((w.setCell ⟨b, 0, none⟩ x).setCell ⟨b, 1, none⟩ y) c q := by
  have n : ∀ i j, (⟨b, i, none⟩ : Addr) ≠ ⟨c, j, none⟩ := fun i j e => hne (by injection e)
  refine ⟨?_, ?_, by simp [h.f0], by simp [h.f1]⟩
  · rw [World.cell?_setCell_other _ _ _ _ (n _ _), World.cell?_setCell_other _ _ _ _ (n _ _)]
    exact h.c0
  · rw [World.cell?_setCell_other _ _ _ _ (n _ _), World.cell?_setCell_other _ _ _ _ (n _ _)]
    exact h.c1
theorem Box.drew {w : World} {b : Nat} {q : Nat × Nat} (h : Box w b q) : Box w.drew b q := ⟨h.c0, h.c1, h.f0, h.f1⟩
theorem mt_200 (a b : Ws) (h : a.length ≤ 200) (n : Nat) : Bag.mt a b (n + 1) ≤ 200 := Nat.le_trans (Bag.mt_left a b (n + 1)) (by omega)
theorem small_of {q : Nat × Nat} (h : q.1 ≤ 24000000 ∧ 0 < q.2 ∧ q.2 ≤ 8000000) : Small q := ⟨by omega, by omega, h.2.1⟩
theorem share_small (a b c : Ws) (n : Nat) (hc : c.length ≤ 200) (hm : Bag.mt a b n ≤ 200) (hn : 1 ≤ n) : Small (share a b c n) := by
  obtain ⟨h1, h2⟩ := share_den a b c n hc hn
  have h3 := share_num a b c n hm
  exact ⟨by omega, by omega, h1⟩
theorem unitR_ok (s t : ByteArray) (n b : Nat) (h1 : isT s = true) (h2 : isT t = true) (h3 : (uni s).length ≤ 200) (h4 : (uni t).length ≤ 200) (n1 : 1 ≤ n) (n3 : n ≤ 3) (b1 : 1 ≤ b) (b3 : b ≤ 3) :
    unitR s t n b = (meanF (b * b) (fr (shares (uni s) (uni t) (uni s) n).1 ((shares (uni s) (uni t) (uni s) n).2 * n)) (fr (shares (uni s) (uni t) (uni t) n).1 ((shares (uni s) (uni t) (uni t) n).2 * n)), 0) := by
  unfold unitR
  rw [h1, h2, if_neg (by decide), if_neg (by omega), if_neg (by omega)]
  simp
/-- What region 13's kind does: the box gets the next sum. -/
theorem refUnit_loopfacts (xs ys cs : Ws) (I : Nat) (h3 : xs.length ≤ 200) (hc : cs.length ≤ 200) (hI : I < 3) : Small (shares xs ys cs I) ∧ Small (share xs ys cs (I + 1)) ∧ Bag.mt xs ys (I + 1) ≤ 200 :=
  ⟨small_of (shares_small xs ys cs hc (mt_200 xs ys h3) (by omega)), share_small xs ys cs (I + 1) hc (mt_200 xs ys h3 I) (by omega), mt_200 xs ys h3 I⟩

theorem wrap_add1 {c : Nat} (h : c ≤ 9) : IntKind.i64.wrap (1 + (c : Int)) = 1 + (c : Int) := IntWalk.i64_in _ (by omega)
/-- The numbers on the way to the mean. -/
theorem mean_facts (c n : Nat) (P R : Nat × Nat) (hc : c ≤ 9) (n1 : 1 ≤ n) (n3 : n ≤ 3) (hP : P.1 ≤ 24000000 ∧ 0 < P.2 ∧ P.2 ≤ 8000000) (hR : R.1 ≤ 24000000 ∧ 0 < R.2 ∧ R.2 ≤ 8000000) :
    (IntKind.i64.wrap ((P.2 : Int) * n) = ((P.2 * n : Nat) : Int) ∧ wrap64 ((P.2 : Int) * n) = ((P.2 * n : Nat) : Int) ∧ (∀ wx, Calls Tryz.prog 32 #[.int .i64 P.1, .int .i64 (P.2 * n : Nat)] wx fun e w' => e = .returned (frV (fr P.1 (P.2 * n))) ∧ wx.Since wx.heap.size w')) ∧
    (IntKind.i64.wrap ((R.2 : Int) * n) = ((R.2 * n : Nat) : Int) ∧ wrap64 ((R.2 : Int) * n) = ((R.2 * n : Nat) : Int) ∧ (∀ wx, Calls Tryz.prog 32 #[.int .i64 R.1, .int .i64 (R.2 * n : Nat)] wx fun e w' => e = .returned (frV (fr R.1 (R.2 * n))) ∧ wx.Since wx.heap.size w')) ∧
    ∃ x1 x2 x3 x4 x5 : Nat,
      IntKind.i64.wrap ((1 + (c : Int)) * (fr P.1 (P.2 * n)).1) = x1 ∧ IntKind.i64.wrap ((x1 : Int) * (fr R.1 (R.2 * n)).1) = x2 ∧ IntKind.i64.wrap ((c : Int) * (fr P.1 (P.2 * n)).1) = x3 ∧ IntKind.i64.wrap ((x3 : Int) * (fr R.1 (R.2 * n)).2) = x4 ∧ IntKind.i64.wrap (((fr R.1 (R.2 * n)).1 : Int) * (fr P.1 (P.2 * n)).2) = x5 ∧
      wrap64 ((1 + (c : Int)) * (fr P.1 (P.2 * n)).1) = x1 ∧ wrap64 ((x1 : Int) * (fr R.1 (R.2 * n)).1) = x2 ∧ wrap64 ((c : Int) * (fr P.1 (P.2 * n)).1) = x3 ∧ wrap64 ((x3 : Int) * (fr R.1 (R.2 * n)).2) = x4 ∧ wrap64 (((fr R.1 (R.2 * n)).1 : Int) * (fr P.1 (P.2 * n)).2) = x5 ∧
      x4 ≤ 1000000000000000000 ∧ x5 ≤ 1000000000000000000 ∧ (∀ wx, Calls Tryz.prog 32 #[.int .i64 x2, .int .i64 ((x4 : Int) + x5)] wx fun e w' => e = .returned (frV (fr x2 (x4 + x5))) ∧ wx.Since wx.heap.size w') ∧
      meanF c (fr P.1 (P.2 * n)) (fr R.1 (R.2 * n)) = fr x2 (x4 + x5) := by
  obtain ⟨p1, p2, p3⟩ := hP
  obtain ⟨r1, r2, r3⟩ := hR
  have hPn : P.2 * n ≤ 24000000 := Nat.mul_le_mul p3 n3
  have hRn : R.2 * n ≤ 24000000 := Nat.mul_le_mul r3 n3
  have hPp : 0 < P.2 * n := Nat.mul_pos p2 n1
  have hRp : 0 < R.2 * n := Nat.mul_pos r2 n1
  refine ⟨⟨wrap_mul (by omega), wrap_mul6 (by omega), fun wx => quot_says _ _ wx (by omega) (by omega)⟩, ⟨wrap_mul (by omega), wrap_mul6 (by omega), fun wx => quot_says _ _ wx (by omega) (by omega)⟩, ?_⟩
  have a1 := Nat.le_trans (fr_num_le P.1 (P.2 * n)) p1
  have a2 := Nat.le_trans (fr_den_le (n := P.1) hPp) hPn
  have a3 := Nat.le_trans (fr_num_le R.1 (R.2 * n)) r1
  have a4 := Nat.le_trans (fr_den_le (n := R.1) hRp) hRn
  generalize fr P.1 (P.2 * n) = p at *
  generalize fr R.1 (R.2 * n) = r at *
  have e1 : (1 + c) * p.1 ≤ 10 * 24000000 := Nat.mul_le_mul (by omega) a1
  have e2 : (1 + c) * p.1 * r.1 ≤ 10 * 24000000 * 24000000 := Nat.mul_le_mul e1 a3
  have e3 : c * p.1 ≤ 9 * 24000000 := Nat.mul_le_mul hc a1
  have e4 : c * p.1 * r.2 ≤ 9 * 24000000 * 24000000 := Nat.mul_le_mul e3 a4
  have e5 : r.1 * p.2 ≤ 24000000 * 24000000 := Nat.mul_le_mul a3 a2
  have c1 : (1 + (c : Int)) = ((1 + c : Nat) : Int) := by omega
  have K := fun wx => quot_says ((1 + c) * p.1 * r.1) (c * p.1 * r.2 + r.1 * p.2) wx (by omega) (by omega)
  simp only [Int.natCast_add] at K
  refine ⟨(1 + c) * p.1, (1 + c) * p.1 * r.1, c * p.1, c * p.1 * r.2, r.1 * p.2, ?_, wrap_mul (by omega), wrap_mul (by omega), wrap_mul (by omega), wrap_mul (by omega), ?_, wrap_mul6 (by omega), wrap_mul6 (by omega), wrap_mul6 (by omega), wrap_mul6 (by omega), by omega, by omega, K, rfl⟩
  · rw [c1]; exact wrap_mul (by omega)
  · rw [c1]; exact wrap_mul6 (by omega)
set_option maxHeartbeats 6400000 in
set_option maxRecDepth 1000000 in
theorem refUnit_ok (s t : ByteArray) (n b : Nat) (w : World) (hs : s.size ≤ 100000000) (ht : t.size ≤ 100000000) (h1 : isT s = true) (h2 : isT t = true) (h3 : (uni s).length ≤ 200) (h4 : (uni t).length ≤ 200) (n1 : 1 ≤ n) (n3 : n ≤ 3) (b1 : 1 ≤ b) (b3 : b ≤ 3) :
    Calls Tryz.prog 8 #[.string s, .string t, .int .i64 n, .int .i64 b] w (UnitSay (unitR s t n b) w) := by
  have K1 := Lib.hid (fun wx => refText_says s wx hs)
  have K2 := Lib.hid (fun wx => refText_says t wx ht)
  have HU : Hid (unitR s t n b = (meanF (b * b) (fr (shares (uni s) (uni t) (uni s) n).1 ((shares (uni s) (uni t) (uni s) n).2 * n)) (fr (shares (uni s) (uni t) (uni t) n).1 ((shares (uni s) (uni t) (uni t) n).2 * n)), 0)) := Lib.hid (unitR_ok s t n b h1 h2 h3 h4 n1 n3 b1 b3)
  rw [HU.out]
  clear HU
  rw [h1] at K1
  rw [h2] at K2
  have M1 := Lib.hid (fun wx => single_says s wx hs)
  have M2 := Lib.hid (fun wx => single_says t wx ht)
  have S0 : Hid (w.Since w.heap.size (w.alloc (.cells #[.int .i64 0, .int .i64 0] 25))) := Lib.hid ((World.Since.refl w.heap.size w).alloc (Nat.le_refl _) _)
  have HCs := Lib.hid (fun w2 => box_cells w w2)
  unfold UniSay at M1 M2
  have l1 := uni_len s
  have l2 := uni_len t
  generalize uni s = xs at *
  generalize uni t = ys at *
  go_enter Tryz.func8, Tryz.ntmps8
  go_wp2_with fail
  refine (K1.out _).mono ?_
  rintro e w1 ⟨rfl, hs1⟩
  go_wp2_with fail
  refine (K2.out _).mono ?_
  rintro e w2 ⟨rfl, hs2⟩
  have hs3 := since_two hs1 hs2
  clear hs1 hs2
  go_wp2_with fail
  refine (M1.out _).mono ?_
  rintro e w3 ⟨A, c, rfl, hA, hs4⟩
  have hs5 := since_two hs3 hs4
  have hA5 := hA
  clear hs3 hs4 hA
  go_wp2_with fail
  refine (M2.out _).mono ?_
  rintro e w4 ⟨B, d, rfl, hB, hs6⟩
  have hs7 := since_two hs5 hs6
  have HA := Lib.hid (hA5.up hs6)
  have HB := Lib.hid hB
  clear hs5 hs6 hB hA5
  obtain ⟨⟨c0, c1⟩, ⟨f0, f1⟩⟩ := HCs.out _ hs7
  have C4 : Hid ((w4.cell? ⟨w.heap.size, 0, none⟩ = some (.int .i64 0) ∧ w4.cell? ⟨w.heap.size, 1, none⟩ = some (.int .i64 0)) ∧ (w4.frozen? ⟨w.heap.size, 0, none⟩ = false ∧ w4.frozen? ⟨w.heap.size, 1, none⟩ = false)) := Lib.hid ⟨⟨c0, c1⟩, ⟨f0, f1⟩⟩
  have W4 : Hid (w.heap.size < w4.heap.size) := Lib.hid (by have := hs7.size; simp at this; omega)
  have S2 := Lib.hid (since_two S0.out hs7)
  clear hs7 HCs c0 c1 f0 f1
  have hx1 : ¬ (200 : Int) < (xs.length : Int) := by omega
  have hy1 : ¬ (200 : Int) < (ys.length : Int) := by omega
  have p1 : ¬ (n : Int) < 1 := by omega
  have p2 : ¬ (3 : Int) < n := by omega
  have p3 : ¬ (b : Int) < 1 := by omega
  have p4 : ¬ (3 : Int) < b := by omega
  go_wp2_with fail
  have BP : Hid (Box ((w4.alloc (.cells #[.int .i64 0, .int .i64 1] 25)).alloc (.cells #[.int .i64 0, .int .i64 1] 25)) w4.heap.size (0, 1)) := Lib.hid ⟨by simp, by simp, by simp, by simp⟩
  have BR : Hid (Box ((w4.alloc (.cells #[.int .i64 0, .int .i64 1] 25)).alloc (.cells #[.int .i64 0, .int .i64 1] 25)) (w4.heap.size + 1) (0, 1)) := Lib.hid (by
    have e : w4.heap.size + 1 = (w4.alloc (.cells #[.int .i64 0, .int .i64 1] 25)).heap.size := by simp
    rw [e]
    exact ⟨by simp, by simp, by simp, by simp⟩)
  have S5 : Hid (w4.Since w4.heap.size ((w4.alloc (.cells #[.int .i64 0, .int .i64 1] 25)).alloc (.cells #[.int .i64 0, .int .i64 1] 25))) := Lib.hid (since_alloc (since_alloc (World.Since.refl w4.heap.size w4) _) _)
  have Z5 : Hid (w4.heap.size + 2 ≤ ((w4.alloc (.cells #[.int .i64 0, .int .i64 1] 25)).alloc (.cells #[.int .i64 0, .int .i64 1] 25)).heap.size) := Lib.hid (by simp)
  generalize ((w4.alloc (.cells #[.int .i64 0, .int .i64 1] 25)).alloc (.cells #[.int .i64 0, .int .i64 1] 25)) = w5 at *
  go_loopg [14] n (fun g i wr => ∃ I : Nat, I ≤ n ∧ g = n - I ∧ i = .int .i64 (I + 1 : Nat) ∧ Hid (Box wr w4.heap.size (shares xs ys xs I)) ∧ Hid (Box wr (w4.heap.size + 1) (shares xs ys ys I)) ∧ Hid (w4.Since w4.heap.size wr) ∧ Hid (w4.heap.size + 2 ≤ wr.heap.size))
  case atStart => exact ⟨0, by omega, by omega, rfl, BP, BR, S5, Z5⟩
  case round =>
    obtain ⟨I, hI, rfl, rfl, hP, hR, hS, hZ⟩ := hrel
    by_cases hlt : I < n
    · have g1 : ((I + 1 : Nat) : Int) ≤ n := by omega
      have KM := Lib.hid (fun wx hA hB => refMatches_says xs ys (I + 1) wx A B c d hA hB (by omega) (by omega) (by omega) (by omega))
      have A2 := Lib.hid (HA.out.up hS.out)
      have B2 := Lib.hid (HB.out.up hS.out)
      obtain ⟨q1, q2, q3⟩ := refUnit_loopfacts xs ys xs I h3 h3 (by omega)
      obtain ⟨r1, r2, _⟩ := refUnit_loopfacts xs ys ys I h3 h4 (by omega)
      have KG := Lib.hid (fun wx => refGrams_says xs.length (I + 1) c A wx (by omega) (by omega))
      have LG := Lib.hid (fun wx => refGrams_says ys.length (I + 1) d B wx (by omega) (by omega))
      have KQ := Lib.hid (fun wx => quot_says (Bag.mt xs ys (I + 1)) (xs.length + 1 - (I + 1)) wx (by omega) (by omega))
      have LQ := Lib.hid (fun wx => quot_says (Bag.mt xs ys (I + 1)) (ys.length + 1 - (I + 1)) wx (by omega) (by omega))
      have KP := Lib.hid (fun wx => refPlus_says (shares xs ys xs I) (share xs ys xs (I + 1)) wx q1 q2)
      have LP := Lib.hid (fun wx => refPlus_says (shares xs ys ys I) (share xs ys ys (I + 1)) wx r1 r2)
      have EP : Hid (shares xs ys xs (I + 1) = plusR (shares xs ys xs I) (share xs ys xs (I + 1))) := Lib.hid rfl
      have ER : Hid (shares xs ys ys (I + 1) = plusR (shares xs ys ys I) (share xs ys ys (I + 1))) := Lib.hid rfl
      unfold share at KP LP EP ER
      clear q1 q2 r1 r2
      generalize hP2 : shares xs ys xs (I + 1) = P2 at *
      generalize hR2 : shares xs ys ys (I + 1) = R2 at *
      have HP2 := Lib.hid hP2
      have HR2 := Lib.hid hR2
      clear hP2 hR2
      generalize shares xs ys xs I = P at *
      generalize shares xs ys ys I = R at *
      generalize Bag.mt xs ys (I + 1) = m at *
      generalize fr m (xs.length + 1 - (I + 1)) = Q at *
      generalize fr m (ys.length + 1 - (I + 1)) = T at *
      generalize xs.length + 1 - (I + 1) = G at *
      generalize ys.length + 1 - (I + 1) = H at *
      rw [← EP.out] at KP
      rw [← ER.out] at LP
      clear EP ER
      unfold frV at KP KQ LP LQ
      go_wp2_with fail
      refine (KM.out _ A2.out B2.out).mono ?_
      rintro e w6 ⟨rfl, hs8⟩
      have S6 := Lib.hid (since_two hS.out hs8)
      have P6 := Lib.hid (hP.out.up hs8 (by have := hZ.out; omega))
      have R6 := Lib.hid (hR.out.up hs8 (by have := hZ.out; omega))
      have Z6 : Hid (w4.heap.size + 2 ≤ w6.heap.size) := Lib.hid (by have := hZ.out; have := hs8.size; omega)
      clear hs8 hP hR hS hZ A2 B2 KM
      go_wp2_with fail
      go_cut [15] from 56 to 78 (fun v wc => v = .int .i64 m ∧ Hid (Box wc w4.heap.size P2) ∧ Hid (Box wc (w4.heap.size + 1) R) ∧ Hid (w4.Since w4.heap.size wc) ∧ Hid (w4.heap.size + 2 ≤ wc.heap.size))
      case first =>
        have k0 := P6.out.c0
        have k1 := P6.out.c1
        go_region_with (first
          | (go_at_call 33; refine (KG.out _).mono ?_; rintro e wx ⟨rfl, rfl⟩)
          | (go_at_call 32; refine (KQ.out _).mono ?_; rintro e w7 ⟨rfl, hs7⟩; have P7 := Lib.hid (P6.out.drew.up hs7 (by have := Z6.out; show _ < w6.heap.size; omega)); have k2 := P7.out.c0; have k3 := P7.out.c1; have H7 := Lib.hid hs7; clear hs7)
          | (go_at_call 31; refine (KP.out _).mono ?_; rintro e w8 ⟨rfl, hs8⟩; have H8 := Lib.hid (since_two H7.out hs8); have P8 := Lib.hid (P6.out.drew.up H8.out (by have := Z6.out; show _ < w6.heap.size; omega)); have k4 := P8.out.c0; have k5 := P8.out.c1; have k6 := P8.out.f0; have k7 := P8.out.f1; clear hs8))
        all_goals go_wp2_with fail
        all_goals go_meet
        all_goals case rel =>
          have hz := Z6.out
          have h78 : w6.heap.size ≤ w8.heap.size := H8.out.size
          refine ⟨rfl, Lib.hid (P8.out.put _ _), Lib.hid ((R6.out.drew.up H8.out (by show _ < w6.heap.size; omega)).other (by omega) _ _), Lib.hid (((since_two S6.out.drew H8.out).setCell (Nat.le_refl _) _).setCell (Nat.le_refl _) _), Lib.hid (by simp; omega)⟩
      case rest =>
        obtain ⟨rfl, P9, R9, S9, Z9⟩ := hcut
        clear P6 R6 S6 Z6
        go_wp2_with fail
        have k0 := R9.out.c0
        have k1 := R9.out.c1
        go_region_with (first
          | (go_at_call 33; refine (LG.out _).mono ?_; rintro e wx ⟨rfl, rfl⟩)
          | (go_at_call 32; refine (LQ.out _).mono ?_; rintro e w7 ⟨rfl, hs7⟩; have P7 := Lib.hid (R9.out.drew.up hs7 (by have := Z9.out; show _ < wc.heap.size; omega)); have k2 := P7.out.c0; have k3 := P7.out.c1; have H7 := Lib.hid hs7; clear hs7)
          | (go_at_call 31; refine (LP.out _).mono ?_; rintro e w8 ⟨rfl, hs8⟩; have H8 := Lib.hid (since_two H7.out hs8); have P8 := Lib.hid (R9.out.drew.up H8.out (by have := Z9.out; show _ < wc.heap.size; omega)); have k4 := P8.out.c0; have k5 := P8.out.c1; have k6 := P8.out.f0; have k7 := P8.out.f1; clear hs8))
        all_goals go_wp2_with fail
        all_goals (
          go_roundg (n - (I + 1))
          case measure => omega
          case rel =>
            have hz := Z9.out
            have h78 : wc.heap.size ≤ w8.heap.size := H8.out.size
            exact ⟨I + 1, by omega, rfl, by go_num, Lib.hid (by rw [HP2.out]; exact (P9.out.drew.up H8.out (by show _ < wc.heap.size; omega)).other (by omega) _ _), Lib.hid (by rw [HR2.out]; exact P8.out.put _ _), Lib.hid (((since_two S9.out.drew H8.out).setCell (by simp) _).setCell (by simp) _), Lib.hid (by simp; omega)⟩)
    · obtain rfl : I = n := by omega
      have bP := shares_small xs ys xs h3 (mt_200 xs ys h3) n3
      have bR := shares_small xs ys ys h4 (mt_200 xs ys h3) n3
      have hbb : b * b ≤ 9 := Nat.mul_le_mul b3 b3
      have eb := wrap_mul (a := b) (b := b) (by omega)
      have eb6 := wrap_mul6 (a := b) (b := b) (by omega)
      have HW := Lib.hid (mean_facts (b * b) I (shares xs ys xs I) (shares xs ys ys I) hbb n1 n3 bP bR)
      generalize shares xs ys xs I = P at *
      generalize shares xs ys ys I = R at *
      generalize b * b = bb at *
      obtain ⟨⟨m1, m1', KQ⟩, ⟨m2, m2', KR⟩, E⟩ := HW.out
      generalize P.2 * I = PD at *
      generalize R.2 * I = RD at *
      generalize fr P.1 PD = p at *
      generalize fr R.1 RD = r at *
      obtain ⟨x1, x2, x3, x4, x5, E1, E2, E3, E4, E5, E1', E2', E3', E4', E5', b4, b5, KM, EM⟩ := E
      have HEM := Lib.hid EM
      have KQ := Lib.hid KQ
      have KR := Lib.hid KR
      have KM := Lib.hid KM
      generalize fr x2 (x4 + x5) = q at *
      unfold frV at KQ KR KM
      clear HW bP bR EM E1' E2' E3' E4' E5' m1' m2' eb6
      have k0 := hP.out.c0
      have k1 := hP.out.c1
      go_wp2_with fail
      refine (KQ.out _).mono ?_
      rintro e w7 ⟨rfl, hs7⟩
      have hz := hZ.out
      have P7 := Lib.hid (hP.out.up hs7 (by omega))
      have R7 := Lib.hid (hR.out.up hs7 (by omega))
      have S7 := Lib.hid (since_two hS.out hs7)
      have Z7 : Hid (w4.heap.size + 2 ≤ w7.heap.size) := Lib.hid (by have := hs7.size; omega)
      have P8 := Lib.hid (P7.out.put p.1 p.2)
      have R8 := Lib.hid (R7.out.other (b := w4.heap.size) (by omega) (.int .i64 p.1) (.int .i64 p.2))
      have S8 := Lib.hid ((S7.out.setCell (a := ⟨w4.heap.size, 0, none⟩) (Nat.le_refl _) (.int .i64 p.1)).setCell (a := ⟨w4.heap.size, 1, none⟩) (Nat.le_refl _) (.int .i64 p.2))
      have Z8 : Hid (w4.heap.size + 2 ≤ ((w7.setCell ⟨w4.heap.size, 0, none⟩ (.int .i64 p.1)).setCell ⟨w4.heap.size, 1, none⟩ (.int .i64 p.2)).heap.size) := Lib.hid (by have := Z7.out; simp; omega)
      have k2 := P7.out.c0
      have k3 := P7.out.c1
      have k4 := P7.out.f0
      have k5 := P7.out.f1
      clear hs7 hP hR hS hZ k0 k1 hz KQ
      go_upto_region 16 with fail
      generalize ((w7.setCell ⟨w4.heap.size, 0, none⟩ (.int .i64 p.1)).setCell ⟨w4.heap.size, 1, none⟩ (.int .i64 p.2)) = w8 at *
      have k6 := R8.out.c0
      have k7 := R8.out.c1
      clear k2 k3 k4 k5 P7 R7 S7 Z7
      go_wp2_with fail
      refine (KR.out _).mono ?_
      rintro e w9 ⟨rfl, hs9⟩
      have hz := Z8.out
      have P9 := Lib.hid (P8.out.up hs9 (by omega))
      have R9 := Lib.hid (R8.out.up hs9 (by omega))
      have S9 := Lib.hid (since_two S8.out hs9)
      have Z9 : Hid (w4.heap.size + 2 ≤ w9.heap.size) := Lib.hid (by have := hs9.size; omega)
      have PA := Lib.hid (P9.out.other (b := w4.heap.size + 1) (by omega) (.int .i64 r.1) (.int .i64 r.2))
      have RA := Lib.hid (R9.out.put r.1 r.2)
      have SA := Lib.hid ((S9.out.setCell (a := ⟨w4.heap.size + 1, 0, none⟩) (by simp) (.int .i64 r.1)).setCell (a := ⟨w4.heap.size + 1, 1, none⟩) (by simp) (.int .i64 r.2))
      have k2 := R9.out.c0
      have k3 := R9.out.c1
      have k4 := R9.out.f0
      have k5 := R9.out.f1
      clear hs9 P8 R8 S8 Z8 k6 k7 hz KR
      go_upto_region 17 with fail
      generalize ((w9.setCell ⟨w4.heap.size + 1, 0, none⟩ (.int .i64 r.1)).setCell ⟨w4.heap.size + 1, 1, none⟩ (.int .i64 r.2)) = wa at *
      have k6 := PA.out.c0
      have k7 := PA.out.c1
      have k8 := RA.out.c0
      have k9 := RA.out.c1
      have C5 : Hid ((wa.cell? ⟨w.heap.size, 0, none⟩ = some (.int .i64 0) ∧ wa.cell? ⟨w.heap.size, 1, none⟩ = some (.int .i64 0)) ∧ (wa.frozen? ⟨w.heap.size, 0, none⟩ = false ∧ wa.frozen? ⟨w.heap.size, 1, none⟩ = false)) := Lib.hid (by
        have h := C4.out
        have hw := W4.out
        exact ⟨⟨(SA.out.cell hw).trans h.1.1, (SA.out.cell hw).trans h.1.2⟩, ⟨(SA.out.frozen hw).trans h.2.1, (SA.out.frozen hw).trans h.2.2⟩⟩)
      have SB := Lib.hid (since_two S2.out SA.out)
      have W5 : Hid (w.heap.size < wa.heap.size) := Lib.hid (by have := W4.out; have := SA.out.size; omega)
      clear k2 k3 k4 k5 P9 R9 S9 Z9 PA RA SA C4
      go_wp2_with fail
      refine (KM.out _).mono ?_
      rintro e wb ⟨rfl, hs⟩
      have hw := W5.out
      have j0 : wb.cell? ⟨w.heap.size, 0, none⟩ = some (.int .i64 0) := (hs.cell hw).trans C5.out.1.1
      have j1 : wb.cell? ⟨w.heap.size, 1, none⟩ = some (.int .i64 0) := (hs.cell hw).trans C5.out.1.2
      have g0 : wb.frozen? ⟨w.heap.size, 0, none⟩ = false := (hs.frozen hw).trans C5.out.2.1
      have g1 : wb.frozen? ⟨w.heap.size, 1, none⟩ = false := (hs.frozen hw).trans C5.out.2.2
      have SC := Lib.hid (since_two SB.out hs)
      clear hs hw KM k6 k7 k8 k9
      obtain ⟨y1, y2⟩ := q
      go_wp2_with fail
      exact bodyPost_ret (v := unitV ((y1, y2), 0)) (by simp [results, Tryz.results8, go_sem, j0, j1, unitV, frV]) rfl ⟨by rw [HEM.out], ((SC.out.setCell (Nat.le_refl _) _).setCell (Nat.le_refl _) _)⟩
end Go.Proofs.YtkklagdniaoghaaGreatDoor
