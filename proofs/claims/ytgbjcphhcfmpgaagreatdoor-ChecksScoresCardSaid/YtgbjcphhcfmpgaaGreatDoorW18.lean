/- The walk of Precision. -/
import Derived.Test.YtgbjcphhcfmpgaaGreatDoorW17
namespace Go.Proofs.YtgbjcphhcfmpgaaGreatDoor
open Go.RowKit Go.Proofs.MapEnt

theorem matchesN_says (a b : Ws) (n : Int) (w : World) (A C : Option Addr) (cA cC : Nat) (hA : In w A cA a) (hC : In w C cC b) (hn1 : -9223372036854775808 ≤ n) (hn2 : n ≤ 9223372036854775807) (la : a.length ≤ 9223372036854775807) (lb : b.length ≤ 9223372036854775807) :
    Calls Tryz.prog 8 #[.slice A a.length cA, .slice C b.length cC, .int .i64 n] w fun e w' => e = .returned (.tuple #[.int .i64 ((nres a b n).1 : Nat), .int .i64 ((nres a b n).2.1 : Nat), .int .i64 ((nres a b n).2.2.1 : Nat), .int .u8 ((nres a b n).2.2.2 : Nat)]) ∧ w.Since w.heap.size w' := by
  have := matches_says a b n w A C cA cC hA hC hn1 hn2 la lb
  rw [mres_nres] at this
  exact this
theorem Lists.slots {w : World} {L : Option Addr} {Ad : Nat → Option Addr} {ls : List Ws} {cp : Nat → Nat} (h : Lists w w.heap.size L Ad ls cp) {i : Nat} (hi : i < ls.length) :
    ∃ ad, L = some ad ∧ ∀ wx : World, w.Since w.heap.size wx → wx.cell? (ad.add i) = some (.slice (Ad i) ls[i].length (cp i)) := by
  obtain ⟨ad, h0, h1, h2⟩ := h.cell i hi
  exact ⟨ad, h0, fun wx hs => by rw [hs.cell (by rw [block_add]; exact h1)]; exact h2⟩
set_option maxHeartbeats 6400000 in
set_option maxRecDepth 1000000 in
theorem prec_says (xs ys : List Ws) (n : Int) (w : World) (L M : Option Addr) (Ad Bd : Nat → Option Addr) (cp dp : Nat → Nat) (c d : Nat) (hA : Lists w w.heap.size L Ad xs cp) (hB : Lists w w.heap.size M Bd ys dp)
    (hn1 : -9223372036854775808 ≤ n) (hn2 : n ≤ 9223372036854775807) (la : xs.length ≤ 9223372036854775807) (lb : ys.length ≤ 9223372036854775807) :
    Calls Tryz.prog 12 #[.slice L xs.length c, .slice M ys.length d, .int .i64 n] w fun e w' => e = .returned (scoreV (scored (precF n) xs ys)) ∧ w.Since w.heap.size w' := by
  have HA := Lib.hid hA
  have HB := Lib.hid hB
  have HS := Lib.hid ((World.Since.refl w.heap.size w).alloc (Nat.le_refl _) (.cells #[.int .i64 0, .int .i64 0] 35))
  clear hA hB
  by_cases h1 : 256 < xs.length
  · rw [show scored (precF n) xs ys = ((0, 0), 3) from if_pos h1]
    have HE : Hid (evenR xs.length ys.length = 3) := Lib.hid (if_pos h1)
    have KE := even_says (w.alloc (.cells #[.int .i64 0, .int .i64 0] 35)) L M xs.length ys.length c d la lb
    rw [HE.out] at KE
    have HK := Lib.hid KE
    clear KE
    go_enter Tryz.func12, Tryz.ntmps12
    go_wp2_with fail
    refine HK.out.mono ?_
    rintro e w1 ⟨rfl, rfl⟩
    go_wp2_with fail
    exact bodyPost_ret (v := .tuple #[.agg #[.int .i64 0, .int .i64 0], .int .u8 3]) (by simp [results, Tryz.results12, go_sem]) rfl ⟨rfl, HS.out⟩
  by_cases h2 : xs.length = ys.length
  · have e0 : scored (precF n) xs ys = total (precF n) (xs.zip ys) 0 0 := by unfold scored; rw [if_neg h1, if_neg (fun h => h h2)]
    have KE := even_says (w.alloc (.cells #[.int .i64 0, .int .i64 0] 35)) L M xs.length ys.length c d la lb
    rw [show evenR xs.length ys.length = 0 by unfold evenR; rw [if_neg h1, if_neg (fun h => h h2)]] at KE
    rw [e0]
    clear e0
    have HK := Lib.hid KE
    have H2 := Lib.hid h2
    have hlen : xs.length ≤ 256 := by omega
    clear KE h2 h1
    go_enter Tryz.func12, Tryz.ntmps12
    go_wp2_with fail
    refine HK.out.mono ?_
    rintro e w1 ⟨rfl, rfl⟩
    have C0 : Hid ((w.alloc (.cells #[.int .i64 0, .int .i64 0] 35)).heap[w.heap.size]? = some (.cells #[.int .i64 0, .int .i64 0] 35)) := Lib.hid (heap_alloc_new w _)
    go_wp2_with fail
    go_loopg [9, 10, 25] xs.length (fun g x y i wr => ∃ I N D : Nat, I ≤ xs.length ∧ g = xs.length - I ∧ i = .int .i64 I ∧ x = .int .i64 N ∧ y = .int .i64 D ∧ N ≤ 1024 * I ∧ D ≤ 1024 * I ∧
      Hid (total (precF n) ((xs.zip ys).drop I) N D = total (precF n) (xs.zip ys) 0 0) ∧ Hid (wr.heap[w.heap.size]? = some (.cells #[.int .i64 0, .int .i64 0] 35)) ∧ Hid (w.Since w.heap.size wr))
    case atStart => exact ⟨0, 0, 0, by omega, by omega, rfl, rfl, rfl, by omega, by omega, Lib.hid rfl, C0, HS⟩
    case round =>
      obtain ⟨I, N, D, hI, rfl, rfl, rfl, rfl, hN, hD, hT, hC, hS⟩ := hrel
      by_cases hlt : I < xs.length
      · obtain ⟨la0, rfl, qa⟩ := HA.out.slots hlt
        obtain ⟨lb0, rfl, qb⟩ := HB.out.slots (show I < ys.length from H2.out ▸ hlt)
        have QQ := Lib.hid (And.intro qa qb)
        clear qa qb
        have hI2 : I < ys.length := H2.out ▸ hlt
        have hltI : (I : Int) < (xs.length : Int) := by omega
        have hltJ : (I : Int) < (ys.length : Int) := by omega
        have KM := Lib.hid (fun (wx : World) (hs : w.Since w.heap.size wx) => matchesN_says xs[I] ys[I] n wx (Ad I) (Bd I) (cp I) (dp I) (HA.out.in_ hs hlt) (HB.out.in_ hs hI2) hn1 hn2 (Nat.le_trans (HA.out.cap I hlt).1 (HA.out.cap I hlt).2) (Nat.le_trans (HB.out.cap I hI2).1 (HB.out.cap I hI2).2))
        have TO := Lib.hid (fun x y => total_ok (f := precF n) (N := N) (D := D) (x := x) (y := y) hlt H2.out)
        have TE := Lib.hid (fun x y z => total_err (f := precF n) (N := N) (D := D) (x := x) (y := y) (z := z) hlt H2.out)
        have hsm := nres_small xs[I] ys[I] n
        have hf : precF n xs[I] ys[I] = ((nres xs[I] ys[I] n).1, (nres xs[I] ys[I] n).2.1, (nres xs[I] ys[I] n).2.2.2) := rfl
        generalize nres xs[I] ys[I] n = q at *
        obtain ⟨m1, m2, m3, m4⟩ := q
        simp only at hsm hf KM
        have HF := Lib.hid hf
        clear hf
        generalize xs[I] = a at *
        generalize ys[I] = b at *
        generalize Ad I = A at *
        generalize Bd I = B at *
        generalize cp I = cA at *
        generalize dp I = cB at *
        have SD := Lib.hid hS.out.drew
        have HI := Lib.hid (And.intro (QQ.out.1 _ SD.out) (QQ.out.2 _ SD.out))
        go_wp2_with fail
        go_region_held3 (fun w' => w'.cell? (la0.add I) = some (.slice A a.length cA) ∧ w'.cell? (lb0.add I) = some (.slice B b.length cB))
          (first
            | exact ⟨HI.out.1, HI.out.2⟩
            | exact ⟨H3.out.1, H3.out.2⟩)
          (first
            | (go_at_call 8; refine (KM.out _ SD.out).mono ?_; rintro e w2 ⟨rfl, hs⟩; have S2 := Lib.hid (since_two SD.out hs); have H3 := Lib.hid (And.intro (QQ.out.1 _ S2.out) (QQ.out.2 _ S2.out)); have C2 := Lib.hid ((hs.block w.heap.size (Array.getElem?_eq_some_iff.1 hC.out).1).trans hC.out); clear hs))
        by_cases hz : m4 = 0
        · subst hz
          have hN2 : Hid (total (precF n) ((xs.zip ys).drop (I + 1)) (N + m1) (D + m2) = total (precF n) (xs.zip ys) 0 0) := Lib.hid (by rw [← TO.out m1 m2 HF.out]; exact hT.out)
          clear hT
          go_wp2_with fail
          go_roundg (xs.length - (I + 1))
          case measure => omega
          case rel => exact ⟨I + 1, N + m1, D + m2, by omega, rfl, by go_num, by go_num, by go_num, by omega, by omega, hN2, C2, S2⟩
        · have hz1 : ((m4 : Int) == 0) = false := by simp; omega
          have hz2 : ((m4 : Int) != 0) = true := by simp; omega
          have hN2 : Hid (total (precF n) (xs.zip ys) 0 0 = ((0, 0), m4)) := Lib.hid (by rw [← hT.out]; exact TE.out m1 m2 m4 HF.out hz)
          clear hT hz
          have k0 : w2.cell? ⟨w.heap.size, 0, none⟩ = some (.int .i64 0) := by simp [World.cell?, C2.out]
          have k1 : w2.cell? ⟨w.heap.size, 1, none⟩ = some (.int .i64 0) := by simp [World.cell?, C2.out]
          have f0 : w2.frozen? ⟨w.heap.size, 0, none⟩ = false := by simp [World.frozen?, C2.out]
          have f1 : w2.frozen? ⟨w.heap.size, 1, none⟩ = false := by simp [World.frozen?, C2.out]
          go_wp2_with fail
          exact bodyPost_ret (v := .tuple #[.agg #[.int .i64 0, .int .i64 0], .int .u8 m4]) (by simp [results, Tryz.results12, go_sem, k0, k1]) rfl ⟨by rw [hN2.out]; rfl, (S2.out.setCell (Nat.le_refl _) _).setCell (Nat.le_refl _) _⟩
      · obtain rfl : I = xs.length := by omega
        have hN2 : Hid (total (precF n) (xs.zip ys) 0 0 = (fr N D, 0)) := Lib.hid (by rw [← hT.out]; exact total_end H2.out)
        clear hT
        go_wp2_with fail
        refine (over_says N D _ (by omega) (by omega)).mono ?_
        rintro e w2 ⟨rfl, hs⟩
        have S2 := Lib.hid (since_two hS.out hs)
        have C2 := Lib.hid ((hs.block w.heap.size (Array.getElem?_eq_some_iff.1 hC.out).1).trans hC.out)
        have k0 : w2.cell? ⟨w.heap.size, 0, none⟩ = some (.int .i64 0) := by simp [World.cell?, C2.out]
        have k1 : w2.cell? ⟨w.heap.size, 1, none⟩ = some (.int .i64 0) := by simp [World.cell?, C2.out]
        have f0 : w2.frozen? ⟨w.heap.size, 0, none⟩ = false := by simp [World.frozen?, C2.out]
        have f1 : w2.frozen? ⟨w.heap.size, 1, none⟩ = false := by simp [World.frozen?, C2.out]
        clear hs
        unfold frV
        obtain ⟨q0, q1⟩ : ∃ q, q = fr N D := ⟨_, rfl⟩
        rw [← q1] at hN2 ⊢
        clear q1
        obtain ⟨x, y⟩ := q0
        go_wp2_with fail
        exact bodyPost_ret (v := .tuple #[.agg #[.int .i64 x, .int .i64 y], .int .u8 0]) (by simp [results, Tryz.results12, go_sem, k0, k1]) rfl ⟨by rw [hN2.out]; rfl, (S2.out.setCell (Nat.le_refl _) _).setCell (Nat.le_refl _) _⟩
  · rw [show scored (precF n) xs ys = ((0, 0), 1) by unfold scored; rw [if_neg h1, if_pos h2]]
    have KE := even_says (w.alloc (.cells #[.int .i64 0, .int .i64 0] 35)) L M xs.length ys.length c d la lb
    rw [show evenR xs.length ys.length = 1 by unfold evenR; rw [if_neg h1, if_pos h2]] at KE
    have HK := Lib.hid KE
    clear KE h2
    go_enter Tryz.func12, Tryz.ntmps12
    go_wp2_with fail
    refine HK.out.mono ?_
    rintro e w1 ⟨rfl, rfl⟩
    go_wp2_with fail
    exact bodyPost_ret (v := .tuple #[.agg #[.int .i64 0, .int .i64 0], .int .u8 1]) (by simp [results, Tryz.results12, go_sem]) rfl ⟨rfl, HS.out⟩
end Go.Proofs.YtgbjcphhcfmpgaaGreatDoor
