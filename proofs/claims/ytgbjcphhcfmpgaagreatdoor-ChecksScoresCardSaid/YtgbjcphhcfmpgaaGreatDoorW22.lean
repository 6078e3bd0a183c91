/- The walk of the law ChecksScores. -/
import Derived.Test.YtgbjcphhcfmpgaaGreatDoorW19
import Derived.Test.YtgbjcphhcfmpgaaGreatDoorW20
import Derived.Test.YtgbjcphhcfmpgaaGreatDoorS3
import Derived.Laws.StructEq
namespace Go.Proofs.YtgbjcphhcfmpgaaGreatDoor
open Go.RowKit Go.Proofs.MapEnt

theorem Lists.up {w wx : World} {L : Option Addr} {Ad : Nat → Option Addr} {ls : List Ws} {cp : Nat → Nat} (h : Lists w w.heap.size L Ad ls cp) (hs : w.Since w.heap.size wx) : Lists wx wx.heap.size L Ad ls cp :=
  ⟨fun i hi => by
    obtain ⟨ad, h0, h1, h2⟩ := h.cell i hi
    exact ⟨ad, h0, Nat.lt_of_lt_of_le h1 hs.size, by rw [hs.cell (by rw [block_add]; exact h1)]; exact h2⟩, fun i hi => strAt_in (h.at_ i hi) hs, h.cap, h.size⟩
set_option maxHeartbeats 6400000 in
set_option maxRecDepth 1000000 in
theorem law_scores (xs ys : List Ws) (n : Int) (w : World) (L M : Option Addr) (Ad Bd : Nat → Option Addr) (cp dp : Nat → Nat) (c d : Nat) (hA : Lists w w.heap.size L Ad xs cp) (hB : Lists w w.heap.size M Bd ys dp)
    (hn1 : -9223372036854775808 ≤ n) (hn2 : n ≤ 9223372036854775807) (la : xs.length ≤ 9223372036854775807) (lb : ys.length ≤ 9223372036854775807) :
    Calls Tryz.prog 5 #[.slice L xs.length c, .slice M ys.length d, .int .i64 n] w fun e w' => e = .returned (.bool true) ∧ w.Since w.heap.size w' := by
  have HA := Lib.hid hA
  have HB := Lib.hid hB
  have HS := Lib.hid (World.Since.refl w.heap.size w)
  have MA := Lib.hid (many_any w w.heap.size L Ad xs cp c hA la)
  have MB := Lib.hid (many_any w w.heap.size M Bd ys dp d hB lb)
  have K1 := Lib.hid (fun (wx : World) hA hB => prec_says xs ys n wx L M Ad Bd cp dp c d hA hB hn1 hn2 la lb)
  have K2 := Lib.hid (fun (wx : World) hA hB => refPrec_says xs ys n wx L M Ad Bd cp dp c d hA hB hn1 hn2 la lb)
  have K3 := Lib.hid (fun (wx : World) hA hB => rate_says xs ys wx L M Ad Bd cp dp c d hA hB la lb)
  have K4 := Lib.hid (fun (wx : World) hA hB => refRate_says xs ys wx L M Ad Bd cp dp c d hA hB la lb)
  generalize scored (precF n) xs ys = q at K1 K2
  generalize scored rateF xs ys = r at K3 K4
  obtain ⟨⟨q1, q2⟩, q3⟩ := q
  obtain ⟨⟨r1, r2⟩, r3⟩ := r
  simp only [scoreV, frV] at K1 K2 K3 K4
  clear hA hB
  by_cases a1 : 6 < xs.length
  · by_cases a2 : xs.length ≤ 256
    · clear K1 K2 K3 K4
      go_enter Tryz.func5, Tryz.ntmps5
      go_wp2_with fail
      refine (says_true _).mono ?_
      rintro e w' ⟨rfl, hw'⟩
      have HW := Lib.hid (since_two HS.out hw')
      clear hw'
      go_wp2_with fail
      go_ret
      exact ⟨rfl, HW.out⟩
    · by_cases a3 : 300 < xs.length
      · clear K1 K2 K3 K4
        go_enter Tryz.func5, Tryz.ntmps5
        go_wp2_with fail
        refine (says_true _).mono ?_
        rintro e w' ⟨rfl, hw'⟩
        have HW := Lib.hid (since_two HS.out hw')
        clear hw'
        go_wp2_with fail
        go_ret
        exact ⟨rfl, HW.out⟩
      · by_cases a4 : 300 < ys.length
        · clear K1 K2 K3 K4
          go_enter Tryz.func5, Tryz.ntmps5
          go_wp2_with fail
          refine (says_true _).mono ?_
          rintro e w' ⟨rfl, hw'⟩
          have HW := Lib.hid (since_two HS.out hw')
          clear hw'
          go_wp2_with fail
          go_ret
          exact ⟨rfl, HW.out⟩
        · as_aux_lemma =>
            go_enter Tryz.func5, Tryz.ntmps5
            go_wp2_with fail
            refine MA.out.mono ?_
            rintro e w' ⟨⟨v, rfl⟩, hw⟩; obtain rfl := hw.symm
            cases v
            · go_wp2_with fail
              refine MB.out.mono ?_
              rintro e w' ⟨⟨v, rfl⟩, hw⟩; obtain rfl := hw.symm
              cases v
              · go_wp2_with fail
                refine (K1.out _ HA.out HB.out).mono ?_
                rintro e w1 ⟨rfl, hs⟩
                have P1 := Lib.hid (since_two HS.out hs)
                clear hs
                have P1a := Lib.hid (since_alloc P1.out (.cells #[.int .i64 (q1 : Nat), .int .i64 (q2 : Nat)] 35))
                have B1 : Hid ((w1.alloc (.cells #[.int .i64 (q1 : Nat), .int .i64 (q2 : Nat)] 35)).heap[w1.heap.size]? = some (.cells #[.int .i64 (q1 : Nat), .int .i64 (q2 : Nat)] 35)) := Lib.hid (heap_alloc_new w1 _)
                go_wp2_with fail
                refine (K2.out _ (HA.out.up P1a.out) (HB.out.up P1a.out)).mono ?_
                rintro e w2 ⟨rfl, hs⟩
                have P2 := Lib.hid (since_two P1a.out hs)
                have B2 := Lib.hid ((hs.block w1.heap.size (by simp)).trans B1.out)
                have P2a := Lib.hid (since_alloc P2.out (.cells #[.int .i64 (q1 : Nat), .int .i64 (q2 : Nat)] 35))
                have B2a := Lib.hid ((Below.heap_alloc w2 (.cells #[.int .i64 (q1 : Nat), .int .i64 (q2 : Nat)] 35) w1.heap.size (Array.getElem?_eq_some_iff.1 B2.out).1).trans B2.out)
                have D2a : Hid ((w2.alloc (.cells #[.int .i64 (q1 : Nat), .int .i64 (q2 : Nat)] 35)).heap[w2.heap.size]? = some (.cells #[.int .i64 (q1 : Nat), .int .i64 (q2 : Nat)] 35)) := Lib.hid (heap_alloc_new w2 _)
                clear hs
                have c0 : (w2.alloc (.cells #[.int .i64 (q1 : Nat), .int .i64 (q2 : Nat)] 35)).cell? ⟨w1.heap.size, 0, none⟩ = some (.int .i64 (q1 : Nat)) := by rw [World.cell?, B2a.out]; rfl
                have c1 : (w2.alloc (.cells #[.int .i64 (q1 : Nat), .int .i64 (q2 : Nat)] 35)).cell? ⟨w1.heap.size, 1, none⟩ = some (.int .i64 (q2 : Nat)) := by rw [World.cell?, B2a.out]; rfl
                go_wp2_with fail
                refine (K3.out _ (HA.out.up P2a.out) (HB.out.up P2a.out)).mono ?_
                rintro e w3 ⟨rfl, hs⟩
                have P3 := Lib.hid (since_two P2a.out hs)
                have B3 := Lib.hid ((hs.block w1.heap.size (Array.getElem?_eq_some_iff.1 B2a.out).1).trans B2a.out)
                have D3 := Lib.hid ((hs.block w2.heap.size (by simp)).trans D2a.out)
                clear hs c0 c1
                have k0 : w3.cell? ⟨w1.heap.size, 0, none⟩ = some (.int .i64 (q1 : Nat)) := by rw [World.cell?, B3.out]; rfl
                have k1 : w3.cell? ⟨w1.heap.size, 1, none⟩ = some (.int .i64 (q2 : Nat)) := by rw [World.cell?, B3.out]; rfl
                have f0 : w3.frozen? ⟨w1.heap.size, 0, none⟩ = false := by rw [World.frozen?, B3.out]; rfl
                have f1 : w3.frozen? ⟨w1.heap.size, 1, none⟩ = false := by rw [World.frozen?, B3.out]; rfl
                have hlow : w.heap.size ≤ w1.heap.size := P1.out.size
                have hne : w1.heap.size < w2.heap.size := (Array.getElem?_eq_some_iff.1 B2.out).1
                have hl2 : w2.heap.size < w3.heap.size := (Array.getElem?_eq_some_iff.1 D3.out).1
                go_wp2_with fail
                obtain ⟨w4, hw4⟩ : ∃ w4, w4 = (w3.setCell ⟨w1.heap.size, 0, none⟩ (.int .i64 (r1 : Nat))).setCell ⟨w1.heap.size, 1, none⟩ (.int .i64 (r2 : Nat)) := ⟨_, rfl⟩
                rw [← hw4]
                have P4 : Hid (w.Since w.heap.size w4) := Lib.hid (by rw [hw4]; exact (P3.out.setCell hlow _).setCell hlow _)
                have e0 : Hid (w4.cell? ⟨w1.heap.size, 0, none⟩ = some (.int .i64 (r1 : Nat)) ∧ w4.cell? ⟨w1.heap.size, 1, none⟩ = some (.int .i64 (r2 : Nat)) ∧ w4.heap[w2.heap.size]? = some (.cells #[.int .i64 (q1 : Nat), .int .i64 (q2 : Nat)] 35) ∧ w4.heap.size = w3.heap.size) := Lib.hid (by
                  rw [hw4]
                  refine ⟨(World.cell?_setCell_other _ _ _ _ (by simp)).trans (World.cell?_setCell_same _ _ _ k0), World.cell?_setCell_same _ _ _ ((World.cell?_setCell_other _ _ _ _ (by simp)).trans k1), ?_, by simp⟩
                  rw [Deep.blk_setCell_other _ _ _ _ (Nat.ne_of_gt hne), Deep.blk_setCell_other _ _ _ _ (Nat.ne_of_gt hne)]
                  exact D3.out)
                clear hw4 k0 k1 f0 f1
                refine (K4.out _ (HA.out.up P4.out) (HB.out.up P4.out)).mono ?_
                rintro e w5 ⟨rfl, hs⟩
                have P5 := Lib.hid (since_two P4.out hs)
                have k0 : w5.cell? ⟨w1.heap.size, 0, none⟩ = some (.int .i64 (r1 : Nat)) := by rw [hs.cell (by rw [e0.out.2.2.2]; exact Nat.lt_trans hne hl2)]; exact e0.out.1
                have k1 : w5.cell? ⟨w1.heap.size, 1, none⟩ = some (.int .i64 (r2 : Nat)) := by rw [hs.cell (by rw [e0.out.2.2.2]; exact Nat.lt_trans hne hl2)]; exact e0.out.2.1
                have D5 := Lib.hid ((hs.block w2.heap.size (by rw [e0.out.2.2.2]; exact hl2)).trans e0.out.2.2.1)
                have k2 : w5.cell? ⟨w2.heap.size, 0, none⟩ = some (.int .i64 (q1 : Nat)) := by rw [World.cell?, D5.out]; rfl
                have k3 : w5.cell? ⟨w2.heap.size, 1, none⟩ = some (.int .i64 (q2 : Nat)) := by rw [World.cell?, D5.out]; rfl
                have f0 : w5.frozen? ⟨w2.heap.size, 0, none⟩ = false := by rw [World.frozen?, D5.out]; rfl
                have f1 : w5.frozen? ⟨w2.heap.size, 1, none⟩ = false := by rw [World.frozen?, D5.out]; rfl
                clear hs
                have hn1 : ¬ w1.heap.size = w2.heap.size := by omega
                have hn2 : ¬ w2.heap.size = w1.heap.size := by omega
                have PA := Lib.hid ((P5.out.setCell (a := ⟨w2.heap.size, 0, none⟩) (Nat.le_trans hlow (Nat.le_of_lt hne)) (.int .i64 (r1 : Nat))).setCell (a := ⟨w2.heap.size, 1, none⟩) (Nat.le_trans hlow (Nat.le_of_lt hne)) (.int .i64 (r2 : Nat)))
                go_wp2_with fail
                refine (says_true _).mono ?_
                rintro e w6 ⟨rfl, hs⟩
                have PZ := Lib.hid (since_two PA.out hs)
                clear hs
                go_wp2_with fail
                go_ret
                exact ⟨rfl, PZ.out⟩
              · go_wp2_with fail
                refine (says_true _).mono ?_
                rintro e w' ⟨rfl, hw'⟩
                have HW := Lib.hid (since_two HS.out hw')
                clear hw'
                go_wp2_with fail
                go_ret
                exact ⟨rfl, HW.out⟩
            · go_wp2_with fail
              refine (says_true _).mono ?_
              rintro e w' ⟨rfl, hw'⟩
              have HW := Lib.hid (since_two HS.out hw')
              clear hw'
              go_wp2_with fail
              go_ret
              exact ⟨rfl, HW.out⟩
  · by_cases a4 : 300 < ys.length
    · clear K1 K2 K3 K4
      go_enter Tryz.func5, Tryz.ntmps5
      go_wp2_with fail
      refine (says_true _).mono ?_
      rintro e w' ⟨rfl, hw'⟩
      have HW := Lib.hid (since_two HS.out hw')
      clear hw'
      go_wp2_with fail
      go_ret
      exact ⟨rfl, HW.out⟩
    · as_aux_lemma =>
        go_enter Tryz.func5, Tryz.ntmps5
        go_wp2_with fail
        refine MA.out.mono ?_
        rintro e w' ⟨⟨v, rfl⟩, hw⟩; obtain rfl := hw.symm
        cases v
        · go_wp2_with fail
          refine MB.out.mono ?_
          rintro e w' ⟨⟨v, rfl⟩, hw⟩; obtain rfl := hw.symm
          cases v
          · go_wp2_with fail
            refine (K1.out _ HA.out HB.out).mono ?_
            rintro e w1 ⟨rfl, hs⟩
            have P1 := Lib.hid (since_two HS.out hs)
            clear hs
            have P1a := Lib.hid (since_alloc P1.out (.cells #[.int .i64 (q1 : Nat), .int .i64 (q2 : Nat)] 35))
            have B1 : Hid ((w1.alloc (.cells #[.int .i64 (q1 : Nat), .int .i64 (q2 : Nat)] 35)).heap[w1.heap.size]? = some (.cells #[.int .i64 (q1 : Nat), .int .i64 (q2 : Nat)] 35)) := Lib.hid (heap_alloc_new w1 _)
            go_wp2_with fail
            refine (K2.out _ (HA.out.up P1a.out) (HB.out.up P1a.out)).mono ?_
            rintro e w2 ⟨rfl, hs⟩
            have P2 := Lib.hid (since_two P1a.out hs)
            have B2 := Lib.hid ((hs.block w1.heap.size (by simp)).trans B1.out)
            have P2a := Lib.hid (since_alloc P2.out (.cells #[.int .i64 (q1 : Nat), .int .i64 (q2 : Nat)] 35))
            have B2a := Lib.hid ((Below.heap_alloc w2 (.cells #[.int .i64 (q1 : Nat), .int .i64 (q2 : Nat)] 35) w1.heap.size (Array.getElem?_eq_some_iff.1 B2.out).1).trans B2.out)
            have D2a : Hid ((w2.alloc (.cells #[.int .i64 (q1 : Nat), .int .i64 (q2 : Nat)] 35)).heap[w2.heap.size]? = some (.cells #[.int .i64 (q1 : Nat), .int .i64 (q2 : Nat)] 35)) := Lib.hid (heap_alloc_new w2 _)
            clear hs
            have c0 : (w2.alloc (.cells #[.int .i64 (q1 : Nat), .int .i64 (q2 : Nat)] 35)).cell? ⟨w1.heap.size, 0, none⟩ = some (.int .i64 (q1 : Nat)) := by rw [World.cell?, B2a.out]; rfl
            have c1 : (w2.alloc (.cells #[.int .i64 (q1 : Nat), .int .i64 (q2 : Nat)] 35)).cell? ⟨w1.heap.size, 1, none⟩ = some (.int .i64 (q2 : Nat)) := by rw [World.cell?, B2a.out]; rfl
            go_wp2_with fail
            refine (K3.out _ (HA.out.up P2a.out) (HB.out.up P2a.out)).mono ?_
            rintro e w3 ⟨rfl, hs⟩
            have P3 := Lib.hid (since_two P2a.out hs)
            have B3 := Lib.hid ((hs.block w1.heap.size (Array.getElem?_eq_some_iff.1 B2a.out).1).trans B2a.out)
            have D3 := Lib.hid ((hs.block w2.heap.size (by simp)).trans D2a.out)
            clear hs c0 c1
            have k0 : w3.cell? ⟨w1.heap.size, 0, none⟩ = some (.int .i64 (q1 : Nat)) := by rw [World.cell?, B3.out]; rfl
            have k1 : w3.cell? ⟨w1.heap.size, 1, none⟩ = some (.int .i64 (q2 : Nat)) := by rw [World.cell?, B3.out]; rfl
            have f0 : w3.frozen? ⟨w1.heap.size, 0, none⟩ = false := by rw [World.frozen?, B3.out]; rfl
            have f1 : w3.frozen? ⟨w1.heap.size, 1, none⟩ = false := by rw [World.frozen?, B3.out]; rfl
            have hlow : w.heap.size ≤ w1.heap.size := P1.out.size
            have hne : w1.heap.size < w2.heap.size := (Array.getElem?_eq_some_iff.1 B2.out).1
            have hl2 : w2.heap.size < w3.heap.size := (Array.getElem?_eq_some_iff.1 D3.out).1
            go_wp2_with fail
            obtain ⟨w4, hw4⟩ : ∃ w4, w4 = (w3.setCell ⟨w1.heap.size, 0, none⟩ (.int .i64 (r1 : Nat))).setCell ⟨w1.heap.size, 1, none⟩ (.int .i64 (r2 : Nat)) := ⟨_, rfl⟩
            rw [← hw4]
            have P4 : Hid (w.Since w.heap.size w4) := Lib.hid (by rw [hw4]; exact (P3.out.setCell hlow _).setCell hlow _)
            have e0 : Hid (w4.cell? ⟨w1.heap.size, 0, none⟩ = some (.int .i64 (r1 : Nat)) ∧ w4.cell? ⟨w1.heap.size, 1, none⟩ = some (.int .i64 (r2 : Nat)) ∧ w4.heap[w2.heap.size]? = some (.cells #[.int .i64 (q1 : Nat), .int .i64 (q2 : Nat)] 35) ∧ w4.heap.size = w3.heap.size) := Lib.hid (by
              rw [hw4]
              refine ⟨(World.cell?_setCell_other _ _ _ _ (by simp)).trans (World.cell?_setCell_same _ _ _ k0), World.cell?_setCell_same _ _ _ ((World.cell?_setCell_other _ _ _ _ (by simp)).trans k1), ?_, by simp⟩
              rw [Deep.blk_setCell_other _ _ _ _ (Nat.ne_of_gt hne), Deep.blk_setCell_other _ _ _ _ (Nat.ne_of_gt hne)]
              exact D3.out)
            clear hw4 k0 k1 f0 f1
            refine (K4.out _ (HA.out.up P4.out) (HB.out.up P4.out)).mono ?_
            rintro e w5 ⟨rfl, hs⟩
            have P5 := Lib.hid (since_two P4.out hs)
            have k0 : w5.cell? ⟨w1.heap.size, 0, none⟩ = some (.int .i64 (r1 : Nat)) := by rw [hs.cell (by rw [e0.out.2.2.2]; exact Nat.lt_trans hne hl2)]; exact e0.out.1
            have k1 : w5.cell? ⟨w1.heap.size, 1, none⟩ = some (.int .i64 (r2 : Nat)) := by rw [hs.cell (by rw [e0.out.2.2.2]; exact Nat.lt_trans hne hl2)]; exact e0.out.2.1
            have D5 := Lib.hid ((hs.block w2.heap.size (by rw [e0.out.2.2.2]; exact hl2)).trans e0.out.2.2.1)
            have k2 : w5.cell? ⟨w2.heap.size, 0, none⟩ = some (.int .i64 (q1 : Nat)) := by rw [World.cell?, D5.out]; rfl
            have k3 : w5.cell? ⟨w2.heap.size, 1, none⟩ = some (.int .i64 (q2 : Nat)) := by rw [World.cell?, D5.out]; rfl
            have f0 : w5.frozen? ⟨w2.heap.size, 0, none⟩ = false := by rw [World.frozen?, D5.out]; rfl
            have f1 : w5.frozen? ⟨w2.heap.size, 1, none⟩ = false := by rw [World.frozen?, D5.out]; rfl
            clear hs
            have hn1 : ¬ w1.heap.size = w2.heap.size := by omega
            have hn2 : ¬ w2.heap.size = w1.heap.size := by omega
            have PA := Lib.hid ((P5.out.setCell (a := ⟨w2.heap.size, 0, none⟩) (Nat.le_trans hlow (Nat.le_of_lt hne)) (.int .i64 (r1 : Nat))).setCell (a := ⟨w2.heap.size, 1, none⟩) (Nat.le_trans hlow (Nat.le_of_lt hne)) (.int .i64 (r2 : Nat)))
            go_wp2_with fail
            refine (says_true _).mono ?_
            rintro e w6 ⟨rfl, hs⟩
            have PZ := Lib.hid (since_two PA.out hs)
            clear hs
            go_wp2_with fail
            go_ret
            exact ⟨rfl, PZ.out⟩
          · go_wp2_with fail
            refine (says_true _).mono ?_
            rintro e w' ⟨rfl, hw'⟩
            have HW := Lib.hid (since_two HS.out hw')
            clear hw'
            go_wp2_with fail
            go_ret
            exact ⟨rfl, HW.out⟩
        · go_wp2_with fail
          refine (says_true _).mono ?_
          rintro e w' ⟨rfl, hw'⟩
          have HW := Lib.hid (since_two HS.out hw')
          clear hw'
          go_wp2_with fail
          go_ret
          exact ⟨rfl, HW.out⟩
end Go.Proofs.YtgbjcphhcfmpgaaGreatDoor
