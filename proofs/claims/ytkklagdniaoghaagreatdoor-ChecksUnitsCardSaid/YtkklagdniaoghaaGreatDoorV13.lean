/- The walk of UnitF: refusals. -/
import Derived.Test.YtkklagdniaoghaaGreatDoorV12
namespace Go.Proofs.YtkklagdniaoghaaGreatDoor
open Go.RowKit Go.Proofs.Uni
open Go.Proofs.Frac (fr fr_den fr_num_le fr_den_le)

theorem Tabs.up {w w' : World} (h : Tabs w) (hb : w.Since w.heap.size w') : Tabs w' := by
  have lt : ∀ {a : Addr} {v : Value}, w.cell? a = some v → a.block < w.heap.size := fun {a v} hc => by
    rcases Nat.lt_or_ge a.block w.heap.size with h' | h'
    · exact h'
    · simp [World.cell?, Array.getElem?_eq_none h'] at hc
  exact ⟨fun c hc => (hb.cell (lt (h.1 c hc))).trans (h.1 c hc), fun i hi => ⟨(hb.cell (lt (h.2 i hi).1)).trans (h.2 i hi).1, (hb.cell (lt (h.2 i hi).2)).trans (h.2 i hi).2⟩⟩
set_option maxHeartbeats 6400000 in
set_option maxRecDepth 1000000 in
theorem unit_not (s t : ByteArray) (n b : Int) (w : World) (hs : s.size ≤ 100000000) (ht : t.size ≤ 100000000) (hT : Tabs w) (h : (isT s && isT t) = false) :
    Calls Tryz.prog 7 #[.string s, .string t, .int .i64 n, .int .i64 b] w (UnitSay ((0, 0), 4) w) := by
  have K1 := Lib.hid (fun wx hT => isText_says s wx hs hT)
  have K2 := Lib.hid (fun wx hT => isText_says t wx ht hT)
  have S0 : Hid (w.Since w.heap.size (w.alloc (.cells #[.int .i64 0, .int .i64 0] 25))) := Lib.hid ((World.Since.refl w.heap.size w).alloc (Nat.le_refl _) _)
  have T0 : Hid (Tabs (w.alloc (.cells #[.int .i64 0, .int .i64 0] 25))) := Lib.hid (hT.up ((World.Since.refl w.heap.size w).alloc (Nat.le_refl _) _))
  clear hT
  generalize isT s = x at *
  generalize isT t = y at *
  have HCs := Lib.hid (fun w2 => box_cells w w2)
  cases x
  · clear h K2
    go_enter Tryz.func7, Tryz.ntmps7
    go_wp2_with fail
    refine (K1.out _ T0.out).mono ?_
    rintro e w2 ⟨rfl, hs2⟩
    obtain ⟨⟨c0, c1⟩, ⟨f0, f1⟩⟩ := HCs.out _ hs2
    have S2 := Lib.hid (since_two S0.out hs2)
    clear hs2 HCs
    go_wp2_with fail
    exact bodyPost_ret (v := unitV ((0, 0), 4)) (by simp [results, Tryz.results7, go_sem, c0, c1, unitV, frV]) rfl ⟨rfl, ((S2.out.setCell (Nat.le_refl _) _).setCell (Nat.le_refl _) _)⟩
  · cases y
    · clear h
      go_enter Tryz.func7, Tryz.ntmps7
      go_wp2_with fail
      refine (K1.out _ T0.out).mono ?_
      rintro e w1 ⟨rfl, hs1⟩
      go_wp2_with fail
      refine (K2.out _ (T0.out.up hs1)).mono ?_
      rintro e w2 ⟨rfl, hs2⟩
      have hs3 := since_two hs1 hs2
      obtain ⟨⟨c0, c1⟩, ⟨f0, f1⟩⟩ := HCs.out _ hs3
      have S2 := Lib.hid (since_two S0.out hs3)
      clear hs1 hs2 hs3 HCs
      go_wp2_with fail
      exact bodyPost_ret (v := unitV ((0, 0), 4)) (by simp [results, Tryz.results7, go_sem, c0, c1, unitV, frV]) rfl ⟨rfl, ((S2.out.setCell (Nat.le_refl _) _).setCell (Nat.le_refl _) _)⟩
    · cases h
set_option maxHeartbeats 6400000 in
set_option maxRecDepth 1000000 in
theorem unit_long (s t : ByteArray) (n b : Int) (w : World) (hs : s.size ≤ 100000000) (ht : t.size ≤ 100000000) (hT : Tabs w) (h1 : isT s = true) (h2 : isT t = true) (h : 200 < (uni s).length ∨ 200 < (uni t).length) :
    Calls Tryz.prog 7 #[.string s, .string t, .int .i64 n, .int .i64 b] w (UnitSay ((0, 0), 3) w) := by
  have K1 := Lib.hid (fun wx hT => isText_says s wx hs hT)
  have K2 := Lib.hid (fun wx hT => isText_says t wx ht hT)
  rw [h1] at K1
  rw [h2] at K2
  have M1 := Lib.hid (fun wx => split_says s wx hs)
  have M2 := Lib.hid (fun wx => split_says t wx ht)
  have S0 : Hid (w.Since w.heap.size (w.alloc (.cells #[.int .i64 0, .int .i64 0] 25))) := Lib.hid ((World.Since.refl w.heap.size w).alloc (Nat.le_refl _) _)
  have T0 : Hid (Tabs (w.alloc (.cells #[.int .i64 0, .int .i64 0] 25))) := Lib.hid (hT.up ((World.Since.refl w.heap.size w).alloc (Nat.le_refl _) _))
  clear hT
  have HCs := Lib.hid (fun w2 => box_cells w w2)
  unfold UniSay at M1 M2
  have l1 := uni_len s
  have l2 := uni_len t
  generalize uni s = xs at *
  generalize uni t = ys at *
  go_enter Tryz.func7, Tryz.ntmps7
  go_wp2_with fail
  refine (K1.out _ T0.out).mono ?_
  rintro e w1 ⟨rfl, hs1⟩
  go_wp2_with fail
  refine (K2.out _ (T0.out.up hs1)).mono ?_
  rintro e w2 ⟨rfl, hs2⟩
  have hs3 := since_two hs1 hs2
  clear hs1 hs2
  go_wp2_with fail
  refine (M1.out _).mono ?_
  rintro e w3 ⟨A, c, rfl, hA, hs4⟩
  have hs5 := since_two hs3 hs4
  clear hs3 hs4 hA
  go_wp2_with fail
  refine (M2.out _).mono ?_
  rintro e w4 ⟨B, d, rfl, hB, hs6⟩
  have hs7 := since_two hs5 hs6
  clear hs5 hs6 hB
  obtain ⟨⟨c0, c1⟩, ⟨f0, f1⟩⟩ := HCs.out _ hs7
  have S2 := Lib.hid (since_two S0.out hs7)
  clear hs7 HCs
  by_cases hx : 200 < xs.length
  · have hx1 : (200 : Int) < (xs.length : Int) := by omega
    clear h
    go_wp2_with fail
    exact bodyPost_ret (v := unitV ((0, 0), 3)) (by simp [results, Tryz.results7, go_sem, c0, c1, unitV, frV]) rfl ⟨rfl, ((S2.out.setCell (Nat.le_refl _) _).setCell (Nat.le_refl _) _)⟩
  · have hx1 : ¬ (200 : Int) < (xs.length : Int) := by omega
    have hy1 : (200 : Int) < (ys.length : Int) := by omega
    clear h
    go_wp2_with fail
    exact bodyPost_ret (v := unitV ((0, 0), 3)) (by simp [results, Tryz.results7, go_sem, c0, c1, unitV, frV]) rfl ⟨rfl, ((S2.out.setCell (Nat.le_refl _) _).setCell (Nat.le_refl _) _)⟩
set_option maxHeartbeats 6400000 in
set_option maxRecDepth 1000000 in
theorem unit_bad (s t : ByteArray) (n b : Int) (w : World) (hs : s.size ≤ 100000000) (ht : t.size ≤ 100000000) (hT : Tabs w) (h1 : isT s = true) (h2 : isT t = true) (h3 : (uni s).length ≤ 200) (h4 : (uni t).length ≤ 200) (h : n < 1 ∨ 3 < n ∨ b < 1 ∨ 3 < b) :
    Calls Tryz.prog 7 #[.string s, .string t, .int .i64 n, .int .i64 b] w (UnitSay ((0, 0), 1) w) := by
  have K1 := Lib.hid (fun wx hT => isText_says s wx hs hT)
  have K2 := Lib.hid (fun wx hT => isText_says t wx ht hT)
  rw [h1] at K1
  rw [h2] at K2
  have M1 := Lib.hid (fun wx => split_says s wx hs)
  have M2 := Lib.hid (fun wx => split_says t wx ht)
  have S0 : Hid (w.Since w.heap.size (w.alloc (.cells #[.int .i64 0, .int .i64 0] 25))) := Lib.hid ((World.Since.refl w.heap.size w).alloc (Nat.le_refl _) _)
  have T0 : Hid (Tabs (w.alloc (.cells #[.int .i64 0, .int .i64 0] 25))) := Lib.hid (hT.up ((World.Since.refl w.heap.size w).alloc (Nat.le_refl _) _))
  clear hT
  have HCs := Lib.hid (fun w2 => box_cells w w2)
  unfold UniSay at M1 M2
  have l1 := uni_len s
  have l2 := uni_len t
  generalize uni s = xs at *
  generalize uni t = ys at *
  go_enter Tryz.func7, Tryz.ntmps7
  go_wp2_with fail
  refine (K1.out _ T0.out).mono ?_
  rintro e w1 ⟨rfl, hs1⟩
  go_wp2_with fail
  refine (K2.out _ (T0.out.up hs1)).mono ?_
  rintro e w2 ⟨rfl, hs2⟩
  have hs3 := since_two hs1 hs2
  clear hs1 hs2
  go_wp2_with fail
  refine (M1.out _).mono ?_
  rintro e w3 ⟨A, c, rfl, hA, hs4⟩
  have hs5 := since_two hs3 hs4
  clear hs3 hs4 hA
  go_wp2_with fail
  refine (M2.out _).mono ?_
  rintro e w4 ⟨B, d, rfl, hB, hs6⟩
  have hs7 := since_two hs5 hs6
  clear hs5 hs6 hB
  obtain ⟨⟨c0, c1⟩, ⟨f0, f1⟩⟩ := HCs.out _ hs7
  have S2 := Lib.hid (since_two S0.out hs7)
  clear hs7 HCs
  have hx1 : ¬ (200 : Int) < (xs.length : Int) := by omega
  have hy1 : ¬ (200 : Int) < (ys.length : Int) := by omega
  by_cases p1 : n < 1
  · clear h
    go_wp2_with fail
    exact bodyPost_ret (v := unitV ((0, 0), 1)) (by simp [results, Tryz.results7, go_sem, c0, c1, unitV, frV]) rfl ⟨rfl, ((S2.out.setCell (Nat.le_refl _) _).setCell (Nat.le_refl _) _)⟩
  · by_cases p2 : 3 < n
    · clear h
      go_wp2_with fail
      exact bodyPost_ret (v := unitV ((0, 0), 1)) (by simp [results, Tryz.results7, go_sem, c0, c1, unitV, frV]) rfl ⟨rfl, ((S2.out.setCell (Nat.le_refl _) _).setCell (Nat.le_refl _) _)⟩
    · by_cases p3 : b < 1
      · clear h
        go_wp2_with fail
        exact bodyPost_ret (v := unitV ((0, 0), 1)) (by simp [results, Tryz.results7, go_sem, c0, c1, unitV, frV]) rfl ⟨rfl, ((S2.out.setCell (Nat.le_refl _) _).setCell (Nat.le_refl _) _)⟩
      · have p4 : 3 < b := by omega
        clear h
        go_wp2_with fail
        exact bodyPost_ret (v := unitV ((0, 0), 1)) (by simp [results, Tryz.results7, go_sem, c0, c1, unitV, frV]) rfl ⟨rfl, ((S2.out.setCell (Nat.le_refl _) _).setCell (Nat.le_refl _) _)⟩
end Go.Proofs.YtkklagdniaoghaaGreatDoor
