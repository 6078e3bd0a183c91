/- The law ChecksIntervals, walked. -/
import Derived.Test.YtkklagdniaoghaaGreatDoorS3
import Derived.Test.YtkklagdniaoghaaGreatDoorP7
import Derived.Test.YtkklagdniaoghaaGreatDoorPA
namespace Go.Proofs.YtkklagdniaoghaaGreatDoor
open Go.RowKit Go.Proofs.Rank Go.Sort Go.Proofs.MapEnt
open Go.Proofs.Frac (fr)

theorem busy_no {n : Nat} {ds : List (List Int)} (h : busyF n ds = false) : ds.length ≤ 40 ∨ 1000 < ds.length := by
  unfold busyF at h
  rw [Bool.or_eq_false_iff] at h
  have := of_decide_eq_false h.1
  omega
/-- What an interval is, by its parts alone. -/
theorem ivl_one {ps : List (Int × Int)} {ds : List (List Int)} {out : Int} {lo hi lo' hi' : Nat × Nat}
    (h1 : ivlE ps ds out ≠ 0 → lo = (0, 0) ∧ hi = (0, 0)) (h2 : ivlE ps ds out = 0 → ∃ L, Ranks ps ds L ∧ lo = L.getD (place ds.length out.toNat) (0, 0) ∧ hi = L.getD (ds.length - 1 - place ds.length out.toNat) (0, 0))
    (h1' : ivlE ps ds out ≠ 0 → lo' = (0, 0) ∧ hi' = (0, 0)) (h2' : ivlE ps ds out = 0 → ∃ L, Ranks ps ds L ∧ lo' = L.getD (place ds.length out.toNat) (0, 0) ∧ hi' = L.getD (ds.length - 1 - place ds.length out.toNat) (0, 0)) : lo = lo' ∧ hi = hi' := by
  by_cases h : ivlE ps ds out = 0
  · obtain ⟨L, hL, rfl, rfl⟩ := h2 h
    obtain ⟨M, hM, rfl, rfl⟩ := h2' h
    rw [ranks_one hL hM]
    exact ⟨rfl, rfl⟩
  · obtain ⟨rfl, rfl⟩ := h1 h
    obtain ⟨rfl, rfl⟩ := h1' h
    exact ⟨rfl, rfl⟩
theorem err_le {ps : List (Int × Int)} {ds : List (List Int)} {out : Int} : ivlE ps ds out ≤ 3 := by
  unfold ivlE
  split
  · exact sampE_le _ _
  · split <;> decide
theorem ret_tt {w w' : World} (h : w.Since w.heap.size w') : Ending.returned (.bool true) = .returned (.bool true) ∧ w.Since w.heap.size w' := ⟨rfl, h⟩
set_option maxHeartbeats 3200000 in
set_option maxRecDepth 1000000 in
theorem law_intervals (a b : List (Int × Int)) (ds : List (List Int)) (out : Int) (A B D : Option Addr) (c cb k : Nat) (w : World) (hA : PIn w A c a) (hB : PIn w B cb b) (hD : DIn w D k ds) (hl : c ≤ 9223372036854775807) (hlb : cb ≤ 9223372036854775807) (hk : k ≤ 9223372036854775807) (hd : ∀ d ∈ ds, d.length ≤ 9223372036854775807)
    (ho1 : -9223372036854775808 ≤ out) (ho2 : out ≤ 9223372036854775807) :
    Calls Tryz.prog 4 #[.slice A a.length c, .slice B b.length cb, .slice D ds.length k, .int .i64 out] w fun e w' => e = .returned (.bool true) ∧ w.Since w.heap.size w' := by
  have K1 := Lib.hid (busy_says a.length ds A D c k w hD hk hA.cap hl hd)
  have K2 := Lib.hid (busy_says b.length ds B D cb k w hD hk hB.cap hlb hd)
  have KS := Lib.hid says_true
  have HN := Lib.hid (busy_no (n := a.length) (ds := ds))
  have K3 := Lib.hid (fun h => interval_says a ds out A D c k w hA hD hl hk hd ho1 ho2 h)
  have K4 := Lib.hid (fun wx (hs : w.Since w.heap.size wx) => refInterval_says a ds out A D c k wx (hA.up hs) (hD.up hs) hl hk hd ho1 ho2)
  have K5 := Lib.hid (fun wx (hs : w.Since w.heap.size wx) => better_says a b ds A B D c cb k wx (hA.up hs) (hB.up hs) (hD.up hs) hl hlb hk hd)
  have K6 := Lib.hid (fun wx (hs : w.Since w.heap.size wx) => refBetter_says a b ds A B D c cb k wx (hA.up hs) (hB.up hs) (hD.up hs) hl hlb hk hd)
  have HI := Lib.hid (fun lo hi lo' hi' => ivl_one (ps := a) (ds := ds) (out := out) (lo := lo) (hi := hi) (lo' := lo') (hi' := hi'))
  unfold IvlSay at K3 K4
  unfold BetSay at K5 K6
  generalize hE : ivlE a ds out = E at *
  generalize (if betE a b ds = 0 then more a b ds else 0) = m1 at *
  generalize (if betE a b ds = 0 then more b a ds else 0) = m2 at *
  generalize betE a b ds = E2 at *
  clear hA hB hD hd hE
  generalize busyF a.length ds = f1 at *
  generalize busyF b.length ds = f2 at *
  go_enter Tryz.func4, Tryz.ntmps4
  go_wp2_with fail
  refine K1.out.mono ?_
  rintro e w1 ⟨rfl, rfl⟩
  clear K1
  cases f1
  case true =>
    clear HN K2 K3 K4 K5 K6 HI
    go_wp2_with fail
    refine (KS.out _).mono ?_
    rintro e w2 ⟨rfl, hs⟩
    have S2 := Lib.hid hs
    clear hs
    go_wp2_with fail
    go_ret
    exact ret_tt S2.out
  have H40 := Lib.hid (HN.out (by trivial))
  clear HN
  go_wp2_with fail
  refine K2.out.mono ?_
  rintro e w1 ⟨rfl, rfl⟩
  clear K2
  cases f2
  case true =>
    clear K3 K4 K5 K6 HI
    go_wp2_with fail
    refine (KS.out _).mono ?_
    rintro e w2 ⟨rfl, hs⟩
    have S2 := Lib.hid hs
    clear hs
    go_wp2_with fail
    go_ret
    exact ret_tt S2.out
  go_wp2_with fail
  refine (K3.out H40.out).mono ?_
  rintro e w2 ⟨lo, hi, rfl, hs, hx, hy⟩
  have S2 := Lib.hid hs
  have HX := Lib.hid (fun lo' hi' => HI.out lo hi lo' hi' hx hy)
  clear hs hx hy K3 HI
  obtain ⟨l1, l2⟩ := lo
  obtain ⟨h1, h2⟩ := hi
  unfold frV
  simp only
  have S3 := Lib.hid ((S2.out.alloc S2.out.size (.cells #[.int .i64 (l1 : Nat), .int .i64 (l2 : Nat)] 25)).alloc (by have := S2.out.size; simp; omega) (.cells #[.int .i64 (h1 : Nat), .int .i64 (h2 : Nat)] 25))
  go_wp2_with fail
  obtain ⟨x3, hx3⟩ : ∃ y, y = (w2.alloc (.cells #[.int .i64 (l1 : Nat), .int .i64 (l2 : Nat)] 25)).alloc (.cells #[.int .i64 (h1 : Nat), .int .i64 (h2 : Nat)] 25) := ⟨_, rfl⟩
  have C3 : Hid (x3.cell? ⟨w2.heap.size, 0, none⟩ = some (.int .i64 (l1 : Nat)) ∧ x3.cell? ⟨w2.heap.size, 1, none⟩ = some (.int .i64 (l2 : Nat)) ∧ x3.cell? ⟨w2.heap.size + 1, 0, none⟩ = some (.int .i64 (h1 : Nat)) ∧ x3.cell? ⟨w2.heap.size + 1, 1, none⟩ = some (.int .i64 (h2 : Nat)) ∧ w2.heap.size + 1 < x3.heap.size) := Lib.hid (by
    rw [hx3]
    have e1 : (w2.alloc (.cells #[.int .i64 (l1 : Nat), .int .i64 (l2 : Nat)] 25)).heap.size = w2.heap.size + 1 := by simp
    refine ⟨by simp, by simp, ?_, ?_, by simp⟩
    · rw [← e1]; simp
    · rw [← e1]; simp)
  rw [← hx3] at S3 ⊢
  clear hx3
  refine (K4.out _ S3.out).mono ?_
  rintro e w4 ⟨lo, hi, rfl, hs, hx, hy⟩
  obtain ⟨rfl, rfl⟩ := HX.out lo hi hx hy
  have S4 := Lib.hid (since_two S3.out hs)
  have cl : ∀ j i v, j ≤ w2.heap.size + 1 → x3.cell? ⟨j, i, none⟩ = some v → ∀ o o', ((w4.alloc o).alloc o').cell? ⟨j, i, none⟩ = some v := fun j i v hj h o o' => by
    have hlt : j < x3.heap.size := by have := C3.out.2.2.2.2; omega
    have hlt2 : j < w4.heap.size := Nat.lt_of_lt_of_le hlt hs.size
    rw [World.cell?_alloc_lt _ _ _ (show j < (w4.alloc o).heap.size by simp; omega), World.cell?_alloc_lt _ _ _ hlt2]
    exact (hs.cell (a := ⟨j, i, none⟩) hlt).trans h
  have g0 := cl _ _ _ (by omega) C3.out.1
  have g1 := cl _ _ _ (by omega) C3.out.2.1
  have g2 := cl _ _ _ (by omega) C3.out.2.2.1
  have g3 := cl _ _ _ (by omega) C3.out.2.2.2.1
  have S5 := Lib.hid ((S4.out.alloc S4.out.size (.cells #[.int .i64 (l1 : Nat), .int .i64 (l2 : Nat)] 25)).alloc (by have := S4.out.size; simp; omega) (.cells #[.int .i64 (h1 : Nat), .int .i64 (h2 : Nat)] 25))
  clear hs hx hy cl C3 HX K4 S2 S3 S4
  unfold frV
  simp only
  go_wp2_with fail
  refine (K5.out _ S5.out).mono ?_
  rintro e w6 ⟨rfl, hs⟩
  have S6 := Lib.hid (since_two S5.out hs)
  clear hs K5 S5 g0 g1 g2 g3
  go_wp2_with fail
  refine (K6.out _ S6.out).mono ?_
  rintro e w7 ⟨rfl, hs⟩
  have S7 := Lib.hid (since_two S6.out hs)
  clear hs K6 S6
  go_wp2_with fail
  refine (KS.out _).mono ?_
  rintro e w8 ⟨rfl, hs⟩
  have S8 := Lib.hid (since_two S7.out hs)
  clear hs KS S7
  go_wp2_with fail
  go_ret
  exact ret_tt S8.out
end Go.Proofs.YtkklagdniaoghaaGreatDoor
