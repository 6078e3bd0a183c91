/- The law ChecksUnits: the walk. The law ChecksUnits, what is asked: both sides say alike. The law ChecksUnits, at whatever arguments. -/
import Derived.Test.YtkklagdniaoghaaGreatDoorV14
import Derived.Test.YtkklagdniaoghaaGreatDoorDA
import Derived.Test.YtkklagdniaoghaaGreatDoorS3
import Derived.Lib.LaidU8T
import Derived.MakeChecks
namespace Go.Proofs.YtkklagdniaoghaaGreatDoor
open Go.RowKit Go.Proofs.Uni

theorem unitR_not {s t : ByteArray} {n b : Int} (h : (isT s && isT t) = false) : unitR s t n b = ((0, 0), 4) := by unfold unitR; rw [if_pos h]
theorem unitR_long {s t : ByteArray} {n b : Int} (h : (isT s && isT t) = true) (h1 : 200 < (uni s).length ∨ 200 < (uni t).length) : unitR s t n b = ((0, 0), 3) := by unfold unitR; rw [if_neg (by rw [h]; decide), if_pos h1]
theorem unitR_bad {s t : ByteArray} {n b : Int} (h : (isT s && isT t) = true) (h1 : ¬ (200 < (uni s).length ∨ 200 < (uni t).length)) (h2 : n < 1 ∨ 3 < n ∨ b < 1 ∨ 3 < b) : unitR s t n b = ((0, 0), 1) := by unfold unitR; rw [if_neg (by rw [h]; decide), if_neg h1, if_pos h2]
theorem unit_says (s t : ByteArray) (n b : Int) (w : World) (hs : s.size ≤ 100000000) (ht : t.size ≤ 100000000) (hT : Tabs w) :
    Calls Tryz.prog 7 #[.string s, .string t, .int .i64 n, .int .i64 b] w (UnitSay (unitR s t n b) w) := by
  cases h : isT s && isT t with
  | false => rw [unitR_not h]; exact unit_not s t n b w hs ht hT h
  | true =>
    obtain ⟨h1, h2⟩ := Bool.and_eq_true_iff.1 h
    by_cases h3 : 200 < (uni s).length ∨ 200 < (uni t).length
    · rw [unitR_long h h3]; exact unit_long s t n b w hs ht hT h1 h2 h3
    · by_cases h4 : n < 1 ∨ 3 < n ∨ b < 1 ∨ 3 < b
      · rw [unitR_bad h h3 h4]; exact unit_bad s t n b w hs ht hT h1 h2 (by omega) (by omega) h4
      · obtain ⟨n', rfl⟩ : ∃ k : Nat, n = k := ⟨n.toNat, by omega⟩
        obtain ⟨b', rfl⟩ : ∃ k : Nat, b = k := ⟨b.toNat, by omega⟩
        exact unit_ok s t n' b' w hs ht hT h1 h2 (by omega) (by omega) (by omega) (by omega) (by omega) (by omega)
theorem refUnit_says (s t : ByteArray) (n b : Int) (w : World) (hs : s.size ≤ 100000000) (ht : t.size ≤ 100000000) :
    Calls Tryz.prog 8 #[.string s, .string t, .int .i64 n, .int .i64 b] w (UnitSay (unitR s t n b) w) := by
  cases h : isT s && isT t with
  | false => rw [unitR_not h]; exact refUnit_not s t n b w hs ht h
  | true =>
    obtain ⟨h1, h2⟩ := Bool.and_eq_true_iff.1 h
    by_cases h3 : 200 < (uni s).length ∨ 200 < (uni t).length
    · rw [unitR_long h h3]; exact refUnit_long s t n b w hs ht h1 h2 h3
    · by_cases h4 : n < 1 ∨ 3 < n ∨ b < 1 ∨ 3 < b
      · rw [unitR_bad h h3 h4]; exact refUnit_bad s t n b w hs ht h1 h2 (by omega) (by omega) h4
      · obtain ⟨n', rfl⟩ : ∃ k : Nat, n = k := ⟨n.toNat, by omega⟩
        obtain ⟨b', rfl⟩ : ∃ k : Nat, b = k := ⟨b.toNat, by omega⟩
        exact refUnit_ok s t n' b' w hs ht h1 h2 (by omega) (by omega) (by omega) (by omega) (by omega) (by omega)

/-- The numbers that are not asked. -/
def mid (lo hi z : Int) : Prop := lo < z ∧ z ≤ hi
set_option maxHeartbeats 3200000 in
set_option maxRecDepth 1000000 in
theorem units_big (s t : ByteArray) (n b z d : Int) (S : Int) (w : World) (h : 900 < s.size ∨ 900 < t.size ∨ mid 40 256 z ∨ mid 20 1000 d) :
    Calls Tryz.prog 3 #[.string s, .string t, .int .i64 n, .int .i64 b, .int .u64 S, .int .i64 z, .int .i64 d] w fun e w' => e = .returned (.bool true) ∧ w.Since w.heap.size w' := by
  unfold mid at h
  have KS := Lib.hid says_true
  have key : (900 < s.size) ∨ (¬ 900 < s.size ∧ 900 < t.size) ∨ (¬ 900 < s.size ∧ ¬ 900 < t.size ∧ 40 < z ∧ z ≤ 256) ∨ (¬ 900 < s.size ∧ ¬ 900 < t.size ∧ ¬ 40 < z ∧ 20 < d ∧ d ≤ 1000) ∨ (¬ 900 < s.size ∧ ¬ 900 < t.size ∧ 40 < z ∧ ¬ z ≤ 256 ∧ 20 < d ∧ d ≤ 1000) := by omega
  clear h
  rcases key with h1 | ⟨h1, h2⟩ | ⟨h1, h2, h3, h4⟩ | ⟨h1, h2, h3, h4, h5⟩ | ⟨h1, h2, h3, h4, h5, h6⟩
  all_goals go_enter Tryz.func3, Tryz.ntmps3
  · have g1 : (900 : Int) < (s.size : Int) := by omega
    go_wp2_with fail
    refine (KS.out _).mono ?_
    rintro e w1 ⟨rfl, hs⟩
    go_wp2_with fail
    go_ret
    exact ⟨rfl, hs⟩
  · have g1 : ¬ (900 : Int) < (s.size : Int) := by omega
    have g2 : (900 : Int) < (t.size : Int) := by omega
    go_wp2_with fail
    refine (KS.out _).mono ?_
    rintro e w1 ⟨rfl, hs⟩
    go_wp2_with fail
    go_ret
    exact ⟨rfl, hs⟩
  all_goals
    have g1 : ¬ (900 : Int) < (s.size : Int) := by omega
    have g2 : ¬ (900 : Int) < (t.size : Int) := by omega
    go_wp2_with fail
    refine (KS.out _).mono ?_
    rintro e w1 ⟨rfl, hs⟩
    go_wp2_with fail
    go_ret
    exact ⟨rfl, hs⟩
end Go.Proofs.YtkklagdniaoghaaGreatDoor
namespace Go.Proofs.YtkklagdniaoghaaGreatDoor
open Go.RowKit Go.Proofs.Uni

/-- What Draws returns, row by row, number by number. -/
structure DrawsAt (w : World) (A : Option Addr) (s : Int) (n m : Nat) : Prop where
  at_ : ∀ i, i < m → ∃ ad g cap, A = some ad ∧ w.cell? (ad.add i) = some (.slice (some ⟨g, 0, none⟩) n cap) ∧ ∀ j, j < n → w.cell? ⟨g, j, none⟩ = some (.int .i64 (dv s n i j))
theorem cell_row {w : World} {g j : Nat} {cs : Array Value} {t : TypeId} (h : w.heap[g]? = some (.cells cs t (0, 0))) : w.cell? ⟨g, j, none⟩ = cs[j]? := by
  unfold World.cell?
  simp [h]
theorem allD_at (s : Int) (n m i : Nat) (h : i < m) (h' : i < (allD s n m).length) : (allD s n m)[i] = row s n i n := by simp [allD]
theorem row_at (s : Int) (n i K j : Nat) (h : j < (row s n i K).length) : (row s n i K)[j] = dv s n i j := by simp [row]
theorem draws_open {w w' : World} {v : Value} {vs : List Value} {s : Int} {n m : Nat} (h : w'.ownsRow w.heap.size 32 1 v m vs) (hr : RowsAt w' vs (allD s n m)) : ∃ A c, v = .slice A m c ∧ DrawsAt w' A s n m := by
  have hl : vs.length = m := by rw [hr.len, allD_length]
  obtain ⟨_, ⟨e, h0⟩ | ⟨g, cap, cur, e, hle, hg, hc, _, hcs, ht⟩⟩ := h
  · have hm0 : m = 0 := by first | exact h0 | (rw [h0] at hl; simpa using hl.symm)
    subst hm0
    exact ⟨none, 0, e, ⟨fun i hi => by cases hi⟩⟩
  · refine ⟨some ⟨g, 0, none⟩, cap, e, ⟨fun i hi => ?_⟩⟩
    have hi2 : i < vs.length := by omega
    have hi3 : i < (allD s n m).length := by rw [allD_length]; exact hi
    obtain ⟨g2, cap2, cur2, e2, hg2, hc2⟩ := hr.at_ i hi2 hi3
    rw [allD_at s n m i hi hi3] at e2 hc2
    rw [row_length] at e2
    refine ⟨_, g2, cap2, rfl, ?_, fun j hj => ?_⟩
    · have h1 : (cur.toList.take (m * 1))[i]? = some vs[i] := by rw [ht]; simp [hi2]
      rw [List.getElem?_take, if_pos (by omega)] at h1
      rw [cell_at hg, ← e2]
      simpa using h1
    · rw [cell_row hg2]
      have hj2 : j < (row s n i n).length := by rw [row_length]; exact hj
      rw [← row_at s n i n j hj2]
      exact hc2 j hj2
theorem DrawsAt.up {w w' : World} {A : Option Addr} {s : Int} {n m : Nat} (h : DrawsAt w A s n m) (hs : w.Since w.heap.size w') : DrawsAt w' A s n m := by
  have lt : ∀ {a : Addr} {v : Value}, w.cell? a = some v → a.block < w.heap.size := fun {a v} hc => by
    rcases Nat.lt_or_ge a.block w.heap.size with h' | h'
    · exact h'
    · simp [World.cell?, Array.getElem?_eq_none h'] at hc
  refine ⟨fun i hi => ?_⟩
  obtain ⟨ad, g, cap, h0, h1, h2⟩ := h.at_ i hi
  exact ⟨ad, g, cap, h0, by rw [hs.cell (lt h1)]; exact h1, fun j hj => by rw [hs.cell (lt (h2 j hj))]; exact h2 j hj⟩

/-- Both Draws say alike, one behind the other. -/
def TwoDraws (S z d : Int) (w : World) (e1 : Ending) (w1 : World) : Prop :=
  ∃ (A : Option Addr) (c : Nat) (er m n : Nat), e1 = .returned (.tuple #[.slice A m c, .int .u8 (er : Nat)]) ∧ w.Since w.heap.size w1 ∧ DrawsAt w1 A S n m ∧ (m = 0 ∨ (m : Int) = d) ∧ m ≤ 20 ∧ n ≤ 40 ∧
    Calls Tryz.prog 10 #[.int .u64 S, .int .i64 z, .int .i64 d] w1 fun e2 w2 => ∃ (B : Option Addr) (k : Nat), e2 = .returned (.tuple #[.slice B m k, .int .u8 (er : Nat)]) ∧ w1.Since w1.heap.size w2 ∧ DrawsAt w2 B S n m
theorem draws_two (S z d : Int) (w : World) (hz : ¬ mid 40 256 z) (hd : ¬ mid 20 1000 d) (z1 : -9223372036854775808 ≤ z) (z2 : z ≤ 9223372036854775807) (d1 : -9223372036854775808 ≤ d) (d2 : d ≤ 9223372036854775807) (h4 : 0 ≤ S) (h5 : S < 18446744073709551616) :
    Calls Tryz.prog 9 #[.int .u64 S, .int .i64 z, .int .i64 d] w (TwoDraws S z d w) := by
  unfold mid at hz hd
  by_cases hb : dBad z d
  · refine (draws_bad S z d w z1 z2 d1 d2 hb).mono fun e w1 ⟨he, hw⟩ => ?_
    subst hw
    refine ⟨none, 0, 1, 0, 0, he, World.Since.refl _ _, ⟨fun i hi => by cases hi⟩, .inl rfl, by omega, by omega, ?_⟩
    refine (refDraws_bad S z d w z1 z2 d1 d2 hb).mono fun e w1 ⟨he, hw⟩ => ?_
    subst hw
    exact ⟨none, 0, he, World.Since.refl _ _, ⟨fun i hi => by cases hi⟩⟩
  · unfold dBad at hb
    obtain ⟨n, rfl⟩ : ∃ k : Nat, z = k := ⟨z.toNat, by omega⟩
    obtain ⟨m, rfl⟩ : ∃ k : Nat, d = k := ⟨d.toNat, by omega⟩
    refine (draws_ok S n m w (by omega) (by omega) (by omega) h4 h5).mono fun e w1 ⟨v, vs, he, ho, hr, hs⟩ => ?_
    obtain ⟨A, c, rfl, hA⟩ := draws_open ho hr
    refine ⟨A, c, 0, m, n, he, hs, hA, .inr rfl, by omega, by omega, ?_⟩
    refine (refDraws_ok S n m w1 (by omega) (by omega) (by omega) h4 h5).mono fun e w2 ⟨v, vs, he, ho, hr, hs⟩ => ?_
    obtain ⟨B, k, rfl, hB⟩ := draws_open ho hr
    exact ⟨B, k, he, hs, hB⟩
theorem unitR_err (s t : ByteArray) (n b : Int) : (unitR s t n b).2 ≤ 4 := by
  unfold unitR
  split; · decide
  split; · decide
  split; · decide
  exact Nat.zero_le _
set_option maxHeartbeats 6400000 in
set_option maxRecDepth 1000000 in
theorem units_small (s t : ByteArray) (n b z d : Int) (S : Int) (w : World) (hT : Tabs w) (h1 : ¬ 900 < s.size) (h2 : ¬ 900 < t.size) (hz : ¬ mid 40 256 z) (hd : ¬ mid 20 1000 d) (z1 : -9223372036854775808 ≤ z) (z2 : z ≤ 9223372036854775807) (d1 : -9223372036854775808 ≤ d) (d2 : d ≤ 9223372036854775807) (h4 : 0 ≤ S) (h5 : S < 18446744073709551616) :
    Calls Tryz.prog 3 #[.string s, .string t, .int .i64 n, .int .i64 b, .int .u64 S, .int .i64 z, .int .i64 d] w fun e w' => e = .returned (.bool true) ∧ w.Since w.heap.size w' := by
  have KS := Lib.hid says_true
  have K7 := Lib.hid (unit_says s t n b w (by omega) (by omega) hT)
  have K8 := Lib.hid (fun wx => refUnit_says s t n b wx (by omega) (by omega))
  have KD := Lib.hid (fun wx => draws_two S z d wx hz hd z1 z2 d1 d2 h4 h5)
  have hq := unitR_err s t n b
  unfold UnitSay unitV frV at K7 K8
  unfold TwoDraws at KD
  unfold mid at hz hd
  generalize unitR s t n b = q at *
  obtain ⟨⟨x, y⟩, er⟩ := q
  have g1 : ¬ (900 : Int) < (s.size : Int) := by omega
  have g2 : ¬ (900 : Int) < (t.size : Int) := by omega
  have key : (¬ 40 < z ∧ ¬ 20 < d) ∨ (¬ 40 < z ∧ 20 < d ∧ ¬ d ≤ 1000) ∨ (40 < z ∧ ¬ z ≤ 256 ∧ ¬ 20 < d) ∨ (40 < z ∧ ¬ z ≤ 256 ∧ 20 < d ∧ ¬ d ≤ 1000) := by omega
  clear hz hd hT h4 h5
  simp only at hq
  rcases key with ⟨k1, k2⟩ | ⟨k1, k2, k3⟩ | ⟨k1, k2, k3⟩ | ⟨k1, k2, k3, k4⟩
  all_goals
    go_enter Tryz.func3, Tryz.ntmps3
    go_wp2_with fail
    refine K7.out.mono ?_
    rintro e w1 ⟨rfl, hs1⟩
    go_wp2_with fail
    refine (K8.out _).mono ?_
    rintro e w2 ⟨rfl, hs2⟩
    have e0 : w2.cell? ⟨w1.heap.size, 0, none⟩ = some (.int .i64 x) := by rw [hs2.cell (by simp)]; simp
    have e1 : w2.cell? ⟨w1.heap.size, 1, none⟩ = some (.int .i64 y) := by rw [hs2.cell (by simp)]; simp
    have c0 : ∀ o, (w2.alloc o).cell? ⟨w1.heap.size, 0, none⟩ = some (.int .i64 x) := fun o => by rw [World.cell?_alloc_some _ _ _ (by rw [e0]; rfl)]; exact e0
    have c1 : ∀ o, (w2.alloc o).cell? ⟨w1.heap.size, 1, none⟩ = some (.int .i64 y) := fun o => by rw [World.cell?_alloc_some _ _ _ (by rw [e1]; rfl)]; exact e1
    clear e0 e1
    have S2 := Lib.hid (since_alloc (since_two (since_alloc hs1 (.cells #[.int .i64 x, .int .i64 y] 25)) hs2) (.cells #[.int .i64 x, .int .i64 y] 25))
    clear hs1 hs2
    go_wp2_with fail
    generalize ((w2.alloc (.cells #[.int .i64 x, .int .i64 y] 25))) = w3 at *
    clear c0 c1
    refine (KD.out _).mono ?_
    rintro e w4 ⟨A, c, f, M, N, rfl, hs4, HA, hM, m20, n40, KE⟩
    have S4 := Lib.hid (since_two S2.out hs4)
    have HA := Lib.hid HA
    have KE := Lib.hid KE
    clear hs4 S2
    go_wp2_with fail
    refine (KE.out).mono ?_
    rintro e w5 ⟨B, k, rfl, hs5, HB⟩
    have S5 := Lib.hid (since_two S4.out hs5)
    have HA := Lib.hid (HA.out.up hs5)
    have HB := Lib.hid HB
    clear hs5 S4 KE KD K8 hM
    go_wp2_with fail
    go_loopg [21] M (fun g i wr => ∃ I : Nat, I ≤ M ∧ g = M - I ∧ i = .int .i64 I ∧ Same w5 wr)
    case atStart => exact ⟨0, by omega, by omega, rfl, Same.refl _⟩
    case round =>
      obtain ⟨I, hI, rfl, rfl, hsm⟩ := hrel
      by_cases hlt : I < M
      · obtain ⟨a1, r1, p1, rfl, ca, ra⟩ := HA.out.at_ I hlt
        obtain ⟨a2, r2, p2, rfl, cb, rb⟩ := HB.out.at_ I hlt
        have CA := Lib.hid ca
        have CB := Lib.hid cb
        rw [← hsm.cell] at ca cb
        have RA := Lib.hid ra
        have RB := Lib.hid rb
        have HM := Lib.hid hsm
        clear ra rb hsm
        have hltI : (I : Int) < (M : Int) := by omega
        go_wp2_with fail
        go_quiet (fail)
        go_wp2_with fail
        clear ca cb
        go_loopg [22] N (fun g k wq => ∃ K : Nat, K ≤ N ∧ g = N - K ∧ k = .int .i64 K ∧ Same w5 wq)
        case atStart => exact ⟨0, by omega, by omega, rfl, HM.out.up rfl rfl rfl rfl⟩
        case round =>
          obtain ⟨K, hK, rfl, rfl, hsm⟩ := hrel
          have ca := CA.out
          have cb := CB.out
          rw [← hsm.cell] at ca cb
          have hltI : (I : Int) < (M : Int) := by omega
          by_cases hk : K < N
          · have xa := RA.out K hk
            have xb := RB.out K hk
            rw [← hsm.cell] at xa xb
            generalize dv S N I K = u at *
            have HM2 := Lib.hid hsm
            clear hsm
            have hkN : (K : Int) < (N : Int) := by omega
            go_wp2_with fail
            go_quiet (fail)
            go_wp2_with fail
            go_roundg (N - (K + 1))
            case measure => omega
            case rel => exact ⟨K + 1, by omega, rfl, by go_num, HM2.out.up rfl rfl rfl rfl⟩
          · obtain rfl : K = N := by omega
            have HM2 := Lib.hid hsm
            clear hsm
            go_wp2_with fail
            go_roundg (M - (I + 1))
            case measure => omega
            case rel => exact ⟨I + 1, by omega, rfl, by go_num, HM2.out⟩
      · obtain rfl : I = M := by omega
        have SX := Lib.hid (hsm.into S5.out)
        clear hsm
        go_wp2_with fail
        refine (KS.out _).mono ?_
        rintro e w1 ⟨rfl, hs⟩
        have SY := Lib.hid (since_two SX.out hs)
        clear hs
        go_wp2_with fail
        go_ret
        exact ⟨rfl, SY.out⟩
end Go.Proofs.YtkklagdniaoghaaGreatDoor
namespace Go.Proofs.YtkklagdniaoghaaGreatDoor
open Go.RowKit Go.Proofs.Uni

theorem law_units (s t : ByteArray) (n b S z d : Int) (w : World) (hT : Tabs w) (h4 : 0 ≤ S) (h5 : S < 18446744073709551616) (z1 : -9223372036854775808 ≤ z) (z2 : z ≤ 9223372036854775807) (d1 : -9223372036854775808 ≤ d) (d2 : d ≤ 9223372036854775807) :
    Calls Tryz.prog 3 #[.string s, .string t, .int .i64 n, .int .i64 b, .int .u64 S, .int .i64 z, .int .i64 d] w fun e w' => e = .returned (.bool true) ∧ w.Since w.heap.size w' := by
  by_cases h : 900 < s.size ∨ 900 < t.size ∨ mid 40 256 z ∨ mid 20 1000 d
  · exact units_big s t n b z d S w h
  · exact units_small s t n b z d S w hT (fun e => h (.inl e)) (fun e => h (.inr (.inl e))) (fun e => h (.inr (.inr (.inl e)))) (fun e => h (.inr (.inr (.inr e)))) z1 z2 d1 d2 h4 h5
set_option maxRecDepth 1000000 in
theorem tabs_of {w : World} (h : laidMet Tryz.prog Rows.checksUnitsRow.laid w) : Tabs w :=
  utf8Tabs_of_readsT (U8Types.of196 Tryz.lays196) ⟨by kernel_rfl, by kernel_rfl, by kernel_rfl, by kernel_rfl, by kernel_rfl, by kernel_rfl, by kernel_rfl⟩ (Lib.laidMet.reads h (.tail _ (.tail _ (.tail _ (.tail _ (.tail _ (.tail _ (.head _)))))))) (Lib.laidMet.reads h (.tail _ (.tail _ (.tail _ (.head _)))))
end Go.Proofs.YtkklagdniaoghaaGreatDoor
