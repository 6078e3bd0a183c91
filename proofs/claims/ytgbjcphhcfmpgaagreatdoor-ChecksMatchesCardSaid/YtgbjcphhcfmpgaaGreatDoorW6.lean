/- The walk of the law ChecksGrams. -/
import Derived.Test.YtgbjcphhcfmpgaaGreatDoorW4
import Derived.Test.YtgbjcphhcfmpgaaGreatDoorW5
import Derived.Test.YtgbjcphhcfmpgaaGreatDoorS3
namespace Go.Proofs.YtgbjcphhcfmpgaaGreatDoor
open Go.RowKit Go.Proofs.MapEnt

theorem many_two (w : World) (B : Nat) (L : Option Addr) (Ad : Nat → Option Addr) (a b : Ws) (cp : Nat → Nat) (c : Nat) (hT : Lists w B L Ad [a, b] cp) :
    Calls Tryz.prog 6 #[.slice L 2 c] w fun e w' => isB e ∧ w' = w := many_any w B L Ad [a, b] cp c hT (by simp)
set_option maxHeartbeats 3200000 in
set_option maxRecDepth 1000000 in
theorem grams_big (a b : Ws) (n : Int) (w : World) (A C : Option Addr) (cA cC : Nat) (hA : In w A cA a) (hC : In w C cC b) (ka : cA ≤ 9223372036854775807) (kc : cC ≤ 9223372036854775807)
    (hn1 : -9223372036854775808 ≤ n) (hn2 : n ≤ 9223372036854775807) (hbig : 40 < a.length ∨ 40 < b.length ∨ n < 1 ∨ 4 < n) :
    Calls Tryz.prog 4 #[.slice A a.length cA, .slice C b.length cC, .int .i64 n] w fun e w' => e = .returned (.bool true) ∧ w.Since w.heap.size w' := by
  have la : a.length ≤ 9223372036854775807 := Nat.le_trans hA.cap ka
  have lb : b.length ≤ 9223372036854775807 := Nat.le_trans hC.cap kc
  have HT := Lib.hid (two_at hA hC ka kc)
  have HS := Lib.hid ((World.Since.refl w.heap.size w).alloc (Nat.le_refl _) (.cells #[.slice A a.length cA, .slice C b.length cC] 22))
  clear hA hC
  go_enter Tryz.func4, Tryz.ntmps4
  go_wp2_with (first
    | (go_at_call 6; refine (many_two _ _ _ _ a b _ _ HT.out).mono ?_; rintro e w' ⟨⟨v, rfl⟩, rfl⟩; cases v)
    | (go_at_call 7; refine (says_true _).mono ?_; rintro e w' ⟨rfl, hw'⟩; have HW := Lib.hid hw'; clear hw'))
  all_goals (go_ret; exact ⟨rfl, since_two HS.out HW.out⟩)

/-- Matches, where it counts. -/
theorem matches_in (a b : Ws) (n : Int) (k : Nat) (hk : n = k) (w : World) (A C : Option Addr) (cA cC : Nat) (hA : In w A cA a) (hC : In w C cC b) (h1 : 1 ≤ k) (h4 : k ≤ 4) (la : a.length ≤ 512) (lb : b.length ≤ 512) (m : Int) (hm : ((Bag.mt a b k : Nat) : Int) = m)
    (y z : Int) (hy : max ((a.length : Int) - k + 1) 0 = y) (hz : max ((b.length : Int) - k + 1) 0 = z) :
    Calls Tryz.prog 8 #[.slice A a.length cA, .slice C b.length cC, .int .i64 n] w fun e w' => e = .returned (.tuple #[.int .i64 m, .int .i64 y, .int .i64 z, .int .u8 0]) ∧ w.Since w.heap.size w' := by
  subst hk
  have := matches_says a b k w A C cA cC hA hC (by omega) (by omega) (by omega) (by omega)
  rw [mres_ok (by omega) (by omega), hm, hy, hz] at this
  exact this
set_option maxHeartbeats 3200000 in
set_option maxRecDepth 1000000 in
theorem grams_small (a b : Ws) (n : Nat) (w : World) (A C : Option Addr) (cA cC : Nat) (hA : In w A cA a) (hC : In w C cC b) (ka : cA ≤ 9223372036854775807) (kc : cC ≤ 9223372036854775807)
    (h1 : 1 ≤ n) (h4 : n ≤ 4) (la : a.length ≤ 40) (lb : b.length ≤ 40) :
    Calls Tryz.prog 4 #[.slice A a.length cA, .slice C b.length cC, .int .i64 n] w fun e w' => e = .returned (.bool true) ∧ w.Since w.heap.size w' := by
  have HT := Lib.hid (two_at hA hC ka kc)
  have HS := Lib.hid ((World.Since.refl w.heap.size w).alloc (Nat.le_refl _) (.cells #[.slice A a.length cA, .slice C b.length cC] 22))
  have H0 := Lib.hid (And.intro hA hC)
  clear hA hC
  go_enter Tryz.func4, Tryz.ntmps4
  go_wp2_with (first
    | (go_at_call 6; refine (many_two _ _ _ _ a b _ _ HT.out).mono ?_; rintro e w' ⟨⟨v, rfl⟩, rfl⟩; cases v)
    | (go_at_call 7; refine (says_true _).mono ?_; rintro e w' ⟨rfl, hw'⟩; have HW := Lib.hid hw'; clear hw')
    | fail)
  · obtain ⟨m, hm⟩ : ∃ m, m = ((Bag.mt a b n : Nat) : Int) := ⟨_, rfl⟩
    obtain ⟨k, hk⟩ : ∃ k, k = ((Bag.mt a b (n + 1) : Nat) : Int) := ⟨_, rfl⟩
    have MM : Hid (((Bag.mt a b n : Nat) : Int) = m ∧ ((Bag.mt b a n : Nat) : Int) = m ∧ m ≤ max ((a.length : Int) - n + 1) 0 ∧ m ≤ max ((b.length : Int) - n + 1) 0 ∧ ((Bag.mt a a n : Nat) : Int) = max ((a.length : Int) - n + 1) 0 ∧ ((Bag.mt a b (n + 1) : Nat) : Int) = k ∧ k ≤ m) := by
      have e1 := Bag.mt_left a b n
      have e2 := Bag.mt_right a b n
      have e3 := Bag.mt_self a n
      have e4 := Bag.mt_comm b a n
      have e5 := Bag.mt_more a b n
      refine Lib.hid ⟨hm.symm, by rw [e4]; exact hm.symm, by omega, by omega, by omega, hk.symm, by omega⟩
    clear hm hk
    by_cases p1 : 0 ≤ (a.length : Int) - n + 1
    · by_cases p2 : 0 ≤ (b.length : Int) - n + 1
      · by_cases p3 : (n : Int) < 4
        · as_aux_lemma =>
          refine (matches_in a b n n rfl _ A C cA cC (H0.out.1.up HS.out) (H0.out.2.up HS.out) h1 h4 (by omega) (by omega) m MM.out.1 ((a.length : Int) - n + 1) ((b.length : Int) - n + 1) (by omega) (by omega)).mono ?_
          rintro e w2 ⟨rfl, hs⟩
          have P2 := Lib.hid (since_two HS.out hs)
          clear hs
          go_wp2_with fail
          refine (matches_in b a n n rfl _ C A cC cA (H0.out.2.up P2.out) (H0.out.1.up P2.out) h1 h4 (by omega) (by omega) m MM.out.2.1 ((b.length : Int) - n + 1) ((a.length : Int) - n + 1) (by omega) (by omega)).mono ?_
          rintro e w3 ⟨rfl, hs⟩
          have P3 := Lib.hid (since_two P2.out hs)
          clear hs
          have m1 : m ≤ ((a.length : Int) - n + 1) := by have := MM.out.2.2.1; omega
          have m2 : m ≤ ((b.length : Int) - n + 1) := by have := MM.out.2.2.2.1; omega
          go_wp2_with fail
          refine (matches_in a a n n rfl _ A A cA cA (H0.out.1.up P3.out) (H0.out.1.up P3.out) h1 h4 (by omega) (by omega) ((a.length : Int) - n + 1) (by have := MM.out.2.2.2.2.1; omega) ((a.length : Int) - n + 1) ((a.length : Int) - n + 1) (by omega) (by omega)).mono ?_
          rintro e w4 ⟨rfl, hs⟩
          have P4 := Lib.hid (since_two P3.out hs)
          clear hs
          go_wp2_with fail
          refine (matches_in a b ((n : Int) + 1) (n + 1) (by omega) _ A C cA cC (H0.out.1.up P4.out) (H0.out.2.up P4.out) (by omega) (by omega) (by omega) (by omega) k MM.out.2.2.2.2.2.1 _ _ rfl rfl).mono ?_
          rintro e w5 ⟨rfl, hs⟩
          have P5 := Lib.hid (since_two P4.out hs)
          clear hs
          have m3 : k ≤ m := MM.out.2.2.2.2.2.2
          go_wp2_with fail
          refine (says_true _).mono ?_
          rintro e wz ⟨rfl, hs⟩
          have PZ := Lib.hid (since_two P5.out hs)
          clear hs
          go_wp2_with fail
          go_ret
          exact ⟨rfl, PZ.out⟩
        · as_aux_lemma =>
          refine (matches_in a b n n rfl _ A C cA cC (H0.out.1.up HS.out) (H0.out.2.up HS.out) h1 h4 (by omega) (by omega) m MM.out.1 ((a.length : Int) - n + 1) ((b.length : Int) - n + 1) (by omega) (by omega)).mono ?_
          rintro e w2 ⟨rfl, hs⟩
          have P2 := Lib.hid (since_two HS.out hs)
          clear hs
          go_wp2_with fail
          refine (matches_in b a n n rfl _ C A cC cA (H0.out.2.up P2.out) (H0.out.1.up P2.out) h1 h4 (by omega) (by omega) m MM.out.2.1 ((b.length : Int) - n + 1) ((a.length : Int) - n + 1) (by omega) (by omega)).mono ?_
          rintro e w3 ⟨rfl, hs⟩
          have P3 := Lib.hid (since_two P2.out hs)
          clear hs
          have m1 : m ≤ ((a.length : Int) - n + 1) := by have := MM.out.2.2.1; omega
          have m2 : m ≤ ((b.length : Int) - n + 1) := by have := MM.out.2.2.2.1; omega
          go_wp2_with fail
          refine (matches_in a a n n rfl _ A A cA cA (H0.out.1.up P3.out) (H0.out.1.up P3.out) h1 h4 (by omega) (by omega) ((a.length : Int) - n + 1) (by have := MM.out.2.2.2.2.1; omega) ((a.length : Int) - n + 1) ((a.length : Int) - n + 1) (by omega) (by omega)).mono ?_
          rintro e w4 ⟨rfl, hs⟩
          have P4 := Lib.hid (since_two P3.out hs)
          clear hs
          go_wp2_with fail
          refine (says_true _).mono ?_
          rintro e wz ⟨rfl, hs⟩
          have PZ := Lib.hid (since_two P4.out hs)
          clear hs
          go_wp2_with fail
          go_ret
          exact ⟨rfl, PZ.out⟩
      · by_cases p3 : (n : Int) < 4
        · as_aux_lemma =>
          refine (matches_in a b n n rfl _ A C cA cC (H0.out.1.up HS.out) (H0.out.2.up HS.out) h1 h4 (by omega) (by omega) m MM.out.1 ((a.length : Int) - n + 1) 0 (by omega) (by omega)).mono ?_
          rintro e w2 ⟨rfl, hs⟩
          have P2 := Lib.hid (since_two HS.out hs)
          clear hs
          go_wp2_with fail
          refine (matches_in b a n n rfl _ C A cC cA (H0.out.2.up P2.out) (H0.out.1.up P2.out) h1 h4 (by omega) (by omega) m MM.out.2.1 0 ((a.length : Int) - n + 1) (by omega) (by omega)).mono ?_
          rintro e w3 ⟨rfl, hs⟩
          have P3 := Lib.hid (since_two P2.out hs)
          clear hs
          have m1 : m ≤ ((a.length : Int) - n + 1) := by have := MM.out.2.2.1; omega
          have m2 : m ≤ 0 := by have := MM.out.2.2.2.1; omega
          go_wp2_with fail
          refine (matches_in a a n n rfl _ A A cA cA (H0.out.1.up P3.out) (H0.out.1.up P3.out) h1 h4 (by omega) (by omega) ((a.length : Int) - n + 1) (by have := MM.out.2.2.2.2.1; omega) ((a.length : Int) - n + 1) ((a.length : Int) - n + 1) (by omega) (by omega)).mono ?_
          rintro e w4 ⟨rfl, hs⟩
          have P4 := Lib.hid (since_two P3.out hs)
          clear hs
          go_wp2_with fail
          refine (matches_in a b ((n : Int) + 1) (n + 1) (by omega) _ A C cA cC (H0.out.1.up P4.out) (H0.out.2.up P4.out) (by omega) (by omega) (by omega) (by omega) k MM.out.2.2.2.2.2.1 _ _ rfl rfl).mono ?_
          rintro e w5 ⟨rfl, hs⟩
          have P5 := Lib.hid (since_two P4.out hs)
          clear hs
          have m3 : k ≤ m := MM.out.2.2.2.2.2.2
          go_wp2_with fail
          refine (says_true _).mono ?_
          rintro e wz ⟨rfl, hs⟩
          have PZ := Lib.hid (since_two P5.out hs)
          clear hs
          go_wp2_with fail
          go_ret
          exact ⟨rfl, PZ.out⟩
        · as_aux_lemma =>
          refine (matches_in a b n n rfl _ A C cA cC (H0.out.1.up HS.out) (H0.out.2.up HS.out) h1 h4 (by omega) (by omega) m MM.out.1 ((a.length : Int) - n + 1) 0 (by omega) (by omega)).mono ?_
          rintro e w2 ⟨rfl, hs⟩
          have P2 := Lib.hid (since_two HS.out hs)
          clear hs
          go_wp2_with fail
          refine (matches_in b a n n rfl _ C A cC cA (H0.out.2.up P2.out) (H0.out.1.up P2.out) h1 h4 (by omega) (by omega) m MM.out.2.1 0 ((a.length : Int) - n + 1) (by omega) (by omega)).mono ?_
          rintro e w3 ⟨rfl, hs⟩
          have P3 := Lib.hid (since_two P2.out hs)
          clear hs
          have m1 : m ≤ ((a.length : Int) - n + 1) := by have := MM.out.2.2.1; omega
          have m2 : m ≤ 0 := by have := MM.out.2.2.2.1; omega
          go_wp2_with fail
          refine (matches_in a a n n rfl _ A A cA cA (H0.out.1.up P3.out) (H0.out.1.up P3.out) h1 h4 (by omega) (by omega) ((a.length : Int) - n + 1) (by have := MM.out.2.2.2.2.1; omega) ((a.length : Int) - n + 1) ((a.length : Int) - n + 1) (by omega) (by omega)).mono ?_
          rintro e w4 ⟨rfl, hs⟩
          have P4 := Lib.hid (since_two P3.out hs)
          clear hs
          go_wp2_with fail
          refine (says_true _).mono ?_
          rintro e wz ⟨rfl, hs⟩
          have PZ := Lib.hid (since_two P4.out hs)
          clear hs
          go_wp2_with fail
          go_ret
          exact ⟨rfl, PZ.out⟩
    · by_cases p2 : 0 ≤ (b.length : Int) - n + 1
      · by_cases p3 : (n : Int) < 4
        · as_aux_lemma =>
          refine (matches_in a b n n rfl _ A C cA cC (H0.out.1.up HS.out) (H0.out.2.up HS.out) h1 h4 (by omega) (by omega) m MM.out.1 0 ((b.length : Int) - n + 1) (by omega) (by omega)).mono ?_
          rintro e w2 ⟨rfl, hs⟩
          have P2 := Lib.hid (since_two HS.out hs)
          clear hs
          go_wp2_with fail
          refine (matches_in b a n n rfl _ C A cC cA (H0.out.2.up P2.out) (H0.out.1.up P2.out) h1 h4 (by omega) (by omega) m MM.out.2.1 ((b.length : Int) - n + 1) 0 (by omega) (by omega)).mono ?_
          rintro e w3 ⟨rfl, hs⟩
          have P3 := Lib.hid (since_two P2.out hs)
          clear hs
          have m1 : m ≤ 0 := by have := MM.out.2.2.1; omega
          have m2 : m ≤ ((b.length : Int) - n + 1) := by have := MM.out.2.2.2.1; omega
          go_wp2_with fail
          refine (matches_in a a n n rfl _ A A cA cA (H0.out.1.up P3.out) (H0.out.1.up P3.out) h1 h4 (by omega) (by omega) 0 (by have := MM.out.2.2.2.2.1; omega) 0 0 (by omega) (by omega)).mono ?_
          rintro e w4 ⟨rfl, hs⟩
          have P4 := Lib.hid (since_two P3.out hs)
          clear hs
          go_wp2_with fail
          refine (matches_in a b ((n : Int) + 1) (n + 1) (by omega) _ A C cA cC (H0.out.1.up P4.out) (H0.out.2.up P4.out) (by omega) (by omega) (by omega) (by omega) k MM.out.2.2.2.2.2.1 _ _ rfl rfl).mono ?_
          rintro e w5 ⟨rfl, hs⟩
          have P5 := Lib.hid (since_two P4.out hs)
          clear hs
          have m3 : k ≤ m := MM.out.2.2.2.2.2.2
          go_wp2_with fail
          refine (says_true _).mono ?_
          rintro e wz ⟨rfl, hs⟩
          have PZ := Lib.hid (since_two P5.out hs)
          clear hs
          go_wp2_with fail
          go_ret
          exact ⟨rfl, PZ.out⟩
        · as_aux_lemma =>
          refine (matches_in a b n n rfl _ A C cA cC (H0.out.1.up HS.out) (H0.out.2.up HS.out) h1 h4 (by omega) (by omega) m MM.out.1 0 ((b.length : Int) - n + 1) (by omega) (by omega)).mono ?_
          rintro e w2 ⟨rfl, hs⟩
          have P2 := Lib.hid (since_two HS.out hs)
          clear hs
          go_wp2_with fail
          refine (matches_in b a n n rfl _ C A cC cA (H0.out.2.up P2.out) (H0.out.1.up P2.out) h1 h4 (by omega) (by omega) m MM.out.2.1 ((b.length : Int) - n + 1) 0 (by omega) (by omega)).mono ?_
          rintro e w3 ⟨rfl, hs⟩
          have P3 := Lib.hid (since_two P2.out hs)
          clear hs
          have m1 : m ≤ 0 := by have := MM.out.2.2.1; omega
          have m2 : m ≤ ((b.length : Int) - n + 1) := by have := MM.out.2.2.2.1; omega
          go_wp2_with fail
          refine (matches_in a a n n rfl _ A A cA cA (H0.out.1.up P3.out) (H0.out.1.up P3.out) h1 h4 (by omega) (by omega) 0 (by have := MM.out.2.2.2.2.1; omega) 0 0 (by omega) (by omega)).mono ?_
          rintro e w4 ⟨rfl, hs⟩
          have P4 := Lib.hid (since_two P3.out hs)
          clear hs
          go_wp2_with fail
          refine (says_true _).mono ?_
          rintro e wz ⟨rfl, hs⟩
          have PZ := Lib.hid (since_two P4.out hs)
          clear hs
          go_wp2_with fail
          go_ret
          exact ⟨rfl, PZ.out⟩
      · by_cases p3 : (n : Int) < 4
        · as_aux_lemma =>
          refine (matches_in a b n n rfl _ A C cA cC (H0.out.1.up HS.out) (H0.out.2.up HS.out) h1 h4 (by omega) (by omega) m MM.out.1 0 0 (by omega) (by omega)).mono ?_
          rintro e w2 ⟨rfl, hs⟩
          have P2 := Lib.hid (since_two HS.out hs)
          clear hs
          go_wp2_with fail
          refine (matches_in b a n n rfl _ C A cC cA (H0.out.2.up P2.out) (H0.out.1.up P2.out) h1 h4 (by omega) (by omega) m MM.out.2.1 0 0 (by omega) (by omega)).mono ?_
          rintro e w3 ⟨rfl, hs⟩
          have P3 := Lib.hid (since_two P2.out hs)
          clear hs
          have m1 : m ≤ 0 := by have := MM.out.2.2.1; omega
          have m2 : m ≤ 0 := by have := MM.out.2.2.2.1; omega
          go_wp2_with fail
          refine (matches_in a a n n rfl _ A A cA cA (H0.out.1.up P3.out) (H0.out.1.up P3.out) h1 h4 (by omega) (by omega) 0 (by have := MM.out.2.2.2.2.1; omega) 0 0 (by omega) (by omega)).mono ?_
          rintro e w4 ⟨rfl, hs⟩
          have P4 := Lib.hid (since_two P3.out hs)
          clear hs
          go_wp2_with fail
          refine (matches_in a b ((n : Int) + 1) (n + 1) (by omega) _ A C cA cC (H0.out.1.up P4.out) (H0.out.2.up P4.out) (by omega) (by omega) (by omega) (by omega) k MM.out.2.2.2.2.2.1 _ _ rfl rfl).mono ?_
          rintro e w5 ⟨rfl, hs⟩
          have P5 := Lib.hid (since_two P4.out hs)
          clear hs
          have m3 : k ≤ m := MM.out.2.2.2.2.2.2
          go_wp2_with fail
          refine (says_true _).mono ?_
          rintro e wz ⟨rfl, hs⟩
          have PZ := Lib.hid (since_two P5.out hs)
          clear hs
          go_wp2_with fail
          go_ret
          exact ⟨rfl, PZ.out⟩
        · as_aux_lemma =>
          refine (matches_in a b n n rfl _ A C cA cC (H0.out.1.up HS.out) (H0.out.2.up HS.out) h1 h4 (by omega) (by omega) m MM.out.1 0 0 (by omega) (by omega)).mono ?_
          rintro e w2 ⟨rfl, hs⟩
          have P2 := Lib.hid (since_two HS.out hs)
          clear hs
          go_wp2_with fail
          refine (matches_in b a n n rfl _ C A cC cA (H0.out.2.up P2.out) (H0.out.1.up P2.out) h1 h4 (by omega) (by omega) m MM.out.2.1 0 0 (by omega) (by omega)).mono ?_
          rintro e w3 ⟨rfl, hs⟩
          have P3 := Lib.hid (since_two P2.out hs)
          clear hs
          have m1 : m ≤ 0 := by have := MM.out.2.2.1; omega
          have m2 : m ≤ 0 := by have := MM.out.2.2.2.1; omega
          go_wp2_with fail
          refine (matches_in a a n n rfl _ A A cA cA (H0.out.1.up P3.out) (H0.out.1.up P3.out) h1 h4 (by omega) (by omega) 0 (by have := MM.out.2.2.2.2.1; omega) 0 0 (by omega) (by omega)).mono ?_
          rintro e w4 ⟨rfl, hs⟩
          have P4 := Lib.hid (since_two P3.out hs)
          clear hs
          go_wp2_with fail
          refine (says_true _).mono ?_
          rintro e wz ⟨rfl, hs⟩
          have PZ := Lib.hid (since_two P4.out hs)
          clear hs
          go_wp2_with fail
          go_ret
          exact ⟨rfl, PZ.out⟩
  · go_ret
    exact ⟨rfl, since_two HS.out HW.out⟩
end Go.Proofs.YtgbjcphhcfmpgaaGreatDoor
