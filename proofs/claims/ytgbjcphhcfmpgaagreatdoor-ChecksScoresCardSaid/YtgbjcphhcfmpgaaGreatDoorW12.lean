/- The walk of the specification's Matches. -/
import Derived.Test.YtgbjcphhcfmpgaaGreatDoorW8
namespace Go.Proofs.YtgbjcphhcfmpgaaGreatDoor
open Go.RowKit Go.Proofs.MapEnt

theorem cnt_says (w : World) (A : Option Addr) (c len : Nat) (n : Int) (hl : len ≤ 600) (h1 : 1 ≤ n) (h4 : n ≤ 4) :
    Calls Tryz.prog 23 #[.slice A len c, .int .i64 n] w fun e w' => e = .returned (.int .i64 (max ((len : Int) - n + 1) 0)) ∧ w' = w := by
  by_cases p : 0 ≤ (len : Int) - n + 1
  · have e : max ((len : Int) - n + 1) 0 = (len : Int) - n + 1 := by omega
    rw [e]
    clear e
    go_enter Tryz.func23, Tryz.ntmps23
    go_wp2
    go_ret
    exact ⟨rfl, rfl⟩
  · have e : max ((len : Int) - n + 1) 0 = 0 := by omega
    rw [e]
    clear e
    go_enter Tryz.func23, Tryz.ntmps23
    go_wp2
    go_ret
    exact ⟨rfl, rfl⟩
set_option maxHeartbeats 1600000 in
set_option maxRecDepth 1000000 in
theorem refM_says (a b : Ws) (n : Int) (w : World) (A C : Option Addr) (cA cC : Nat) (hA : In w A cA a) (hC : In w C cC b) (hn1 : -9223372036854775808 ≤ n) (hn2 : n ≤ 9223372036854775807) (la : a.length ≤ 9223372036854775807) (lb : b.length ≤ 9223372036854775807) :
    Calls Tryz.prog 9 #[.slice A a.length cA, .slice C b.length cC, .int .i64 n] w fun e w' => e = .returned (quad (mres a b n)) ∧ w.Since w.heap.size w' := by
  have HA := Lib.hid hA
  have HC := Lib.hid hC
  have HR := Lib.hid (World.Since.refl w.heap.size w)
  clear hA hC
  by_cases h1 : 512 < a.length
  · rw [mres_long (.inl h1)]
    unfold quad
    go_enter Tryz.func9, Tryz.ntmps9
    go_wp2_with fail
    exact bodyPost_ret (v := .tuple #[.int .i64 0, .int .i64 0, .int .i64 0, .int .u8 3]) (by simp [results, Tryz.results9, go_sem]) rfl ⟨rfl, HR.out⟩
  by_cases h2 : 512 < b.length
  · rw [mres_long (.inr h2)]
    unfold quad
    go_enter Tryz.func9, Tryz.ntmps9
    go_wp2_with fail
    exact bodyPost_ret (v := .tuple #[.int .i64 0, .int .i64 0, .int .i64 0, .int .u8 3]) (by simp [results, Tryz.results9, go_sem]) rfl ⟨rfl, HR.out⟩
  have hs : ¬ (512 < a.length ∨ 512 < b.length) := by omega
  by_cases h3 : n < 1
  · rw [mres_arg hs (.inl h3)]
    unfold quad
    clear hs
    go_enter Tryz.func9, Tryz.ntmps9
    go_wp2_with fail
    exact bodyPost_ret (v := .tuple #[.int .i64 0, .int .i64 0, .int .i64 0, .int .u8 1]) (by simp [results, Tryz.results9, go_sem]) rfl ⟨rfl, HR.out⟩
  by_cases h4 : 4 < n
  · rw [mres_arg hs (.inr h4)]
    unfold quad
    clear hs
    go_enter Tryz.func9, Tryz.ntmps9
    go_wp2_with fail
    exact bodyPost_ret (v := .tuple #[.int .i64 0, .int .i64 0, .int .i64 0, .int .u8 1]) (by simp [results, Tryz.results9, go_sem]) rfl ⟨rfl, HR.out⟩
  obtain ⟨k, rfl⟩ : ∃ k : Nat, n = k := ⟨n.toNat, by omega⟩
  rw [mres_ok hs (by omega)]
  have HS := Lib.hid hs
  clear hs
  go_enter Tryz.func9, Tryz.ntmps9
  go_wp2_with fail
  refine (refMatches_says a b k w A C cA cC HA.out HC.out (by omega) (by omega) (by omega) (by omega)).mono ?_
  rintro e w1 ⟨rfl, hs⟩
  have S1 := Lib.hid hs
  have hml := Bag.mt_left a b k
  obtain ⟨m, hm⟩ : ∃ m, m = Bag.mt a b k := ⟨_, rfl⟩
  rw [← hm]
  have HM : Hid ((m : Int) = (m : Nat)) := Lib.hid rfl
  have hl1 : a.length ≤ 600 := by omega
  have hl2 : b.length ≤ 600 := by omega
  have hk1 : 1 ≤ (k : Int) := by omega
  have hk4 : (k : Int) ≤ 4 := by omega
  clear hs hml
  obtain ⟨y, hy⟩ : ∃ y, y = max ((a.length : Int) - k + 1) 0 := ⟨_, rfl⟩
  obtain ⟨z, hz⟩ : ∃ z, z = max ((b.length : Int) - k + 1) 0 := ⟨_, rfl⟩
  have k1 := cnt_says w1 A cA a.length k hl1 hk1 hk4
  have k2 := cnt_says w1 C cC b.length k hl2 hk1 hk4
  rw [← hy] at k1
  rw [← hz] at k2
  have K1 := Lib.hid k1
  have K2 := Lib.hid k2
  have HY := Lib.hid (And.intro hm (And.intro hy hz))
  clear k1 k2 hy hz hm
  go_wp2_with fail
  refine K1.out.mono ?_
  rintro e w2 ⟨rfl, hw⟩
  subst hw
  go_wp2_with fail
  refine K2.out.mono ?_
  rintro e w3 ⟨rfl, hw⟩
  subst hw
  go_wp2_with fail
  exact bodyPost_ret (v := .tuple #[.int .i64 m, .int .i64 y, .int .i64 z, .int .u8 0]) (by simp [results, Tryz.results9, go_sem]) rfl ⟨ret_quad (by rw [HY.out.1]) (by rw [HY.out.2.1]) (by rw [HY.out.2.2]) rfl, S1.out⟩
end Go.Proofs.YtgbjcphhcfmpgaaGreatDoor
