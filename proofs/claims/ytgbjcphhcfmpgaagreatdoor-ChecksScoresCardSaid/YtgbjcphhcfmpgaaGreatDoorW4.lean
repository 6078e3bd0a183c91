/- The walk of Matches. -/
import Derived.Test.YtgbjcphhcfmpgaaGreatDoorW3
namespace Go.Proofs.YtgbjcphhcfmpgaaGreatDoor
open Go.RowKit Go.Proofs.MapEnt

/-- What Matches answers: the matches, the grams of the one, of the other, an error. -/
def mres (a b : Ws) (n : Int) : Int × Int × Int × Int :=
  if 512 < a.length ∨ 512 < b.length then (0, 0, 0, 3) else if n < 1 ∨ 4 < n then (0, 0, 0, 1)
  else ((Bag.mt a b n.toNat : Nat), max ((a.length : Int) - n + 1) 0, max ((b.length : Int) - n + 1) 0, 0)
def quad (m : Int × Int × Int × Int) : Value := .tuple #[.int .i64 m.1, .int .i64 m.2.1, .int .i64 m.2.2.1, .int .u8 m.2.2.2]
theorem ret_quad {x y z u : Int} {m : Int × Int × Int × Int} (h1 : x = m.1) (h2 : y = m.2.1) (h3 : z = m.2.2.1) (h4 : u = m.2.2.2) :
    Ending.returned (.tuple #[.int .i64 x, .int .i64 y, .int .i64 z, .int .u8 u]) = .returned (quad m) := by rw [h1, h2, h3, h4]; rfl
theorem mres_long {a b : Ws} {n : Int} (h : 512 < a.length ∨ 512 < b.length) : mres a b n = (0, 0, 0, 3) := if_pos h
theorem mres_arg {a b : Ws} {n : Int} (h : ¬ (512 < a.length ∨ 512 < b.length)) (h2 : n < 1 ∨ 4 < n) : mres a b n = (0, 0, 0, 1) := by unfold mres; rw [if_neg h, if_pos h2]
theorem mres_ok {a b : Ws} {n : Nat} (h : ¬ (512 < a.length ∨ 512 < b.length)) (h2 : ¬ ((n : Int) < 1 ∨ 4 < (n : Int))) :
    mres a b n = (((Bag.mt a b n : Nat) : Int), max ((a.length : Int) - n + 1) 0, max ((b.length : Int) - n + 1) 0, 0) := by unfold mres; rw [if_neg h, if_neg h2]; simp
set_option maxHeartbeats 1600000 in
set_option maxRecDepth 1000000 in
theorem matches_says (a b : Ws) (n : Int) (w : World) (A C : Option Addr) (cA cC : Nat) (hA : In w A cA a) (hC : In w C cC b) (hn1 : -9223372036854775808 ≤ n) (hn2 : n ≤ 9223372036854775807) (la : a.length ≤ 9223372036854775807) (lb : b.length ≤ 9223372036854775807) :
    Calls Tryz.prog 8 #[.slice A a.length cA, .slice C b.length cC, .int .i64 n] w fun e w' => e = .returned (quad (mres a b n)) ∧ w.Since w.heap.size w' := by
  have HA := Lib.hid hA
  have HC := Lib.hid hC
  have HR := Lib.hid (World.Since.refl w.heap.size w)
  clear hA hC
  by_cases h1 : 512 < a.length
  · rw [mres_long (.inl h1)]
    unfold quad
    go_enter Tryz.func8, Tryz.ntmps8
    go_wp2_with fail
    exact bodyPost_ret (v := .tuple #[.int .i64 0, .int .i64 0, .int .i64 0, .int .u8 3]) (by simp [results, Tryz.results8, go_sem]) rfl ⟨rfl, HR.out⟩
  by_cases h2 : 512 < b.length
  · rw [mres_long (.inr h2)]
    unfold quad
    go_enter Tryz.func8, Tryz.ntmps8
    go_wp2_with fail
    exact bodyPost_ret (v := .tuple #[.int .i64 0, .int .i64 0, .int .i64 0, .int .u8 3]) (by simp [results, Tryz.results8, go_sem]) rfl ⟨rfl, HR.out⟩
  have hs : ¬ (512 < a.length ∨ 512 < b.length) := by omega
  by_cases h3 : n < 1
  · rw [mres_arg hs (.inl h3)]
    unfold quad
    clear hs
    go_enter Tryz.func8, Tryz.ntmps8
    go_wp2_with fail
    exact bodyPost_ret (v := .tuple #[.int .i64 0, .int .i64 0, .int .i64 0, .int .u8 1]) (by simp [results, Tryz.results8, go_sem]) rfl ⟨rfl, HR.out⟩
  by_cases h4 : 4 < n
  · rw [mres_arg hs (.inr h4)]
    unfold quad
    clear hs
    go_enter Tryz.func8, Tryz.ntmps8
    go_wp2_with fail
    exact bodyPost_ret (v := .tuple #[.int .i64 0, .int .i64 0, .int .i64 0, .int .u8 1]) (by simp [results, Tryz.results8, go_sem]) rfl ⟨rfl, HR.out⟩
  obtain ⟨k, rfl⟩ : ∃ k : Nat, n = k := ⟨n.toNat, by omega⟩
  rw [mres_ok hs (by omega)]
  have HS := Lib.hid hs
  clear hs
  go_enter Tryz.func8, Tryz.ntmps8
  go_wp2_with fail
  refine (common_says a b k w A C cA cC HA.out HC.out (by omega) (by omega) (by omega) (by omega)).mono ?_
  rintro e w1 ⟨rfl, hs⟩
  have S1 := Lib.hid hs
  have hml := Bag.mt_left a b k
  obtain ⟨m, hm⟩ : ∃ m, m = Bag.mt a b k := ⟨_, rfl⟩
  rw [← hm] at hml ⊢
  have HM : Hid ((m : Int) = (Bag.mt a b k : Nat)) := Lib.hid (by rw [hm])
  clear hs hm
  by_cases p1 : 0 ≤ (a.length : Int) - k + 1
  · by_cases p2 : 0 ≤ (b.length : Int) - k + 1
    · go_wp2_with fail
      exact bodyPost_ret (v := .tuple #[.int .i64 m, .int .i64 ((a.length : Int) - k + 1), .int .i64 ((b.length : Int) - k + 1), .int .u8 0]) (by simp [results, Tryz.results8, go_sem]) rfl ⟨ret_quad HM.out (by simp only; omega) (by simp only; omega) rfl, S1.out⟩
    · go_wp2_with fail
      exact bodyPost_ret (v := .tuple #[.int .i64 m, .int .i64 ((a.length : Int) - k + 1), .int .i64 0, .int .u8 0]) (by simp [results, Tryz.results8, go_sem]) rfl ⟨ret_quad HM.out (by simp only; omega) (by simp only; omega) rfl, S1.out⟩
  · by_cases p2 : 0 ≤ (b.length : Int) - k + 1
    · go_wp2_with fail
      exact bodyPost_ret (v := .tuple #[.int .i64 m, .int .i64 0, .int .i64 ((b.length : Int) - k + 1), .int .u8 0]) (by simp [results, Tryz.results8, go_sem]) rfl ⟨ret_quad HM.out (by simp only; omega) (by simp only; omega) rfl, S1.out⟩
    · go_wp2_with fail
      exact bodyPost_ret (v := .tuple #[.int .i64 m, .int .i64 0, .int .i64 0, .int .u8 0]) (by simp [results, Tryz.results8, go_sem]) rfl ⟨ret_quad HM.out (by simp only; omega) (by simp only; omega) rfl, S1.out⟩
end Go.Proofs.YtgbjcphhcfmpgaaGreatDoor
