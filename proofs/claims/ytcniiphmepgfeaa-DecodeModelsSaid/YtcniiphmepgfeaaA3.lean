import Derived.Test.YtcniiphmepgfeaaA1
import Derived.StillTailTactics
namespace Go.Proofs.Ytcniiphmepgfeaa
open Go.RowKit

def cmpS (a b : ByteArray) : Int := if Op.bytesLess a.toList b.toList then -1 else if a.toList == b.toList then 0 else 1

set_option maxHeartbeats 400000 in
theorem cmp24 (a b : ByteArray) (w : World) :
    Calls Try.prog 24 #[.string a, .string b] w fun e w' => e = .returned (.int .i64 (cmpS a b)) ∧ w = w' := by
  cases h1 : Op.bytesLess a.toList b.toList
  · cases h2 : (a.toList == b.toList)
    · have H : Hid (cmpS a b = 1) := by simp only [cmpS, h1, h2]; rfl
      go_enter Try.func24, Try.ntmps24
      go_wp2_with (go_at_call 28; refine (nan28 _ _).mono ?_; rintro e w' ⟨rfl, rfl⟩)
      go_ret
      exact ⟨ret_int H.out.symm, rfl⟩
    · have H : Hid (cmpS a b = 0) := by simp only [cmpS, h1, h2]; rfl
      go_enter Try.func24, Try.ntmps24
      go_wp2_with (go_at_call 28; refine (nan28 _ _).mono ?_; rintro e w' ⟨rfl, rfl⟩)
      go_ret
      exact ⟨ret_int H.out.symm, rfl⟩
  · have H : Hid (cmpS a b = -1) := by simp only [cmpS, h1]; rfl
    go_enter Try.func24, Try.ntmps24
    go_wp2_with (go_at_call 28; refine (nan28 _ _).mono ?_; rintro e w' ⟨rfl, rfl⟩)
    go_ret
    exact ⟨ret_int H.out.symm, rfl⟩

def orI (x y : Int) : Int := if x = 0 then y else x

set_option maxHeartbeats 400000 in
theorem or23 (x y : Int) (b : Nat) (w : World) (h0 : w.cell? ⟨b, 0, none⟩ = some (.int .i64 x)) (h1 : w.cell? ⟨b, 1, none⟩ = some (.int .i64 y)) :
    Calls Try.prog 23 #[.slice (some ⟨b, 0, none⟩) 2 2] w fun e w' => e = .returned (.int .i64 (orI x y)) ∧ w = w' := by
  rcases Decidable.em (x = 0) with hx | hx
  · subst hx
    have H : Hid (orI 0 y = y) := rfl
    rcases Decidable.em (y = 0) with hy | hy
    · subst hy
      go_enter Try.func23, Try.ntmps23
      go_wp2
      refine wp_loop_rounds 3 ?_
      rw [rounds_succ]
      go_wp2
      rw [rounds_succ]
      go_wp2
      rw [rounds_succ]
      go_wp2
      go_ret
      exact ⟨ret_int H.out.symm, rfl⟩
    · have hy' : (y == 0) = false := by simpa using hy
      have hy2 : (y != 0) = true := by simpa using hy
      go_enter Try.func23, Try.ntmps23
      go_wp2
      refine wp_loop_rounds 2 ?_
      rw [rounds_succ]
      go_wp2
      rw [rounds_succ]
      go_wp2
      go_ret
      exact ⟨ret_int H.out.symm, rfl⟩
  · have hy' : (x == 0) = false := by simpa using hx
    have hy2 : (x != 0) = true := by simpa using hx
    have H : Hid (orI x y = x) := by simp [orI, hx, Hid]
    go_enter Try.func23, Try.ntmps23
    go_wp2
    refine wp_loop_rounds 1 ?_
    rw [rounds_succ]
    go_wp2
    go_ret
    exact ⟨ret_int H.out.symm, rfl⟩
end Go.Proofs.Ytcniiphmepgfeaa
