/- The walk of the law ChecksSteps. -/
import Derived.Test.YtdiamfejibicbaaGreatDoorS3
import Derived.Test.YtdiamfejibicbaaGreatDoorS4
import Derived.Test.YtdiamfejibicbaaGreatDoorS5
namespace Go.Proofs.YtdiamfejibicbaaGreatDoor
open Go.RowKit Go.Proofs.Lev

theorem since_two {w w1 w2 : World} (h1 : w.Since w.heap.size w1) (h2 : w1.Since w1.heap.size w2) : w.Since w.heap.size w2 :=
  have hle := h1.size
  h1.trans ⟨h2.os, h2.tape, h2.output, h2.size, fun k hk => h2.block k (by omega)⟩
set_option maxHeartbeats 32000000 in
set_option maxRecDepth 1000000 in
theorem law_big (a b c : Ws) (word : ByteArray) (w : World) (A C D : Option Addr) (cA cC cD : Nat) (hA : StrAt w w.heap.size A a) (hC : StrAt w w.heap.size C b) (hD : StrAt w w.heap.size D c)
    (la : a.length ≤ 9223372036854775807) (lb : b.length ≤ 9223372036854775807) (lc : c.length ≤ 9223372036854775807) (hbig : 39 < a.length ∨ 39 < b.length ∨ 39 < c.length ∨ 100 < word.size) :
    Calls Tryz.prog 3 #[.slice A a.length cA, .slice C b.length cC, .slice D c.length cD, .string word] w fun e w' => e = .returned (.bool true) ∧ w.Since w.heap.size w' := by
  have hT := Lib.hid (three_at (cA := cA) (cC := cC) (cD := cD) hA hC hD)
  have hS := Lib.hid ((World.Since.refl w.heap.size w).alloc (Nat.le_refl _) (.cells #[.slice A a.length cA, .slice C b.length cC, .slice D c.length cD] 22))
  have hN : Hid (∀ i, i < 3 → (sel a b c i).length ≤ 9223372036854775807) := fun i hi => by
    match i, hi with
    | 0, _ => exact la
    | 1, _ => exact lb
    | 2, _ => exact lc
  clear hA hC hD
  go_enter Tryz.func3, Tryz.ntmps3
  go_wp2_with (first
    | (go_at_call 4; refine (many_any _ _ _ _ _ _ hT.out hN.out).mono ?_; rintro e w' ⟨⟨v, rfl⟩, rfl⟩; cases v)
    | (go_at_call 5; refine (says_true _).mono ?_; rintro e w' ⟨rfl, hw'⟩; have HW := Lib.hid hw'; clear hw'))
  all_goals go_ret
  all_goals exact ⟨rfl, since_two hS.out HW.out⟩
end Go.Proofs.YtdiamfejibicbaaGreatDoor
