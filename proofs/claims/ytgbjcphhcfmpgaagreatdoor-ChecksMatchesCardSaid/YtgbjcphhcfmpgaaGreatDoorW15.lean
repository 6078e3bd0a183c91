/- The walk of the law ChecksMatches. -/
import Derived.Test.YtgbjcphhcfmpgaaGreatDoorW14
import Derived.Test.YtgbjcphhcfmpgaaGreatDoorW6
namespace Go.Proofs.YtgbjcphhcfmpgaaGreatDoor
open Go.RowKit Go.Proofs.MapEnt
open Go.Proofs.Lev hiding Ws

set_option maxHeartbeats 6400000 in
set_option maxRecDepth 1000000 in
theorem law_matches (a b : Ws) (n : Int) (w : World) (A C : Option Addr) (cA cC : Nat) (hA : In w A cA a) (hC : In w C cC b) (ka : cA ≤ 9223372036854775807) (kc : cC ≤ 9223372036854775807)
    (hn1 : -9223372036854775808 ≤ n) (hn2 : n ≤ 9223372036854775807) :
    Calls Tryz.prog 3 #[.slice A a.length cA, .slice C b.length cC, .int .i64 n] w fun e w' => e = .returned (.bool true) ∧ w.Since w.heap.size w' := by
  have la : a.length ≤ 9223372036854775807 := Nat.le_trans hA.cap ka
  have lb : b.length ≤ 9223372036854775807 := Nat.le_trans hC.cap kc
  have HT := Lib.hid (two_at hA hC ka kc)
  have HS := Lib.hid ((World.Since.refl w.heap.size w).alloc (Nat.le_refl _) (.cells #[.slice A a.length cA, .slice C b.length cC] 22))
  have H0 := Lib.hid (And.intro hA hC)
  have K1 := Lib.hid (fun (w : World) hA hC => matches_says a b n w A C cA cC hA hC hn1 hn2 la lb)
  have K2 := Lib.hid (fun (w : World) hA hC => refM_says a b n w A C cA cC hA hC hn1 hn2 la lb)
  have K3 := Lib.hid (fun (w : World) hA hC => edits_says a b w A C cA cC hA hC la lb)
  have K4 := Lib.hid (fun (w : World) hA hC => refEdits_says a b w A C cA cC hA hC la lb)
  have hl := eres_len a b
  unfold EditsSay at K3 K4
  generalize mres a b n = q at K1 K2
  obtain ⟨m1, m2, m3, m4⟩ := q
  unfold quad at K1 K2
  simp only at K1 K2
  generalize eres a b = r at K3 K4 hl
  obtain ⟨S, M, E⟩ := r
  simp only at K3 K4 hl
  clear hA hC
  go_enter Tryz.func3, Tryz.ntmps3
  go_wp2_with (first
    | (go_at_call 6; refine (many_two _ _ _ _ a b _ _ HT.out).mono ?_; rintro e w' ⟨⟨v, rfl⟩, rfl⟩; cases v)
    | (go_at_call 7; refine (says_true _).mono ?_; rintro e w' ⟨rfl, hw'⟩; have HW := Lib.hid hw'; clear hw')
    | fail)
  · refine (K1.out _ (H0.out.1.up HS.out) (H0.out.2.up HS.out)).mono ?_
    rintro e w2 ⟨rfl, hs⟩
    have P2 := Lib.hid (since_two HS.out hs)
    clear hs
    go_wp2_with fail
    refine (K2.out _ (H0.out.1.up P2.out) (H0.out.2.up P2.out)).mono ?_
    rintro e w3 ⟨rfl, hs⟩
    have P3 := Lib.hid (since_two P2.out hs)
    clear hs
    go_wp2_with fail
    refine (K3.out _ (H0.out.1.up P3.out) (H0.out.2.up P3.out)).mono ?_
    rintro e w4 ⟨R1, c1, rfl, hO, hs⟩
    have P4 := Lib.hid (since_two P3.out hs)
    have O4 := Lib.hid hO
    clear hs hO
    go_wp2_with fail
    refine (K4.out _ (H0.out.1.up P4.out) (H0.out.2.up P4.out)).mono ?_
    rintro e w5 ⟨R2, c2, rfl, hO, hs⟩
    have P5 := Lib.hid (since_two P4.out hs)
    have O5 := Lib.hid (O4.out.up hs)
    have Q5 := Lib.hid hO
    clear hs hO K1 K2 K3 K4 P2 P3 P4 O4 HT HS
    go_wp2_with fail
    go_loopg [19] S.length (fun g x wr => ∃ X : Nat, X ≤ S.length ∧ g = S.length - X ∧ x = .int .i64 X ∧ Same w5 wr)
    case atStart => exact ⟨0, by omega, by omega, rfl, Same.refl _⟩
    case round =>
      obtain ⟨X, hX, rfl, rfl, hS⟩ := hrel
      by_cases hlt : X < S.length
      · obtain ⟨g1, rfl, ca⟩ := O5.out.at_ X hlt
        obtain ⟨g2, rfl, cb⟩ := Q5.out.at_ X hlt
        rw [← hS.cell] at ca cb
        have HM := Lib.hid hS
        clear hS
        generalize S[X] = s at *
        go_wp2_with fail
        go_quiet (fail)
        go_wp2_with fail
        go_roundg (S.length - (X + 1))
        case measure => omega
        case rel => exact ⟨X + 1, by omega, rfl, by go_num, HM.out.up rfl rfl rfl rfl⟩
      · obtain rfl : X = S.length := by omega
        have P6 := Lib.hid (hS.into P5.out)
        clear hS
        go_wp2_with fail
        refine (says_true _).mono ?_
        rintro e wz ⟨rfl, hs⟩
        have PZ := Lib.hid (since_two P6.out hs)
        clear hs
        go_wp2_with fail
        go_ret
        exact ⟨rfl, PZ.out⟩
  · go_ret
    exact ⟨rfl, since_two HS.out HW.out⟩
end Go.Proofs.YtgbjcphhcfmpgaaGreatDoor
