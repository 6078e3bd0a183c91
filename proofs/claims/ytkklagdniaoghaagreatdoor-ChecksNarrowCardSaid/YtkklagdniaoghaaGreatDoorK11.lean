/- The walks of the sort: slices.SortFunc at at most 49 quotients. -/
import Derived.Test.YtkklagdniaoghaaGreatDoorK10
import Derived.Test.YtkklagdniaoghaaGreatDoorI3
namespace Go.Proofs.YtkklagdniaoghaaGreatDoor
open Go.RowKit Go.Proofs.Rank Go.Sort

set_option maxHeartbeats 3200000 in
set_option maxRecDepth 1000000 in
theorem sortFunc_says (d : Array Qs) (g cap m : Nat) (w : World) (h : RowQ w g d w) (hm : d.size = m) (hsz : m < 50) :
    Calls Tryz.prog 36 #[.slice (some ⟨g, 0, none⟩) m cap, cmpV] w (SortSay w g (pdq ltQ d 0 m (Lib.bitLen m) true true)) := by
  have hlim : Lib.bitLen m ≤ 62 := Lib.bitLen_le m 62 (by omega) (by omega)
  have KP := Lib.hid (pdq_says g cap m w hsz (m + 1) 0 m (Lib.bitLen m) d w (by omega) hm h (Nat.zero_le _) (Nat.le_refl _) (by omega) (Or.inl rfl))
  have hl : Calls Tryz.prog 56 #[.int .u64 (m : Int)] w fun e w' => e = .returned (.int .i64 (Lib.bitLen m : Nat)) ∧ w' = w := by
    have h := Any.bits_Len (SlLaysF0.n15.bits (P := Tryz.prog) (ρ := Tryz.laysPow_ren) { Tryz.laysPow with }) (m : Int) w (by omega) (by omega)
    rwa [Int.toNat_natCast] at h
  have wr : IntKind.u64.wrap (m : Int) = m := by simp [IntKind.wrap, IntKind.bits, IntKind.signed]; omega
  generalize Lib.bitLen m = lim at *
  clear h hm
  unfold SortSay at KP
  unfold cmpV at *
  go_enter Tryz.func36, Tryz.ntmps36
  go_wp2_with (first | (go_at_call 56; refine hl.mono ?_; rintro e w' ⟨rfl, rfl⟩) | (go_at_call 55; refine KP.out.mono ?_; rintro e w' ⟨rfl, hw⟩))
  go_end0
  exact ⟨rfl, hw⟩
/-- After the sort the row holds the ranks. -/
theorem sorted_ranks {ps : List (Int × Int)} {ds : List (List Int)} (h : OkS ps ds) (m lim : Nat) (hm : ds.length = m) : Ranks ps ds ((pdq ltQ (scQ ps ds).toArray 0 m lim true true).toList.map (·.1)) := by
  have hs : (scQ ps ds).toArray.size = m := by simp [scQ, hm]
  have hp := pdq_sorts ltQ swoQ (scQ ps ds).toArray 0 m lim true true (Nat.zero_le _) (by omega) (Or.inl rfl)
  exact ranks_of_sort h (by rw [hs]; exact hp.1) (by rw [hs]; exact hp.2)
end Go.Proofs.YtkklagdniaoghaaGreatDoor
