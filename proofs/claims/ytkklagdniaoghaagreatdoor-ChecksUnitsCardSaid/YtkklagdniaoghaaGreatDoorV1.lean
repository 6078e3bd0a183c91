/- The walks of isText's scan: is some rune one that no text has? -/
import Derived.Test.YtkklagdniaoghaaGreatDoorI1
import Derived.Test.YtkklagdniaoghaaGreatDoorW8
import Derived.Outline
namespace Go.Proofs.YtkklagdniaoghaaGreatDoor
open Go.RowKit Go.Proofs.Uni Go.Proofs.StrIt

/-- A rune that no text has. -/
def ctl (r : Nat) : Bool := decide (r < 32) || r == 127
set_option maxHeartbeats 1600000 in
theorem ctl_says (r : Nat) (w : World) : Calls Tryz.prog 46 #[.int .i32 r] w fun e w' => e = .returned (.bool (ctl r)) ∧ w = w' := by
  by_cases h1 : r < 32
  · have e : ctl r = true := by simp [ctl, h1]
    rw [e]
    clear e
    go_enter Tryz.func46, Tryz.ntmps46
    go_wp2
    go_ret
    exact ⟨rfl, rfl⟩
  · by_cases h2 : r = 127
    · subst h2
      go_enter Tryz.func46, Tryz.ntmps46
      go_wp2
      go_ret
      exact ⟨rfl, rfl⟩
    · have e : ctl r = false := by simp [ctl, h1, h2]
      rw [e]
      clear e
      have h3 : ((r : Int) == 127) = false := by simp; omega
      have h4 : decide ((r : Int) < 32) = false := by simp; omega
      clear h2
      go_enter Tryz.func46, Tryz.ntmps46
      go_wp2
      go_ret
      exact ⟨rfl, rfl⟩
/-- Found: below 0 if there is none. -/
def FoundSay (s : ByteArray) (w : World) (e : Ending) (w' : World) : Prop := ∃ k : Int, e = .returned (.int .i64 k) ∧ (0 ≤ k ↔ (runes s.data.toList).any ctl = true) ∧ w.Since w.heap.size w'
theorem any_step {s : ByteArray} {pos : Nat} {rs : List Nat} (h : Half s pos rs) (hp : pos < s.size) (hc : ctl (Utf8.decode s pos).1 = true) : (runes s.data.toList).any ctl = true := by
  have h2 := half_step h hp
  rw [← h2.1, List.any_append, List.any_append]
  simp [hc]
set_option maxHeartbeats 3200000 in
set_option maxRecDepth 1000000 in
theorem indexFunc_says (s : ByteArray) (w : World) (hs : s.size ≤ 9223372036854775807) : Calls Tryz.prog 146 #[.string s, .func (.func 46) #[] #[], .bool true] w (FoundSay s w) := by
  go_enter Tryz.func146, Tryz.ntmps146
  have H0 : Hid ((w.iter s 0).heap[w.heap.size]? = some (.stringIter s 0)) := Lib.hid (World.iter_heap w s 0)
  have S0 : Hid (w.Since w.heap.size (w.iter s 0)) := Lib.hid ((World.Since.refl w.heap.size w).alloc (Nat.le_refl _) _)
  go_wp2_with fail
  generalize w.iter s 0 = w0 at *
  go_loopg [] s.size (fun g wr => ∃ (pos : Nat) (rs : List Nat), g = s.size - pos ∧ Hid (wr.heap[w.heap.size]? = some (.stringIter s pos)) ∧ Hid (Half s pos rs ∧ rs.any ctl = false) ∧ Hid (w.Since w.heap.size wr))
  case atStart => exact ⟨0, [], by omega, H0, Lib.hid ⟨half_start s, rfl⟩, S0⟩
  case round =>
    obtain ⟨pos, rs, rfl, hI, hH, hS⟩ := hrel
    go_wp2_with (refine wpList_next_str _ rfl (.tmp 10) rfl w.heap.size s pos rfl hI.out ?_ ?_)
    · intro hp
      have HF : Hid ((runes s.data.toList).any ctl = false) := Lib.hid (by rw [← half_end hH.out.1 (by omega)]; exact hH.out.2)
      go_wp2_with fail
      go_ret
      exact ⟨-1, rfl, ⟨fun h => by omega, fun h => by rw [HF.out] at h; cases h⟩, hS.out⟩
    · intro hp w2 hI2 hg2 hz2
      have hw := Lib.width_pos s pos
      have S2 := Lib.hid (since_grown hS.out hS.out.size hg2 (fun k e => by cases e; exact Nat.le_refl _))
      have I2 := Lib.hid hI2
      have HN := Lib.hid (half_step hH.out.1 hp)
      have HA := Lib.hid (any_step hH.out.1 hp)
      have HC := Lib.hid (fun wx => ctl_says (Utf8.decode s pos).1 wx)
      have hA2 := Lib.hid hH.out.2
      clear hg2 hI2 hz2
      generalize (Utf8.decode s pos).1 = r at *
      generalize (Utf8.decode s pos).2 = k at *
      cases hc : ctl r
      · have HB : Hid ((rs ++ [r]).any ctl = false) := Lib.hid (by rw [List.any_append, hA2.out]; simp [hc])
        rw [hc] at HC
        clear HA hc hA2
        go_wp2_with (first | (refine (HC.out _).mono ?_; rintro e wx ⟨rfl, rfl⟩))
        go_roundg (s.size - (pos + k))
        case measure => omega
        case rel => exact ⟨pos + k, rs ++ [r], rfl, I2, Lib.hid ⟨HN.out, HB.out⟩, S2⟩
      · have HB := Lib.hid (HA.out hc)
        rw [hc] at HC
        clear HA hc hA2
        go_wp2_with (first | (refine (HC.out _).mono ?_; rintro e wx ⟨rfl, rfl⟩))
        go_ret
        exact ⟨pos, rfl, ⟨fun _ => HB.out, fun _ => by omega⟩, S2.out⟩
set_option maxHeartbeats 3200000 in
theorem containsFunc_says (s : ByteArray) (w : World) (hs : s.size ≤ 9223372036854775807) :
    Calls Tryz.prog 45 #[.string s, .func (.func 46) #[] #[]] w fun e w' => e = .returned (.bool ((runes s.data.toList).any ctl)) ∧ w.Since w.heap.size w' := by
  have K : ∀ wx, Calls Tryz.prog 80 #[.string s, .func (.func 46) #[] #[]] wx (FoundSay s wx) := fun wx => by
    have K0 := Lib.hid (indexFunc_says s wx hs)
    go_enter Tryz.func80, Tryz.ntmps80
    go_wp2_with fail
    refine K0.out.mono ?_
    rintro e w2 ⟨k, rfl, hk, hs2⟩
    have HK := Lib.hid (And.intro hk hs2)
    clear hk hs2
    go_wp2_with fail
    go_ret
    exact ⟨k, rfl, HK.out.1, HK.out.2⟩
  have HK := Lib.hid K
  clear K
  go_enter Tryz.func45, Tryz.ntmps45
  go_wp2_with fail
  refine (HK.out _).mono ?_
  rintro e w2 ⟨k, rfl, hk, hs2⟩
  have HS := Lib.hid hs2
  have e : (runes s.data.toList).any ctl = decide (0 ≤ k) := by
    cases h : (runes s.data.toList).any ctl
    · rw [h] at hk; simp at hk; simp; omega
    · rw [h] at hk; simp at hk; simp [hk]
  have HE := Lib.hid e
  clear hk hs2 e
  go_wp2_with fail
  go_ret
  exact ⟨by rw [HE.out]; rfl, HS.out⟩
end Go.Proofs.YtkklagdniaoghaaGreatDoor
