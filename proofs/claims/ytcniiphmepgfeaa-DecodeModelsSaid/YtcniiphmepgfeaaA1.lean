import Derived.Test.YtcniiphmepgfeaaRows
import Derived.WalkKit
import Derived.WalkSpells
import Derived.WalkLawsBesides
import Derived.Lib.Hide
import Derived.Deep.QuietTactic
import Derived.BigQuiet
namespace Go.Proofs.Ytcniiphmepgfeaa
open Go.RowKit

theorem ret_bool {a b : Bool} (h : a = b) : Ending.returned (.bool a) = .returned (.bool b) := by rw [h]
theorem ret_int {k : IntKind} {a b : Int} (h : a = b) : Ending.returned (.int k a) = .returned (.int k b) := by rw [h]

/-! ## plain -/
def costB (n : Int) : Bool := decide (0 ≤ n) && decide (n ≤ 10000)
theorem costB_t {n : Int} (h : 0 ≤ n) (h' : n ≤ 10000) : costB n = true := by simp [costB, h, h']
theorem costB_f {n : Int} (h : n < 0 ∨ 10000 < n) : costB n = false := by simp [costB]; omega
def okc (c : UInt8) : Bool := decide (33 ≤ c.toNat) && decide (c.toNat ≤ 126)
theorem okc_t {c : UInt8} (h : 33 ≤ c.toNat) (h' : c.toNat ≤ 126) : okc c = true := by simp [okc, h, h']
theorem okc_f {c : UInt8} (h : c.toNat < 33 ∨ 126 < c.toNat) : okc c = false := by simp [okc]; omega
def allB (l : List UInt8) : Bool := l.all okc
def wordB (s : ByteArray) : Bool := decide (1 ≤ s.size) && decide (s.size ≤ 24) && allB s.data.toList
def endB (s : ByteArray) : Bool := s.toList.isEmpty || wordB s
theorem wordB_f {s : ByteArray} (h : s.size < 1 ∨ 24 < s.size) : wordB s = false := by
  unfold wordB
  rcases h with h | h
  · have : ¬ 1 ≤ s.size := by omega
    simp [this]
  · have : ¬ s.size ≤ 24 := by omega
    simp [this]
theorem wordB_t {s : ByteArray} (h : 1 ≤ s.size) (h' : s.size ≤ 24) : wordB s = allB s.data.toList := by simp [wordB, h, h']

theorem take_snoc (s : ByteArray) (k : Nat) (h : k < s.size) : s.data.toList.take (k + 1) = s.data.toList.take k ++ [s[k]] := by
  rw [List.take_succ_eq_append_getElem (by simpa using h)]; rfl
theorem allB_zero (s : ByteArray) : allB (s.data.toList.take 0) = true := by simp [allB]
theorem allB_succ {s : ByteArray} {k : Nat} (h : k < s.size) (ha : allB (s.data.toList.take k) = true) : allB (s.data.toList.take (k + 1)) = okc s[k] := by
  unfold allB at *; rw [take_snoc s k h, List.all_append, ha]; simp
theorem allB_bad {s : ByteArray} {k : Nat} (h : k < s.size) (hb : okc s[k] = false) : allB s.data.toList = false := by
  unfold allB
  have : s[k] ∈ s.data.toList := by
    have := List.getElem_mem (l := s.data.toList) (n := k) (by simpa using h)
    exact this
  rw [List.all_eq_false]
  exact ⟨_, this, by simp [hb]⟩
theorem allB_end {s : ByteArray} {k : Nat} (h : k ≤ s.size) (hn : ¬ k < s.size) (ha : allB (s.data.toList.take k) = true) : allB s.data.toList = true := by
  rwa [List.take_of_length_le (by simp; omega)] at ha

/-! ## walks -/
set_option maxHeartbeats 400000 in
theorem cost22 (n : Int) (w : World) :
    Calls Try.prog 22 #[.int .i64 n] w fun e w' => e = .returned (.bool (costB n)) ∧ w = w' := by
  by_cases h0 : 0 ≤ n
  · go_enter Try.func22, Try.ntmps22
    go_wp2
    go_ret
    exact ⟨ret_bool (by simp [costB, h0]), rfl⟩
  · have h0' : n < 0 := by omega
    have H := Lib.hid (costB_f (.inl h0'))
    go_enter Try.func22, Try.ntmps22
    go_wp2
    go_ret
    exact ⟨ret_bool H.out.symm, rfl⟩

set_option maxHeartbeats 400000 in
theorem cost25 (n : Int) (w : World) :
    Calls Try.prog 25 #[.int .i64 n] w fun e w' => e = .returned (.bool (costB n)) ∧ w = w' := by
  by_cases h0 : 0 ≤ n
  · go_enter Try.func25, Try.ntmps25
    go_wp2
    go_ret
    exact ⟨ret_bool (by simp [costB, h0]), rfl⟩
  · have h0' : n < 0 := by omega
    have H := Lib.hid (costB_f (.inl h0'))
    go_enter Try.func25, Try.ntmps25
    go_wp2
    go_ret
    exact ⟨ret_bool H.out.symm, rfl⟩

set_option maxHeartbeats 400000 in
theorem nan28 (s : ByteArray) (w : World) :
    Calls Try.prog 28 #[.string s] w fun e w' => e = .returned (.bool false) ∧ w = w' := by
  go_enter Try.func28, Try.ntmps28
  go_wp2
  go_ret
  simp

set_option maxHeartbeats 400000 in
theorem okc27 (c : UInt8) (w : World) :
    Calls Try.prog 27 #[.int .u8 c.toNat] w fun e w' => e = .returned (.bool (okc c)) ∧ w = w' := by
  by_cases h0 : 33 ≤ c.toNat
  · have H : Hid (∀ b : Bool, b = decide ((c.toNat : Int) ≤ 126) → b = okc c) := fun b hb => by rw [hb]; simp [okc, h0]; omega
    go_enter Try.func27, Try.ntmps27
    go_wp2
    go_ret
    exact ⟨ret_bool (H.out _ (by simp)), rfl⟩
  · have H := Lib.hid (okc_f (c := c) (.inl (by omega)))
    go_enter Try.func27, Try.ntmps27
    go_wp2
    go_ret
    exact ⟨ret_bool H.out.symm, rfl⟩

set_option maxHeartbeats 400000 in
theorem all26 (s : ByteArray) (w : World) (hs : s.size ≤ 24) :
    Calls Try.prog 26 #[.string s, .func (.func 27) #[] #[]] w fun e w' => e = .returned (.bool (allB s.data.toList)) ∧ w = w' := by
  go_enter Try.func26, Try.ntmps26
  go_wp2
  go_loop [5, 8] (fun x i => ∃ k : Nat, k ≤ s.size ∧ i = .int .i64 k ∧ allB (s.data.toList.take k) = true) (fun _ i => s.size - (intOf i).toNat)
  case atStart => exact ⟨0, Nat.zero_le _, rfl, allB_zero _⟩
  case round =>
    obtain ⟨k, hk, rfl, hall⟩ := hrel
    by_cases hlt : k < s.size
    · have H2 := Lib.hid (allB_succ hlt hall)
      clear hall
      cases ho : okc s[k]
      · have HF := Lib.hid (allB_bad hlt ho)
        go_wp2_with (go_at_call 27; refine (okc27 _ _).mono ?_; rintro e w' ⟨rfl, rfl⟩)
        go_ret
        exact ⟨ret_bool HF.out.symm, rfl⟩
      · go_wp2_with (go_at_call 27; refine (okc27 _ _).mono ?_; rintro e w' ⟨rfl, rfl⟩)
        go_round
        case rel => exact ⟨k + 1, by omega, by go_num, H2.out.trans ho⟩
        case measure => simp [intOf]; omega
    · have HF := Lib.hid (allB_end hk hlt hall)
      clear hall
      go_wp2
      go_ret
      exact ⟨ret_bool HF.out.symm, rfl⟩

set_option maxHeartbeats 400000 in
theorem word18 (s : ByteArray) (w : World) :
    Calls Try.prog 18 #[.string s] w fun e w' => e = .returned (.bool (wordB s)) ∧ w = w' := by
  by_cases h1 : 1 ≤ s.size
  · by_cases h2 : s.size ≤ 24
    · have H := Lib.hid (wordB_t h1 h2)
      go_enter Try.func18, Try.ntmps18
      go_wp2_with (go_at_call 26; refine (all26 _ _ (by omega)).mono ?_; rintro e w' ⟨rfl, rfl⟩)
      go_ret
      exact ⟨ret_bool H.out.symm, rfl⟩
    · have h2' : 24 < s.size := by omega
      have H := Lib.hid (wordB_f (.inr h2'))
      go_enter Try.func18, Try.ntmps18
      go_wp2
      go_ret
      exact ⟨ret_bool H.out.symm, rfl⟩
  · have h1' : s.size < 1 := by omega
    have H := Lib.hid (wordB_f (.inl h1'))
    go_enter Try.func18, Try.ntmps18
    go_wp2
    go_ret
    exact ⟨ret_bool H.out.symm, rfl⟩

set_option maxHeartbeats 400000 in
theorem word20 (s : ByteArray) (w : World) :
    Calls Try.prog 20 #[.string s] w fun e w' => e = .returned (.bool (wordB s)) ∧ w = w' := by
  by_cases h1 : s.size < 1
  · have H := Lib.hid (wordB_f (.inl h1))
    go_enter Try.func20, Try.ntmps20
    go_wp2
    go_ret
    exact ⟨ret_bool H.out.symm, rfl⟩
  by_cases h2 : 24 < s.size
  · have H := Lib.hid (wordB_f (.inr h2))
    go_enter Try.func20, Try.ntmps20
    go_wp2
    go_ret
    exact ⟨ret_bool H.out.symm, rfl⟩
  have HB := Lib.hid (wordB_t (s := s) (by omega) (by omega))
  go_enter Try.func20, Try.ntmps20
  go_wp2
  go_loop [3] (fun i => ∃ k : Nat, k ≤ s.size ∧ i = .int .i64 k ∧ allB (s.data.toList.take k) = true) (fun i => s.size - (intOf i).toNat)
  case atStart => exact ⟨0, Nat.zero_le _, rfl, allB_zero _⟩
  case round =>
    obtain ⟨k, hk, rfl, hall⟩ := hrel
    by_cases hlt : k < s.size
    · have H2 := Lib.hid (allB_succ hlt hall)
      clear hall
      by_cases ho : s[k].toNat < 33
      · have HF := Lib.hid (allB_bad hlt (okc_f (.inl ho)))
        go_wp2
        go_ret
        exact ⟨ret_bool (HB.out.trans HF.out).symm, rfl⟩
      by_cases ho2 : 126 < s[k].toNat
      · have HF := Lib.hid (allB_bad hlt (okc_f (.inr ho2)))
        go_wp2
        go_ret
        exact ⟨ret_bool (HB.out.trans HF.out).symm, rfl⟩
      have HF := Lib.hid (okc_t (c := s[k]) (by omega) (by omega))
      go_wp2
      go_round
      case rel => exact ⟨k + 1, by omega, by go_num, H2.out.trans HF.out⟩
      case measure => simp [intOf]; omega
    · have HF := Lib.hid (allB_end hk hlt hall)
      clear hall
      go_wp2
      go_ret
      exact ⟨ret_bool (HB.out.trans HF.out).symm, rfl⟩

set_option maxHeartbeats 400000 in
theorem end13 (s : ByteArray) (w : World) :
    Calls Try.prog 13 #[.string s] w fun e w' => e = .returned (.bool (endB s)) ∧ w = w' := by
  cases h : s.toList.isEmpty
  · have H := Lib.hid (show endB s = wordB s by simp only [endB, h]; rfl)
    go_enter Try.func13, Try.ntmps13
    go_wp2_with (go_at_call 18; refine (word18 _ _).mono ?_; rintro e w' ⟨rfl, rfl⟩)
    go_ret
    exact ⟨ret_bool H.out.symm, rfl⟩
  · have H := Lib.hid (show endB s = true by simp only [endB, h]; rfl)
    go_enter Try.func13, Try.ntmps13
    go_wp2_with (go_at_call 18; refine (word18 _ _).mono ?_; rintro e w' ⟨rfl, rfl⟩)
    go_ret
    exact ⟨ret_bool H.out.symm, rfl⟩

set_option maxHeartbeats 400000 in
theorem word16 (s : ByteArray) (w : World) :
    Calls Try.prog 16 #[.string s] w fun e w' => e = .returned (.bool (endB s)) ∧ w = w' := by
  cases h : s.toList.isEmpty
  · have H := Lib.hid (show endB s = wordB s by simp only [endB, h]; rfl)
    go_enter Try.func16, Try.ntmps16
    go_wp2_with (go_at_call 20; refine (word20 _ _).mono ?_; rintro e w' ⟨rfl, rfl⟩)
    go_ret
    exact ⟨ret_bool H.out.symm, rfl⟩
  · have H := Lib.hid (show endB s = true by simp only [endB, h]; rfl)
    go_enter Try.func16, Try.ntmps16
    go_wp2_with (go_at_call 20; refine (word20 _ _).mono ?_; rintro e w' ⟨rfl, rfl⟩)
    go_ret
    exact ⟨ret_bool H.out.symm, rfl⟩
end Go.Proofs.Ytcniiphmepgfeaa
