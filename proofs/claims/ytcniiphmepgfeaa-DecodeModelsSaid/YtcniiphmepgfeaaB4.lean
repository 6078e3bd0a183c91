import Derived.Test.YtcniiphmepgfeaaB3
import Derived.Test.YtcniiphmepgfeaaA4
namespace Go.Proofs.Ytcniiphmepgfeaa
open Go.RowKit

theorem ret_pair {r : Int × Int} {x y : Int} (h : r = (x, y)) : Ending.returned (.tuple #[.int .i64 x, .int .u8 y]) = .returned (.tuple #[.int .i64 r.1, .int .u8 r.2]) := by rw [h]

def stepR (m : Mdl) (a b : ByteArray) : Int × Int := if chk m = 0 then (if endB a && endB b then (stepM m a b, 0) else (0, 1)) else (0, chk m)
def scoreR (m : Mdl) (l : List ByteArray) : Int × Int := if chk m = 0 then (if l.length ≤ 4096 then (if l.all wordB then (totalM m l, 0) else (0, 1)) else (0, 3)) else (0, chk m)
theorem stepR_bad {m : Mdl} (a b : ByteArray) (h : chk m ≠ 0) : stepR m a b = (0, chk m) := by simp [stepR, h]
theorem stepR_end {m : Mdl} {a b : ByteArray} (h : chk m = 0) (h' : (endB a && endB b) = false) : stepR m a b = (0, 1) := by simp only [stepR, h, h']; rfl
theorem stepR_ok {m : Mdl} {a b : ByteArray} (h : chk m = 0) (h' : (endB a && endB b) = true) : stepR m a b = (stepM m a b, 0) := by simp only [stepR, h, h']; rfl
theorem scoreR_bad {m : Mdl} (l : List ByteArray) (h : chk m ≠ 0) : scoreR m l = (0, chk m) := by simp [scoreR, h]
theorem scoreR_long {m : Mdl} {l : List ByteArray} (h : chk m = 0) (h' : ¬ l.length ≤ 4096) : scoreR m l = (0, 3) := by simp [scoreR, h, h']
theorem scoreR_word {m : Mdl} {l : List ByteArray} (h : chk m = 0) (h' : l.length ≤ 4096) {k : Nat} (hk : k < l.length) (hw : wordB l[k] = false) : scoreR m l = (0, 1) := by
  have : l.all wordB = false := by rw [List.all_eq_false]; exact ⟨_, List.getElem_mem hk, by simp [hw]⟩
  simp [scoreR, h, h', this]
theorem scoreR_ok {m : Mdl} {l : List ByteArray} (h : chk m = 0) (h' : l.length ≤ 4096) (hw : ∀ k (hk : k < l.length), wordB l[k] = true) : scoreR m l = (totalM m l, 0) := by
  have : l.all wordB = true := by
    rw [List.all_eq_true]
    intro x hx
    obtain ⟨i, hi, rfl⟩ := List.mem_iff_getElem.1 hx
    exact hw i hi
  simp only [scoreR, h, h', this]; rfl

set_option maxRecDepth 100000 in
set_option maxHeartbeats 1000000 in
theorem Step6 (m : Mdl) (a b : ByteArray) (w : World) (A C : Option Addr) (cA cC : Nat) (hA : UniAt w w.heap.size A m.words) (hC : BiAt w w.heap.size C m.pairs) (hlA : m.words.length ≤ 100000) (hlC : m.pairs.length ≤ 100000) :
    Calls Try.prog 6 #[.agg #[.int .i64 m.unknown, .slice A m.words.length cA, .slice C m.pairs.length cC], .string a, .string b] w fun e w' =>
      e = .returned (.tuple #[.int .i64 (stepR m a b).1, .int .u8 (stepR m a b).2]) ∧ Below w.heap.size w w' := by
  have hb0 : Below w.heap.size w (w.alloc (boxM m A C cA cC)) := (Below.refl _ _).alloc (Nat.le_refl _) _
  have hA0 := (hA.below hb0 (Nat.le_refl _)).more (B' := (w.alloc (boxM m A C cA cC)).heap.size) (by simp)
  have hC0 := (hC.below hb0 (Nat.le_refl _)).more (B' := (w.alloc (boxM m A C cA cC)).heap.size) (by simp)
  have HC := Lib.hid (check10 m _ _ _ cA cC hA0 hC0 hlA hlC)
  have Hb0 := Lib.hid hb0
  clear hb0
  by_cases hc : chk m = 0
  · have hV := valid_of_chk hc
    have HV := Lib.hid hc
    cases ha : endB a
    · have HR := Lib.hid (stepR_end (a := a) (b := b) hc (by simp [ha]))
      go_enter Try.func6, Try.ntmps6
      go_wp2_with fail
      refine HC.out.mono ?_
      rintro e w1 ⟨rfl, hb1⟩
      have hb2 := Lib.hid (Hb0.out.trans (hb1.mono (by simp)))
      clear hb1
      go_wp2_with (go_at_call 13; refine (end13 _ _).mono ?_; rintro e w' ⟨rfl, rfl⟩)
      go_ret2
      exact ⟨ret_pair HR.out, hb2.out⟩
    cases hb : endB b
    · have HR := Lib.hid (stepR_end (a := a) (b := b) hc (by simp [hb]))
      go_enter Try.func6, Try.ntmps6
      go_wp2_with fail
      refine HC.out.mono ?_
      rintro e w1 ⟨rfl, hb1⟩
      have hb2 := Lib.hid (Hb0.out.trans (hb1.mono (by simp)))
      clear hb1
      go_wp2_with (go_at_call 13; refine (end13 _ _).mono ?_; rintro e w' ⟨rfl, rfl⟩)
      go_ret2
      exact ⟨ret_pair HR.out, hb2.out⟩
    have HR := Lib.hid (stepR_ok (a := a) (b := b) hc (by simp [ha, hb]))
    have hsa := endB_size ha
    have hsb := endB_size hb
    clear hc
    go_enter Try.func6, Try.ntmps6
    go_wp2_with fail
    refine HC.out.mono ?_
    rw [HV.out]
    rintro e w1 ⟨rfl, hb1⟩
    have hb2 := Hb0.out.trans (hb1.mono (show w.heap.size ≤ _ by simp))
    have hbox : Blk w1 w.heap.size 25 #[.int .i64 m.unknown, .slice A m.words.length cA, .slice C m.pairs.length cC] := (Blk.new _ _ _).below hb1 (by simp)
    have hx0 := hbox.cell 0
    have hx1 := hbox.cell 1
    have hx2 := hbox.cell 2
    simp at hx0 hx1 hx2
    have hA1 := (hA.below hb2 (Nat.le_refl _)).more (B' := w1.heap.size) hb2.size
    have hC1 := (hC.below hb2 (Nat.le_refl _)).more (B' := w1.heap.size) hb2.size
    have HS := Lib.hid (scores14 m w1 A C cA cC hA1 hC1 hlA hlC (fun x hx => (hV.words x hx).1) (fun x hx => ⟨(hV.pairs x hx).1, (hV.pairs x hx).2.1⟩)
      (fun k h x hx => by
        obtain ⟨i, hi, rfl⟩ := List.mem_iff_getElem.1 hx
        have hik : i < k ∧ i < m.words.length := by simpa [Nat.lt_min] using hi
        simp only [List.getElem_take]
        exact hV.wu i k hik.2 h hik.1)
      (fun k h x hx => by
        obtain ⟨i, hi, rfl⟩ := List.mem_iff_getElem.1 hx
        have hik : i < k ∧ i < m.pairs.length := by simpa [Nat.lt_min] using hi
        simp only [List.getElem_take]
        exact hV.pu i k hik.2 h hik.1))
    have Hb2 := Lib.hid hb2
    clear hb1 hb2 hbox
    go_wp2_with (go_at_call 13; refine (end13 _ _).mono ?_; rintro e w' ⟨rfl, rfl⟩)
    refine HS.out.mono ?_
    rintro e w2 ⟨bw, bp, rfl, hmw, hmp, hb3⟩
    have Hb3 := Lib.hid (Hb2.out.trans (hb3.mono Hb2.out.size))
    have HSt := Lib.hid (step15 m hV a b bw bp w2 (by unfold maxLen; omega) (by unfold maxLen; omega) hmw hmp)
    clear hb3 hmw hmp hx0 hx1 hx2 hA1 hC1
    go_wp2_with fail
    refine HSt.out.mono ?_
    rintro e w3 ⟨rfl, hb4⟩
    have Hb4 := Lib.hid (Hb3.out.trans (hb4.mono Hb3.out.size))
    clear hb4
    go_wp2
    go_ret2
    exact ⟨ret_pair HR.out, Hb4.out⟩
  · have HR := Lib.hid (stepR_bad a b hc)
    have hne : (chk m == 0) = false := by simpa using hc
    have hne2 : (chk m != 0) = true := by simpa using hc
    go_enter Try.func6, Try.ntmps6
    go_wp2_with fail
    refine HC.out.mono ?_
    rintro e w1 ⟨rfl, hb1⟩
    have hb2 := Lib.hid (Hb0.out.trans (hb1.mono (by simp)))
    clear hb1
    go_wp2
    go_ret2
    exact ⟨ret_pair HR.out, hb2.out⟩
set_option maxRecDepth 100000 in
set_option maxHeartbeats 1000000 in
theorem Step7 (m : Mdl) (a b : ByteArray) (w : World) (A C : Option Addr) (cA cC : Nat) (hA : UniAt w w.heap.size A m.words) (hC : BiAt w w.heap.size C m.pairs) (hlA : m.words.length ≤ 100000) (hlC : m.pairs.length ≤ 100000) :
    Calls Try.prog 7 #[.agg #[.int .i64 m.unknown, .slice A m.words.length cA, .slice C m.pairs.length cC], .string a, .string b] w fun e w' =>
      e = .returned (.tuple #[.int .i64 (stepR m a b).1, .int .u8 (stepR m a b).2]) ∧ Below w.heap.size w w' := by
  have hb0 : Below w.heap.size w (w.alloc (boxM m A C cA cC)) := (Below.refl _ _).alloc (Nat.le_refl _) _
  have hA0 := (hA.below hb0 (Nat.le_refl _)).more (B' := (w.alloc (boxM m A C cA cC)).heap.size) (by simp)
  have hC0 := (hC.below hb0 (Nat.le_refl _)).more (B' := (w.alloc (boxM m A C cA cC)).heap.size) (by simp)
  have HC := Lib.hid (check11 m _ _ _ cA cC hA0 hC0 hlA hlC)
  have Hb0 := Lib.hid hb0
  clear hb0
  by_cases hc : chk m = 0
  · have hV := valid_of_chk hc
    have HV := Lib.hid hc
    cases ha : endB a
    · have HR := Lib.hid (stepR_end (a := a) (b := b) hc (by simp [ha]))
      go_enter Try.func7, Try.ntmps7
      go_wp2_with fail
      refine HC.out.mono ?_
      rintro e w1 ⟨rfl, hb1⟩
      have hb2 := Lib.hid (Hb0.out.trans (hb1.mono (by simp)))
      clear hb1
      go_wp2_with (go_at_call 16; refine (word16 _ _).mono ?_; rintro e w' ⟨rfl, rfl⟩)
      go_ret2
      exact ⟨ret_pair HR.out, hb2.out⟩
    cases hb : endB b
    · have HR := Lib.hid (stepR_end (a := a) (b := b) hc (by simp [hb]))
      go_enter Try.func7, Try.ntmps7
      go_wp2_with fail
      refine HC.out.mono ?_
      rintro e w1 ⟨rfl, hb1⟩
      have hb2 := Lib.hid (Hb0.out.trans (hb1.mono (by simp)))
      clear hb1
      go_wp2_with (go_at_call 16; refine (word16 _ _).mono ?_; rintro e w' ⟨rfl, rfl⟩)
      go_ret2
      exact ⟨ret_pair HR.out, hb2.out⟩
    have HR := Lib.hid (stepR_ok (a := a) (b := b) hc (by simp [ha, hb]))
    have hsa := endB_size ha
    have hsb := endB_size hb
    clear hc
    go_enter Try.func7, Try.ntmps7
    go_wp2_with fail
    refine HC.out.mono ?_
    rw [HV.out]
    rintro e w1 ⟨rfl, hb1⟩
    have hb2 := Hb0.out.trans (hb1.mono (show w.heap.size ≤ _ by simp))
    have hbox : Blk w1 w.heap.size 25 #[.int .i64 m.unknown, .slice A m.words.length cA, .slice C m.pairs.length cC] := (Blk.new _ _ _).below hb1 (by simp)
    have hx0 := hbox.cell 0
    have hx1 := hbox.cell 1
    have hx2 := hbox.cell 2
    simp at hx0 hx1 hx2
    have hA1 := (hA.below hb2 (Nat.le_refl _)).more (B' := w1.heap.size) hb2.size
    have hC1 := (hC.below hb2 (Nat.le_refl _)).more (B' := w1.heap.size) hb2.size
    have HS := Lib.hid (step17 m hV a b w1 A C cA cC hA1 hC1)
    have Hb2 := Lib.hid hb2
    clear hb1 hb2 hbox
    go_wp2_with (go_at_call 16; refine (word16 _ _).mono ?_; rintro e w' ⟨rfl, rfl⟩)
    refine HS.out.mono ?_
    rintro e w2 ⟨rfl, hb3⟩
    have Hb3 := Lib.hid (Hb2.out.trans (hb3.mono Hb2.out.size))
    clear hb3 hx0 hx1 hx2 hA1 hC1
    go_wp2
    go_ret2
    exact ⟨ret_pair HR.out, Hb3.out⟩
  · have HR := Lib.hid (stepR_bad a b hc)
    have hne : (chk m == 0) = false := by simpa using hc
    have hne2 : (chk m != 0) = true := by simpa using hc
    go_enter Try.func7, Try.ntmps7
    go_wp2_with fail
    refine HC.out.mono ?_
    rintro e w1 ⟨rfl, hb1⟩
    have hb2 := Lib.hid (Hb0.out.trans (hb1.mono (by simp)))
    clear hb1
    go_wp2
    go_ret2
    exact ⟨ret_pair HR.out, hb2.out⟩
theorem wordB_size {s : ByteArray} (h : wordB s = true) : s.size ≤ 24 := by
  unfold wordB at h
  simp only [Bool.and_eq_true, decide_eq_true_eq] at h
  exact h.1.2

set_option maxRecDepth 100000 in
set_option maxHeartbeats 1000000 in
theorem Score8 (m : Mdl) (l : List ByteArray) (w : World) (A C : Option Addr) (cA cC : Nat) (hA : UniAt w w.heap.size A m.words) (hC : BiAt w w.heap.size C m.pairs) (hlA : m.words.length ≤ 100000) (hlC : m.pairs.length ≤ 100000)
    (L : Option Addr) (cL : Nat) (hL : StrAt w w.heap.size L l) (hll : l.length ≤ 9223372036854775807) :
    Calls Try.prog 8 #[.agg #[.int .i64 m.unknown, .slice A m.words.length cA, .slice C m.pairs.length cC], .slice L l.length cL] w fun e w' =>
      e = .returned (.tuple #[.int .i64 (scoreR m l).1, .int .u8 (scoreR m l).2]) ∧ Below w.heap.size w w' := by
  have hb0 : Below w.heap.size w (w.alloc (boxM m A C cA cC)) := (Below.refl _ _).alloc (Nat.le_refl _) _
  have hA0 := (hA.below hb0 (Nat.le_refl _)).more (B' := (w.alloc (boxM m A C cA cC)).heap.size) (by simp)
  have hC0 := (hC.below hb0 (Nat.le_refl _)).more (B' := (w.alloc (boxM m A C cA cC)).heap.size) (by simp)
  have HC := Lib.hid (check10 m _ _ _ cA cC hA0 hC0 hlA hlC)
  have Hb0 := Lib.hid hb0
  clear hb0
  by_cases hc : chk m = 0
  · have hV := valid_of_chk hc
    have HV := Lib.hid hc
    by_cases hlen : l.length ≤ 4096
    · clear hc
      go_enter Try.func8, Try.ntmps8
      go_wp2_with fail
      refine HC.out.mono ?_
      rw [HV.out]
      rintro e w1 ⟨rfl, hb1⟩
      have hb2 := Hb0.out.trans (hb1.mono (show w.heap.size ≤ _ by simp))
      have hbox : Blk w1 w.heap.size 25 #[.int .i64 m.unknown, .slice A m.words.length cA, .slice C m.pairs.length cC] := (Blk.new _ _ _).below hb1 (by simp)
      have hx0 := hbox.cell 0
      have hx1 := hbox.cell 1
      have hx2 := hbox.cell 2
      simp at hx0 hx1 hx2
      have hA1 := (hA.below hb2 (Nat.le_refl _)).more (B' := w1.heap.size) hb2.size
      have hC1 := (hC.below hb2 (Nat.le_refl _)).more (B' := w1.heap.size) hb2.size
      have hL1 := (hL.below hb2 (Nat.le_refl _)).more (B' := w1.heap.size) hb2.size
      have Hb2 := Lib.hid hb2
      clear hb1 hb2 hbox
      go_wp2
      go_loop [19] (fun i => ∃ k : Nat, k ≤ l.length ∧ i = .int .i64 k ∧ (∀ j, j < k → ∀ (hj : j < l.length), wordB l[j] = true)) (fun i => l.length - (intOf i).toNat)
      case atStart => exact ⟨0, by omega, rfl, by simp⟩
      case round =>
        obtain ⟨k, hk, rfl, hz⟩ := hrel
        have HZ := Lib.hid hz
        clear hz
        by_cases hlt : k < l.length
        · obtain ⟨ad, rfl, hab, c0⟩ := hL1.at_ k hlt
          cases q : wordB l[k]
          · have HR := Lib.hid (scoreR_word HV.out hlen hlt q)
            generalize l[k] = x at *
            go_wp2_with (go_at_call 18; refine (word18 _ _).mono ?_; rintro e w' ⟨rfl, rfl⟩)
            go_ret2
            exact ⟨ret_pair HR.out, Hb2.out⟩
          · have H1 : Hid (∀ j, j < k + 1 → ∀ (hj : j < l.length), wordB l[j] = true) := fun j hj hjl => by
              by_cases e : j < k
              · exact HZ.out j e hjl
              · obtain rfl : j = k := by omega
                exact q
            generalize l[k] = x at *
            go_wp2_with (go_at_call 18; refine (word18 _ _).mono ?_; rintro e w' ⟨rfl, rfl⟩)
            go_round
            case rel => exact ⟨k + 1, by omega, by go_num, H1.out⟩
            case measure => simp [intOf]; omega
        · have HR := Lib.hid (scoreR_ok HV.out hlen (fun j hj => HZ.out j (by omega) hj))
          have HS := Lib.hid (scores14 m w1 A C cA cC hA1 hC1 hlA hlC (fun x hx => (hV.words x hx).1) (fun x hx => ⟨(hV.pairs x hx).1, (hV.pairs x hx).2.1⟩)
            (fun k h x hx => by
              obtain ⟨i, hi, rfl⟩ := List.mem_iff_getElem.1 hx
              have hik : i < k ∧ i < m.words.length := by simpa [Nat.lt_min] using hi
              simp only [List.getElem_take]
              exact hV.wu i k hik.2 h hik.1)
            (fun k h x hx => by
              obtain ⟨i, hi, rfl⟩ := List.mem_iff_getElem.1 hx
              have hik : i < k ∧ i < m.pairs.length := by simpa [Nat.lt_min] using hi
              simp only [List.getElem_take]
              exact hV.pu i k hik.2 h hik.1))
          have hls : ∀ x ∈ l, x.size ≤ maxLen := fun x hx => by
            obtain ⟨i, hi, rfl⟩ := List.mem_iff_getElem.1 hx
            have := wordB_size (HZ.out i (by omega) hi)
            unfold maxLen; omega
          have HL := Lib.hid hls
          clear hls
          go_wp2_with fail
          refine HS.out.mono ?_
          rintro e w2 ⟨bw, bp, rfl, hmw, hmp, hb3⟩
          have Hb3 := Lib.hid (Hb2.out.trans (hb3.mono Hb2.out.size))
          have HSt := Lib.hid (score19 m hV l bw bp w2 L cL ((hL1.below hb3 (Nat.le_refl _)).more hb3.size) hlen HL.out hmw hmp)
          clear hb3 hmw hmp hx0 hx1 hx2 hA1 hC1
          go_wp2_with fail
          refine HSt.out.mono ?_
          rintro e w3 ⟨rfl, hb4⟩
          have Hb4 := Lib.hid (Hb3.out.trans (hb4.mono Hb3.out.size))
          clear hb4
          go_wp2
          go_ret2
          exact ⟨ret_pair HR.out, Hb4.out⟩
    · have HR := Lib.hid (scoreR_long hc hlen)
      have hl2 : 4096 < l.length := by omega
      clear hc
      go_enter Try.func8, Try.ntmps8
      go_wp2_with fail
      refine HC.out.mono ?_
      rw [HV.out]
      rintro e w1 ⟨rfl, hb1⟩
      have hb2 := Lib.hid (Hb0.out.trans (hb1.mono (by simp)))
      clear hb1
      go_wp2
      go_ret2
      exact ⟨ret_pair HR.out, hb2.out⟩
  · have HR := Lib.hid (scoreR_bad l hc)
    have hne : (chk m == 0) = false := by simpa using hc
    have hne2 : (chk m != 0) = true := by simpa using hc
    go_enter Try.func8, Try.ntmps8
    go_wp2_with fail
    refine HC.out.mono ?_
    rintro e w1 ⟨rfl, hb1⟩
    have hb2 := Lib.hid (Hb0.out.trans (hb1.mono (by simp)))
    clear hb1
    go_wp2
    go_ret2
    exact ⟨ret_pair HR.out, hb2.out⟩

set_option maxRecDepth 100000 in
set_option maxHeartbeats 1000000 in
theorem Score9 (m : Mdl) (l : List ByteArray) (w : World) (A C : Option Addr) (cA cC : Nat) (hA : UniAt w w.heap.size A m.words) (hC : BiAt w w.heap.size C m.pairs) (hlA : m.words.length ≤ 100000) (hlC : m.pairs.length ≤ 100000)
    (L : Option Addr) (cL : Nat) (hL : StrAt w w.heap.size L l) (hll : l.length ≤ 9223372036854775807) :
    Calls Try.prog 9 #[.agg #[.int .i64 m.unknown, .slice A m.words.length cA, .slice C m.pairs.length cC], .slice L l.length cL] w fun e w' =>
      e = .returned (.tuple #[.int .i64 (scoreR m l).1, .int .u8 (scoreR m l).2]) ∧ Below w.heap.size w w' := by
  have hb0 : Below w.heap.size w (w.alloc (boxM m A C cA cC)) := (Below.refl _ _).alloc (Nat.le_refl _) _
  have hA0 := (hA.below hb0 (Nat.le_refl _)).more (B' := (w.alloc (boxM m A C cA cC)).heap.size) (by simp)
  have hC0 := (hC.below hb0 (Nat.le_refl _)).more (B' := (w.alloc (boxM m A C cA cC)).heap.size) (by simp)
  have HC := Lib.hid (check11 m _ _ _ cA cC hA0 hC0 hlA hlC)
  have Hb0 := Lib.hid hb0
  clear hb0
  by_cases hc : chk m = 0
  · have hV := valid_of_chk hc
    have HV := Lib.hid hc
    by_cases hlen : l.length ≤ 4096
    · clear hc
      go_enter Try.func9, Try.ntmps9
      go_wp2_with fail
      refine HC.out.mono ?_
      rw [HV.out]
      rintro e w1 ⟨rfl, hb1⟩
      have hb2 := Hb0.out.trans (hb1.mono (show w.heap.size ≤ _ by simp))
      have hbox : Blk w1 w.heap.size 25 #[.int .i64 m.unknown, .slice A m.words.length cA, .slice C m.pairs.length cC] := (Blk.new _ _ _).below hb1 (by simp)
      have hx0 := hbox.cell 0
      have hx1 := hbox.cell 1
      have hx2 := hbox.cell 2
      simp at hx0 hx1 hx2
      have hA1 := (hA.below hb2 (Nat.le_refl _)).more (B' := w1.heap.size) hb2.size
      have hC1 := (hC.below hb2 (Nat.le_refl _)).more (B' := w1.heap.size) hb2.size
      have hL1 := (hL.below hb2 (Nat.le_refl _)).more (B' := w1.heap.size) hb2.size
      have Hb2 := Lib.hid hb2
      clear hb1 hb2 hbox
      go_wp2
      go_loop [7] (fun i => ∃ k : Nat, k ≤ l.length ∧ i = .int .i64 k ∧ (∀ j, j < k → ∀ (hj : j < l.length), wordB l[j] = true)) (fun i => l.length - (intOf i).toNat)
      case atStart => exact ⟨0, by omega, rfl, by simp⟩
      case round =>
        obtain ⟨k, hk, rfl, hz⟩ := hrel
        have HZ := Lib.hid hz
        clear hz
        by_cases hlt : k < l.length
        · obtain ⟨ad, rfl, hab, c0⟩ := hL1.at_ k hlt
          cases q : wordB l[k]
          · have HR := Lib.hid (scoreR_word HV.out hlen hlt q)
            generalize l[k] = x at *
            go_wp2_with (go_at_call 20; refine (word20 _ _).mono ?_; rintro e w' ⟨rfl, rfl⟩)
            go_ret2
            exact ⟨ret_pair HR.out, Hb2.out⟩
          · have H1 : Hid (∀ j, j < k + 1 → ∀ (hj : j < l.length), wordB l[j] = true) := fun j hj hjl => by
              by_cases e : j < k
              · exact HZ.out j e hjl
              · obtain rfl : j = k := by omega
                exact q
            generalize l[k] = x at *
            go_wp2_with (go_at_call 20; refine (word20 _ _).mono ?_; rintro e w' ⟨rfl, rfl⟩)
            go_round
            case rel => exact ⟨k + 1, by omega, by go_num, H1.out⟩
            case measure => simp [intOf]; omega
        · have HR := Lib.hid (scoreR_ok HV.out hlen (fun j hj => HZ.out j (by omega) hj))
          have HS := Lib.hid (score21 m hV l w1 A C cA cC hA1 hC1 L cL hL1 hlen)
          go_wp2_with fail
          refine HS.out.mono ?_
          rintro e w2 ⟨rfl, hb3⟩
          have Hb3 := Lib.hid (Hb2.out.trans (hb3.mono Hb2.out.size))
          clear hb3 hx0 hx1 hx2 hA1 hC1
          go_wp2
          go_ret2
          exact ⟨ret_pair HR.out, Hb3.out⟩
    · have HR := Lib.hid (scoreR_long hc hlen)
      have hl2 : 4096 < l.length := by omega
      clear hc
      go_enter Try.func9, Try.ntmps9
      go_wp2_with fail
      refine HC.out.mono ?_
      rw [HV.out]
      rintro e w1 ⟨rfl, hb1⟩
      have hb2 := Lib.hid (Hb0.out.trans (hb1.mono (by simp)))
      clear hb1
      go_wp2
      go_ret2
      exact ⟨ret_pair HR.out, hb2.out⟩
  · have HR := Lib.hid (scoreR_bad l hc)
    have hne : (chk m == 0) = false := by simpa using hc
    have hne2 : (chk m != 0) = true := by simpa using hc
    go_enter Try.func9, Try.ntmps9
    go_wp2_with fail
    refine HC.out.mono ?_
    rintro e w1 ⟨rfl, hb1⟩
    have hb2 := Lib.hid (Hb0.out.trans (hb1.mono (by simp)))
    clear hb1
    go_wp2
    go_ret2
    exact ⟨ret_pair HR.out, hb2.out⟩

end Go.Proofs.Ytcniiphmepgfeaa
