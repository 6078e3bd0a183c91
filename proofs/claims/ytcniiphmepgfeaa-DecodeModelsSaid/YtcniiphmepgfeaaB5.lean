import Derived.Test.YtcniiphmepgfeaaB4
namespace Go.Proofs.Ytcniiphmepgfeaa
open Go.RowKit

def HugeR (m : Mdl) (w : World) (e : Ending) (w' : World) : Prop := ∃ b, e = .returned (.bool b) ∧ (b = false → m.words.length ≤ 600 ∧ m.pairs.length ≤ 120) ∧ Below w.heap.size w w'

set_option maxRecDepth 100000 in
set_option maxHeartbeats 1000000 in
theorem huge4 (m : Mdl) (w : World) (A C : Option Addr) (cA cC : Nat) (hA : UniAt w w.heap.size A m.words) (hC : BiAt w w.heap.size C m.pairs) (hlA : m.words.length ≤ 9223372036854775807) (hlC : m.pairs.length ≤ 9223372036854775807) :
    Calls Try.prog 4 #[.agg #[.int .i64 m.unknown, .slice A m.words.length cA, .slice C m.pairs.length cC]] w (HugeR m w) := by
  have hb0 : Below w.heap.size w (w.alloc (boxM m A C cA cC)) := (Below.refl _ _).alloc (Nat.le_refl _) _
  by_cases g1 : 60 < m.words.length ∧ m.words.length ≤ 512
  · obtain ⟨g1, g2⟩ := g1
    have HF : Hid (HugeR m w (.returned (.bool true)) (w.alloc (boxM m A C cA cC))) := ⟨_, rfl, by simp, hb0⟩
    go_enter Try.func4, Try.ntmps4
    go_wp2
    go_ret
    exact HF.out
  by_cases g2 : 600 < m.words.length
  · have g3 : 512 < m.words.length := by omega
    have HF : Hid (HugeR m w (.returned (.bool true)) (w.alloc (boxM m A C cA cC))) := ⟨_, rfl, by simp, hb0⟩
    go_enter Try.func4, Try.ntmps4
    go_wp2
    go_ret
    exact HF.out
  by_cases g3 : 120 < m.pairs.length
  · have HF : Hid (HugeR m w (.returned (.bool true)) (w.alloc (boxM m A C cA cC))) := ⟨_, rfl, by simp, hb0⟩
    by_cases g4 : 60 < m.words.length
    · have g5 : 512 < m.words.length := by omega
      clear g1
      go_enter Try.func4, Try.ntmps4
      go_wp2
      go_ret
      exact HF.out
    · clear g1
      go_enter Try.func4, Try.ntmps4
      go_wp2
      go_ret
      exact HF.out
  have HF : Hid (∀ b w', Below w.heap.size w w' → HugeR m w (.returned (.bool b)) w') := fun b w' hb => ⟨_, rfl, fun _ => ⟨by omega, by omega⟩, hb⟩
  by_cases g4 : 60 < m.words.length
  · have g5 : 512 < m.words.length := by omega
    clear g1
    go_enter Try.func4, Try.ntmps4
    go_wp2
    go_loopw [3, 4] (fun s i wr => ∃ (k : Nat) (z : Int), k ≤ m.words.length ∧ i = .int .i64 k ∧ s = .int .i64 z ∧ wr = w.alloc (boxM m A C cA cC)) (fun _ i _ => m.words.length - (intOf i).toNat)
    case atStart => exact ⟨0, 0, by omega, rfl, rfl, rfl⟩
    case round =>
      obtain ⟨k, z, hk, rfl, rfl, rfl⟩ := hrel
      have hbox : Blk (w.alloc (boxM m A C cA cC)) w.heap.size 25 #[.int .i64 m.unknown, .slice A m.words.length cA, .slice C m.pairs.length cC] := Blk.new _ _ _
      have hx1 := hbox.cell 1
      have hx2 := hbox.cell 2
      simp at hx1 hx2
      have hA' := hA.below hb0 (Nat.le_refl _)
      have hC' := hC.below hb0 (Nat.le_refl _)
      generalize w.alloc (boxM m A C cA cC) = wo at *
      by_cases hlt : k < m.words.length
      · obtain ⟨ad, rfl, hab, c0, c1, c2⟩ := hA'.at_ k hlt
        generalize m.words[k] = x at *
        go_wp2
        go_roundw
        case rel => exact ⟨k + 1, _, by omega, by go_num, rfl, trivial⟩
        case measure => simp [intOf]; omega
      · go_wp2
        go_loopw [3, 5] (fun s i wr => ∃ (k : Nat) (z : Int) (n : Nat), k ≤ m.pairs.length ∧ i = .int .i64 k ∧ s = .int .i64 z ∧ wr = wo.drewN n) (fun _ i _ => m.pairs.length - (intOf i).toNat)
        case atStart => exact ⟨0, z, 0, by omega, rfl, rfl, rfl⟩
        case round =>
          obtain ⟨n, z2, d, hn, rfl, rfl, rfl⟩ := hrel
          by_cases hlt2 : n < m.pairs.length
          · obtain ⟨ad, rfl, hab, c0, c1, c2⟩ := hC'.at_ n hlt2
            generalize m.pairs[n] = x at *
            go_wp2
            go_quiet (fail)
            go_wp2
            go_roundw
            case rel => exact ⟨n + 1, _, _, by omega, by go_num, rfl, rfl⟩
            case measure => simp [intOf]; omega
          · have hbd := Lib.hid (below_drewN hb0 d)
            go_wp2
            go_ret
            exact HF.out _ _ hbd.out
  · clear g1
    go_enter Try.func4, Try.ntmps4
    go_wp2
    go_loopw [3, 4] (fun s i wr => ∃ (k : Nat) (z : Int), k ≤ m.words.length ∧ i = .int .i64 k ∧ s = .int .i64 z ∧ wr = w.alloc (boxM m A C cA cC)) (fun _ i _ => m.words.length - (intOf i).toNat)
    case atStart => exact ⟨0, 0, by omega, rfl, rfl, rfl⟩
    case round =>
      obtain ⟨k, z, hk, rfl, rfl, rfl⟩ := hrel
      have hbox : Blk (w.alloc (boxM m A C cA cC)) w.heap.size 25 #[.int .i64 m.unknown, .slice A m.words.length cA, .slice C m.pairs.length cC] := Blk.new _ _ _
      have hx1 := hbox.cell 1
      have hx2 := hbox.cell 2
      simp at hx1 hx2
      have hA' := hA.below hb0 (Nat.le_refl _)
      have hC' := hC.below hb0 (Nat.le_refl _)
      generalize w.alloc (boxM m A C cA cC) = wo at *
      by_cases hlt : k < m.words.length
      · obtain ⟨ad, rfl, hab, c0, c1, c2⟩ := hA'.at_ k hlt
        generalize m.words[k] = x at *
        go_wp2
        go_roundw
        case rel => exact ⟨k + 1, _, by omega, by go_num, rfl, trivial⟩
        case measure => simp [intOf]; omega
      · go_wp2
        go_loopw [3, 5] (fun s i wr => ∃ (k : Nat) (z : Int) (n : Nat), k ≤ m.pairs.length ∧ i = .int .i64 k ∧ s = .int .i64 z ∧ wr = wo.drewN n) (fun _ i _ => m.pairs.length - (intOf i).toNat)
        case atStart => exact ⟨0, z, 0, by omega, rfl, rfl, rfl⟩
        case round =>
          obtain ⟨n, z2, d, hn, rfl, rfl, rfl⟩ := hrel
          by_cases hlt2 : n < m.pairs.length
          · obtain ⟨ad, rfl, hab, c0, c1, c2⟩ := hC'.at_ n hlt2
            generalize m.pairs[n] = x at *
            go_wp2
            go_quiet (fail)
            go_wp2
            go_roundw
            case rel => exact ⟨n + 1, _, _, by omega, by go_num, rfl, rfl⟩
            case measure => simp [intOf]; omega
          · have hbd := Lib.hid (below_drewN hb0 d)
            go_wp2
            go_ret
            exact HF.out _ _ hbd.out
end Go.Proofs.Ytcniiphmepgfeaa
