import Derived.Test.YtcniiphmepgfeaaB1
namespace Go.Proofs.Ytcniiphmepgfeaa
open Go.RowKit

theorem no_match_succ {m : Mdl} {a b : ByteArray} {k : Nat} (hz : ∀ j, j < k → ∀ (hj : j < m.pairs.length), ¬ (m.pairs[j].first = a ∧ m.pairs[j].second = b)) (hk : k < m.pairs.length)
    (h : ¬ (m.pairs[k].first = a ∧ m.pairs[k].second = b)) : ∀ j, j < k + 1 → ∀ (hj : j < m.pairs.length), ¬ (m.pairs[j].first = a ∧ m.pairs[j].second = b) := fun j hj hjl => by
  by_cases e : j < k
  · exact hz j e hjl
  · obtain rfl : j = k := by omega
    exact h

set_option maxRecDepth 100000 in
set_option maxHeartbeats 1000000 in
theorem step17 (m : Mdl) (hV : Valid m) (a b : ByteArray) (w : World) (A C : Option Addr) (cA cC : Nat) (hA : UniAt w w.heap.size A m.words) (hC : BiAt w w.heap.size C m.pairs) :
    Calls Try.prog 17 #[.agg #[.int .i64 m.unknown, .slice A m.words.length cA, .slice C m.pairs.length cC], .string a, .string b] w fun e w' =>
      e = .returned (.int .i64 (stepM m a b)) ∧ Below w.heap.size w w' := by
  have hlA := hV.lw
  have hlC := hV.lp
  go_enter Try.func17, Try.ntmps17
  go_wp2
  go_loopw [7] (fun i wr => ∃ k : Nat, k ≤ m.pairs.length ∧ i = .int .i64 k ∧ (∀ j, j < k → ∀ (hj : j < m.pairs.length), ¬ (m.pairs[j].first = a ∧ m.pairs[j].second = b)) ∧ wr = w.alloc (boxM m A C cA cC)) (fun i _ => m.pairs.length - (intOf i).toNat)
  case atStart => exact ⟨0, by omega, rfl, by simp, rfl⟩
  case round =>
    obtain ⟨k, hk, rfl, hz, rfl⟩ := hrel
    have HZ := Lib.hid hz
    clear hz
    have hbel : Below w.heap.size w (w.alloc (boxM m A C cA cC)) := (Below.refl _ _).alloc (Nat.le_refl _) _
    have hbox : Blk (w.alloc (boxM m A C cA cC)) w.heap.size 25 #[.int .i64 m.unknown, .slice A m.words.length cA, .slice C m.pairs.length cC] := Blk.new _ _ _
    have hx0 := hbox.cell 0
    have hx1 := hbox.cell 1
    have hx2 := hbox.cell 2
    simp at hx0 hx1 hx2
    have hA' := hA.below hbel (Nat.le_refl _)
    have hC' := hC.below hbel (Nat.le_refl _)
    generalize w.alloc (boxM m A C cA cC) = wo at *
    by_cases hlt : k < m.pairs.length
    · obtain ⟨ad, rfl, hab, c0, c1, c2⟩ := hC'.at_ k hlt
      have hns := no_match_succ HZ.out hlt
      have hst := fun e1 e2 => stepM_pair (a := a) (b := b) hV hlt e1 e2
      generalize m.pairs[k] = x at *
      have HN := Lib.hid hns
      have HS := Lib.hid hst
      clear hns hst
      cases q1 : (x.first.toList == a.toList)
      · have H1 := Lib.hid (HN.out (fun h => eqS_false.1 q1 h.1))
        go_wp2
        go_roundw
        case rel => exact ⟨k + 1, by omega, by go_num, H1.out, trivial⟩
        case measure => simp [intOf]; omega
      · cases q2 : (x.second.toList == b.toList)
        · have H1 := Lib.hid (HN.out (fun h => eqS_false.1 q2 h.2))
          go_wp2
          go_roundw
          case rel => exact ⟨k + 1, by omega, by go_num, H1.out, trivial⟩
          case measure => simp [intOf]; omega
        · have H1 := Lib.hid (HS.out (eqS_iff.1 q1) (eqS_iff.1 q2))
          go_wp2
          go_ret
          exact ⟨ret_int H1.out.symm, hbel⟩
    · have hn := stepM_none (a := a) (b := b) (fun i hi => HZ.out i (by omega) hi)
      have HN := Lib.hid hn
      clear hn
      go_wp2
      go_quiet (fail)
      go_wp2
      go_loopw [8, 9, 10] (fun bk on i wr => ∃ k : Nat, k ≤ m.words.length ∧ i = .int .i64 k ∧ bk = .int .i64 (backT m a k) ∧ on = .int .i64 (oneT m b k) ∧ wr = wo.drewN nq) (fun _ _ i _ => m.words.length - (intOf i).toNat)
      case atStart => exact ⟨0, by omega, rfl, by simp [backT], by simp [oneT], rfl⟩
      case round =>
        obtain ⟨n, hn, rfl, rfl, rfl, rfl⟩ := hrel
        have hbel2 : Below w.heap.size w (wo.drewN nq) := below_drewN hbel _
        have hy1 : (wo.drewN nq).cell? ⟨w.heap.size, 1, none⟩ = some (.slice A m.words.length cA) := hx1
        have hA2 : UniAt (wo.drewN nq) w.heap.size A m.words := ⟨hA'.at_⟩
        clear hx0 hx1 hx2 hA' hC' hA hC hbox
        generalize wo.drewN nq = wd at *
        by_cases hlt2 : n < m.words.length
        · obtain ⟨ad, rfl, hab, c0, c1, c2⟩ := hA2.at_ n hlt2
          have h1 := fun e => backT_hit (a := a) hV hlt2 e
          have h2 := fun e => backT_miss (a := a) hlt2 e
          have h3 := fun e => oneT_hit (a := b) hV hlt2 e
          have h4 := fun e => oneT_miss (a := b) hlt2 e
          generalize m.words[n] = x at *
          have H1 := Lib.hid h1
          have H2 := Lib.hid h2
          have H3 := Lib.hid h3
          have H4 := Lib.hid h4
          clear h1 h2 h3 h4
          cases q1 : (x.word.toList == a.toList)
          · have G1 := Lib.hid (H2.out (eqS_false.1 q1))
            cases q2 : (x.word.toList == b.toList)
            · have G2 := Lib.hid (H4.out (eqS_false.1 q2))
              go_wp2
              go_roundw
              case rel => exact ⟨n + 1, by omega, by go_num, by rw [G1.out], by rw [G2.out], trivial⟩
              case measure => simp [intOf]; omega
            · have G2 := Lib.hid (H3.out (eqS_iff.1 q2))
              go_wp2
              go_roundw
              case rel => exact ⟨n + 1, by omega, by go_num, by rw [G1.out], by rw [G2.out], trivial⟩
              case measure => simp [intOf]; omega
          · have G1 := Lib.hid (H1.out (eqS_iff.1 q1))
            cases q2 : (x.word.toList == b.toList)
            · have G2 := Lib.hid (H4.out (eqS_false.1 q2))
              go_wp2
              go_roundw
              case rel => exact ⟨n + 1, by omega, by go_num, by rw [G1.out], by rw [G2.out], trivial⟩
              case measure => simp [intOf]; omega
            · have G2 := Lib.hid (H3.out (eqS_iff.1 q2))
              go_wp2
              go_roundw
              case rel => exact ⟨n + 1, by omega, by go_num, by rw [G1.out], by rw [G2.out], trivial⟩
              case measure => simp [intOf]; omega
        · obtain rfl : n = m.words.length := by omega
          have bb := backM_bd hV a
          have ob := oneM_bd hV b
          have e1 := backT_all m a
          have e2 := oneT_all m b
          generalize backT m a m.words.length = x1 at *
          generalize oneT m b m.words.length = x2 at *
          subst e1
          subst e2
          go_wp2
          go_ret
          exact ⟨ret_int HN.out.symm, hbel2⟩
end Go.Proofs.Ytcniiphmepgfeaa
