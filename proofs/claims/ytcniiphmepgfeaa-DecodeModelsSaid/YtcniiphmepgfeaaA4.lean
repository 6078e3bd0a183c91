import Derived.Test.YtcniiphmepgfeaaA2
namespace Go.Proofs.Ytcniiphmepgfeaa
open Go.RowKit

set_option maxRecDepth 100000 in
set_option maxHeartbeats 1000000 in
theorem check11 (m : Mdl) (w : World) (A C : Option Addr) (cA cC : Nat) (hA : UniAt w w.heap.size A m.words) (hC : BiAt w w.heap.size C m.pairs) (hlA : m.words.length ≤ 100000) (hlC : m.pairs.length ≤ 100000) :
    Calls Try.prog 11 #[.agg #[.int .i64 m.unknown, .slice A m.words.length cA, .slice C m.pairs.length cC]] w fun e w' => e = .returned (.int .u8 (chk m)) ∧ Below w.heap.size w w' := by
  cases h0 : costB m.unknown
  · have H := Lib.hid (chk_unknown h0)
    go_enter Try.func11, Try.ntmps11
    go_wp2_with (go_at_call 25; refine (cost25 _ _).mono ?_; rintro e w' ⟨rfl, rfl⟩)
    go_ret
    exact ⟨ret_int H.out.symm, (Below.refl _ _).alloc (Nat.le_refl _) _⟩
  by_cases h1 : 512 < m.words.length
  · have H := Lib.hid (chk_limit h0 (.inl h1))
    go_enter Try.func11, Try.ntmps11
    go_wp2_with (go_at_call 25; refine (cost25 _ _).mono ?_; rintro e w' ⟨rfl, rfl⟩)
    go_ret
    exact ⟨ret_int H.out.symm, (Below.refl _ _).alloc (Nat.le_refl _) _⟩
  by_cases h2 : 2048 < m.pairs.length
  · have H := Lib.hid (chk_limit h0 (.inr h2))
    go_enter Try.func11, Try.ntmps11
    go_wp2_with (go_at_call 25; refine (cost25 _ _).mono ?_; rintro e w' ⟨rfl, rfl⟩)
    go_ret
    exact ⟨ret_int H.out.symm, (Below.refl _ _).alloc (Nat.le_refl _) _⟩
  go_enter Try.func11, Try.ntmps11
  go_wp2_with (go_at_call 25; refine (cost25 _ _).mono ?_; rintro e w' ⟨rfl, rfl⟩)
  go_loopw [3] (fun i wr => ∃ k : Nat, k ≤ m.words.length ∧ i = .int .i64 k ∧ (∀ j, j < k → wErr m.words j = 0) ∧ Below (w.heap.size + 1) (w.alloc (boxM m A C cA cC)) wr) (fun i _ => m.words.length - (intOf i).toNat)
  case atStart => exact ⟨0, by omega, rfl, by simp, Below.refl _ _⟩
  case round =>
    obtain ⟨k, hk, rfl, hz, hb⟩ := hrel
    have HZ := Lib.hid hz
    clear hz
    have hsz : w.heap.size + 1 ≤ wr.heap.size := by have := hb.size; simpa using this
    have hbox : ∀ j, wr.cell? ⟨w.heap.size, j, none⟩ = #[Value.int .i64 m.unknown, .slice A m.words.length cA, .slice C m.pairs.length cC][j]? := fun j => by
      rw [hb.cell (by simp)]; exact cell_new_box _ _ _ _
    have hA' := (hA.below ((Below.refl _ _).alloc (Nat.le_refl _) (boxM m A C cA cC)) (Nat.le_refl _)).below hb (by omega)
    have hx0 := hbox 0
    have hx1 := hbox 1
    have hx2 := hbox 2
    clear hbox
    simp at hx0 hx1 hx2
    have hy1 : ∀ o, (wr.alloc o).cell? ⟨w.heap.size, 1, none⟩ = some (.slice A m.words.length cA) := fun o => (World.cell?_alloc_lt wr o _ (by simp; omega)).trans hx1
    by_cases hlt : k < m.words.length
    · obtain ⟨ad, rfl, hab, c0, c1, c2⟩ := hA'.at_ k hlt
      have hxe : m.words[k]? = some m.words[k] := List.getElem?_eq_getElem hlt
      generalize m.words[k] = x at *
      have HX := Lib.hid hxe
      clear hxe
      cases he : endB x.word
      · have H := Lib.hid (chk_word h0 (by omega) hlt HZ.out (show wErr m.words k = 1 by simp [wErr, HX.out, badW, he]) (by omega))
        go_wp2_with (go_at_call 16; refine (word16 _ _).mono ?_; rintro e w' ⟨rfl, rfl⟩)
        go_ret
        exact ⟨ret_int H.out.symm, (((Below.refl _ _).alloc (Nat.le_refl _) _).trans (hb.mono (by omega))).alloc (by omega) _⟩
      cases hc : costB x.cost
      · have H := Lib.hid (chk_word h0 (by omega) hlt HZ.out (show wErr m.words k = 1 by simp [wErr, HX.out, badW, he, hc]) (by omega))
        go_wp2_with (first | (go_at_call 16; refine (word16 _ _).mono ?_; rintro e w' ⟨rfl, rfl⟩) | (go_at_call 25; refine (cost25 _ _).mono ?_; rintro e w' ⟨rfl, rfl⟩))
        go_ret
        exact ⟨ret_int H.out.symm, (((Below.refl _ _).alloc (Nat.le_refl _) _).trans (hb.mono (by omega))).alloc (by omega) _⟩
      cases hc2 : costB x.back
      · have H := Lib.hid (chk_word h0 (by omega) hlt HZ.out (show wErr m.words k = 1 by simp [wErr, HX.out, badW, he, hc, hc2]) (by omega))
        go_wp2_with (first | (go_at_call 16; refine (word16 _ _).mono ?_; rintro e w' ⟨rfl, rfl⟩) | (go_at_call 25; refine (cost25 _ _).mono ?_; rintro e w' ⟨rfl, rfl⟩))
        go_ret
        exact ⟨ret_int H.out.symm, (((Below.refl _ _).alloc (Nat.le_refl _) _).trans (hb.mono (by omega))).alloc (by omega) _⟩
      have hbad : badW x = false := by simp [badW, he, hc, hc2]
      have HB := Lib.hid hbad
      clear hbad
      rcases Nat.eq_zero_or_pos k with hk0 | hk0
      · have H : Hid (∀ j, j < k + 1 → wErr m.words j = 0) := fun j hj => by
          obtain rfl : j = k := by omega
          have hxx := HX.out
          rw [hk0] at hxx ⊢
          simp [wErr, hxx, HB.out]
        have hd : decide ((0 : Int) < k) = false := by simp; omega
        have hd2 : decide (0 < k) = false := by simp; omega
        have HK0 := Lib.hid hk0
        clear hk0
        go_wp2_with (first | (go_at_call 16; refine (word16 _ _).mono ?_; rintro e w' ⟨rfl, rfl⟩) | (go_at_call 25; refine (cost25 _ _).mono ?_; rintro e w' ⟨rfl, rfl⟩))
        go_quiet (fail)
        go_wp2
        go_quiet (fail)
        go_wp2
        go_roundw
        case rel => exact ⟨k + 1, by omega, by go_num, H.out, below_drewN (hb.alloc (by omega) _) _⟩
        case measure => simp [intOf]; omega
      · obtain ⟨j, rfl⟩ : ∃ j, k = j + 1 := ⟨k - 1, by omega⟩
        obtain ⟨ad', hade, _, d0, _, _⟩ := hA'.at_ j (by omega)
        obtain rfl : ad = ad' := by simpa using hade
        have d0' : ∀ o, (wr.alloc o).cell? (ad.add (j * 3)) = _ := fun o => (World.cell?_alloc_lt wr o _ (by rw [block_add]; omega)).trans d0
        have hye : m.words[j]? = some m.words[j] := List.getElem?_eq_getElem (by omega)
        generalize m.words[j] = y at *
        have HY := Lib.hid hye
        clear hye hade
        cases hq : (y.word.toList == x.word.toList)
        · cases hg : (Op.bytesLess y.word.toList x.word.toList)
          · have H := Lib.hid (chk_word h0 (by omega) hlt HZ.out (show wErr m.words (j + 1) = 1 by simp [wErr, HX.out, HY.out, HB.out, eqB, gtB, hq, hg]) (by omega))
            go_wp2_with (first | (go_at_call 16; refine (word16 _ _).mono ?_; rintro e w' ⟨rfl, rfl⟩) | (go_at_call 25; refine (cost25 _ _).mono ?_; rintro e w' ⟨rfl, rfl⟩))
            go_quiet (fail)
            go_wp2
            go_quiet (fail)
            go_wp2
            go_ret
            exact ⟨ret_int H.out.symm, below_drewN (below_drewN ((((Below.refl _ _).alloc (Nat.le_refl _) _).trans (hb.mono (by omega))).alloc (by omega) _) _) _⟩
          · have H : Hid (∀ i, i < j + 1 + 1 → wErr m.words i = 0) := fun i hi => by
              by_cases e : i < j + 1
              · exact HZ.out i e
              · obtain rfl : i = j + 1 := by omega
                simp [wErr, HX.out, HY.out, HB.out, eqB, gtB, hq, hg]
            go_wp2_with (first | (go_at_call 16; refine (word16 _ _).mono ?_; rintro e w' ⟨rfl, rfl⟩) | (go_at_call 25; refine (cost25 _ _).mono ?_; rintro e w' ⟨rfl, rfl⟩))
            go_quiet (fail)
            go_wp2
            go_quiet (fail)
            go_wp2
            go_roundw
            case rel => exact ⟨j + 1 + 1, by omega, by go_num, H.out, below_drewN (hb.alloc (by omega) _) _⟩
            case measure => simp [intOf]; omega
        · have H := Lib.hid (chk_word h0 (by omega) hlt HZ.out (show wErr m.words (j + 1) = 6 by simp [wErr, HX.out, HY.out, HB.out, eqB, hq]) (by omega))
          go_wp2_with (first | (go_at_call 16; refine (word16 _ _).mono ?_; rintro e w' ⟨rfl, rfl⟩) | (go_at_call 25; refine (cost25 _ _).mono ?_; rintro e w' ⟨rfl, rfl⟩))
          go_quiet (fail)
          go_wp2
          go_ret
          exact ⟨ret_int H.out.symm, below_drewN ((((Below.refl _ _).alloc (Nat.le_refl _) _).trans (hb.mono (by omega))).alloc (by omega) _) _⟩
    · have HW : Hid (∀ j, j < m.words.length → wErr m.words j = 0) := fun j hj => HZ.out j (by omega)
      clear HZ
      have hC0 := (hC.below ((Below.refl _ _).alloc (Nat.le_refl _) (boxM m A C cA cC)) (Nat.le_refl _)).below hb (by omega)
      obtain ⟨wo, rfl⟩ : ∃ wo : World, wo = wr := ⟨_, rfl⟩
      go_wp2
      clear hA' hy1 hx0 hx1
      go_loopw [5] (fun i wr => ∃ k : Nat, k ≤ m.pairs.length ∧ i = .int .i64 k ∧ (∀ j, j < k → pErr m.pairs j = 0) ∧ Below wo.heap.size wo wr) (fun i _ => m.pairs.length - (intOf i).toNat)
      case atStart => exact ⟨0, by omega, rfl, by simp, Below.refl _ _⟩
      case round =>
        obtain ⟨n, hn, rfl, hz, hb2⟩ := hrel
        have HZ := Lib.hid hz
        clear hz
        have hsz2 := hb2.size
        have hfin : Below w.heap.size w wr := ((Below.refl _ _).alloc (Nat.le_refl _) _).trans ((hb.mono (by omega)).trans (hb2.mono (by omega)))
        have hC' := hC0.below hb2 (by omega)
        have hx2' : wr.cell? ⟨w.heap.size, 2, none⟩ = some (.slice C m.pairs.length cC) := (hb2.cell (by simp; omega)).trans hx2
        have hy2 : ∀ o, (wr.alloc o).cell? ⟨w.heap.size, 2, none⟩ = some (.slice C m.pairs.length cC) := fun o => (World.cell?_alloc_lt wr o _ (by simp; omega)).trans hx2'
        clear hx2
        by_cases hlt2 : n < m.pairs.length
        · obtain ⟨ad, rfl, hab, c0, c1, c2⟩ := hC'.at_ n hlt2
          have hxe : m.pairs[n]? = some m.pairs[n] := List.getElem?_eq_getElem hlt2
          generalize m.pairs[n] = x at *
          have HX := Lib.hid hxe
          clear hxe
          cases he : endB x.first
          · have H := Lib.hid (chk_pair h0 (by omega) hlt2 HW.out HZ.out (show pErr m.pairs n = 1 by simp [pErr, HX.out, badP, he]) (by omega))
            go_wp2_with (first | (go_at_call 16; refine (word16 _ _).mono ?_; rintro e w' ⟨rfl, rfl⟩) | (go_at_call 25; refine (cost25 _ _).mono ?_; rintro e w' ⟨rfl, rfl⟩))
            go_ret
            exact ⟨ret_int H.out.symm, hfin.alloc (by omega) _⟩
          cases he2 : endB x.second
          · have H := Lib.hid (chk_pair h0 (by omega) hlt2 HW.out HZ.out (show pErr m.pairs n = 1 by simp [pErr, HX.out, badP, he, he2]) (by omega))
            go_wp2_with (first | (go_at_call 16; refine (word16 _ _).mono ?_; rintro e w' ⟨rfl, rfl⟩) | (go_at_call 25; refine (cost25 _ _).mono ?_; rintro e w' ⟨rfl, rfl⟩))
            go_ret
            exact ⟨ret_int H.out.symm, hfin.alloc (by omega) _⟩
          cases hc : costB x.cost
          · have H := Lib.hid (chk_pair h0 (by omega) hlt2 HW.out HZ.out (show pErr m.pairs n = 1 by simp [pErr, HX.out, badP, he, he2, hc]) (by omega))
            go_wp2_with (first | (go_at_call 16; refine (word16 _ _).mono ?_; rintro e w' ⟨rfl, rfl⟩) | (go_at_call 25; refine (cost25 _ _).mono ?_; rintro e w' ⟨rfl, rfl⟩))
            go_ret
            exact ⟨ret_int H.out.symm, hfin.alloc (by omega) _⟩
          have hbad : badP x = false := by simp [badP, he, he2, hc]
          have HB := Lib.hid hbad
          clear hbad
          rcases Nat.eq_zero_or_pos n with hk0 | hk0
          · have H : Hid (∀ j, j < n + 1 → pErr m.pairs j = 0) := fun j hj => by
              obtain rfl : j = n := by omega
              have hxx := HX.out
              rw [hk0] at hxx ⊢
              simp [pErr, hxx, HB.out]
            have hd : ((n : Int) == 0) = true := by simp; omega
            have hd2 : (n == 0) = true := by simp; omega
            have HK0 := Lib.hid hk0
            clear hk0
            go_wp2_with (first | (go_at_call 16; refine (word16 _ _).mono ?_; rintro e w' ⟨rfl, rfl⟩) | (go_at_call 25; refine (cost25 _ _).mono ?_; rintro e w' ⟨rfl, rfl⟩))
            go_roundw
            case rel => exact ⟨n + 1, by omega, by go_num, H.out, hb2.alloc (by omega) _⟩
            case measure => simp [intOf]; omega
          · obtain ⟨j, rfl⟩ : ∃ j, n = j + 1 := ⟨n - 1, by omega⟩
            obtain ⟨ad', hade, _, d0, d1, d2⟩ := hC'.at_ j (by omega)
            obtain rfl : ad = ad' := by simpa using hade
            have e0 : ∀ o, (wr.alloc o).cell? (ad.add (j * 3)) = _ := fun o => (World.cell?_alloc_lt wr o _ (by rw [block_add]; omega)).trans d0
            have e1 : ∀ o, (wr.alloc o).cell? ⟨(ad.add (j * 3)).block, (ad.add (j * 3)).off + 1, none⟩ = _ := fun o => (World.cell?_alloc_lt wr o _ (by simp only [block_add]; omega)).trans d1
            have e2 : ∀ o, (wr.alloc o).cell? ⟨(ad.add (j * 3)).block, (ad.add (j * 3)).off + 2, none⟩ = _ := fun o => (World.cell?_alloc_lt wr o _ (by simp only [block_add]; omega)).trans d2
            have hye : m.pairs[j]? = some m.pairs[j] := List.getElem?_eq_getElem (by omega)
            generalize m.pairs[j] = y at *
            have HY := Lib.hid hye
            clear hye hade
            have hd : ((j : Int) + 1 == 0) = false := by simp; omega
            have hp : pErr m.pairs (j + 1) = pB (Op.bytesLess y.first.toList x.first.toList) (y.first.toList == x.first.toList) (Op.bytesLess y.second.toList x.second.toList) (y.second.toList == x.second.toList) := by
              simp only [pErr, HX.out, HY.out, HB.out, Bool.false_eq_true, if_false]
            have HP := Lib.hid hp
            clear hp
            cases q1 : (y.first.toList == x.first.toList)
            · cases q2 : Op.bytesLess y.first.toList x.first.toList
              · have H := Lib.hid (chk_pair h0 (by omega) hlt2 HW.out HZ.out (show pErr m.pairs (j + 1) = 1 by rw [HP.out, q1, q2]; rfl) (by omega))
                go_wp2_with (first | (go_at_call 16; refine (word16 _ _).mono ?_; rintro e w' ⟨rfl, rfl⟩) | (go_at_call 25; refine (cost25 _ _).mono ?_; rintro e w' ⟨rfl, rfl⟩))
                go_ret
                exact ⟨ret_int H.out.symm, (hfin.alloc (by omega) _).alloc (by simp; omega) _⟩
              · have H : Hid (∀ i, i < j + 1 + 1 → pErr m.pairs i = 0) := fun i hi => by
                  by_cases e : i < j + 1
                  · exact HZ.out i e
                  · obtain rfl : i = j + 1 := by omega
                    rw [HP.out, q1, q2]; rfl
                go_wp2_with (first | (go_at_call 16; refine (word16 _ _).mono ?_; rintro e w' ⟨rfl, rfl⟩) | (go_at_call 25; refine (cost25 _ _).mono ?_; rintro e w' ⟨rfl, rfl⟩))
                go_roundw
                case rel => exact ⟨j + 1 + 1, by omega, by go_num, H.out, (hb2.alloc (by omega) _).alloc (by simp; omega) _⟩
                case measure => simp [intOf]; omega
            · cases q3 : (y.second.toList == x.second.toList)
              · cases q2 : Op.bytesLess y.second.toList x.second.toList
                · have H := Lib.hid (chk_pair h0 (by omega) hlt2 HW.out HZ.out (show pErr m.pairs (j + 1) = 1 by rw [HP.out, q1, q2, q3]; simp [pB]) (by omega))
                  go_wp2_with (first | (go_at_call 16; refine (word16 _ _).mono ?_; rintro e w' ⟨rfl, rfl⟩) | (go_at_call 25; refine (cost25 _ _).mono ?_; rintro e w' ⟨rfl, rfl⟩))
                  go_ret
                  exact ⟨ret_int H.out.symm, (hfin.alloc (by omega) _).alloc (by simp; omega) _⟩
                · have H : Hid (∀ i, i < j + 1 + 1 → pErr m.pairs i = 0) := fun i hi => by
                    by_cases e : i < j + 1
                    · exact HZ.out i e
                    · obtain rfl : i = j + 1 := by omega
                      rw [HP.out, q1, q2, q3]; simp [pB]
                  go_wp2_with (first | (go_at_call 16; refine (word16 _ _).mono ?_; rintro e w' ⟨rfl, rfl⟩) | (go_at_call 25; refine (cost25 _ _).mono ?_; rintro e w' ⟨rfl, rfl⟩))
                  go_roundw
                  case rel => exact ⟨j + 1 + 1, by omega, by go_num, H.out, (hb2.alloc (by omega) _).alloc (by simp; omega) _⟩
                  case measure => simp [intOf]; omega
              · have H := Lib.hid (chk_pair h0 (by omega) hlt2 HW.out HZ.out (show pErr m.pairs (j + 1) = 6 by rw [HP.out, q1, q3]; simp [pB]) (by omega))
                go_wp2_with (first | (go_at_call 16; refine (word16 _ _).mono ?_; rintro e w' ⟨rfl, rfl⟩) | (go_at_call 25; refine (cost25 _ _).mono ?_; rintro e w' ⟨rfl, rfl⟩))
                go_ret
                exact ⟨ret_int H.out.symm, (hfin.alloc (by omega) _).alloc (by simp; omega) _⟩
        · have H := Lib.hid (chk_ok h0 (by omega) HW.out (fun j hj => HZ.out j (by omega)))
          go_wp2
          go_ret
          exact ⟨ret_int H.out.symm, hfin⟩
end Go.Proofs.Ytcniiphmepgfeaa
