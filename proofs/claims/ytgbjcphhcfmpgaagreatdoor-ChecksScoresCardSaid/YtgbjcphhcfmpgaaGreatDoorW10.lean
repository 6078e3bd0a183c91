/- The walk of Edits. -/
import Derived.Test.YtgbjcphhcfmpgaaGreatDoorW9
namespace Go.Proofs.YtgbjcphhcfmpgaaGreatDoor
open Go.RowKit
open Go.Proofs.Lev hiding Ws

set_option maxHeartbeats 32000000 in
set_option maxRecDepth 1000000 in
theorem edits_any (a b : Ws) (w : World) (A C : Option Addr) (cA cC : Nat) (hA : StrAt w w.heap.size A a) (hC : StrAt w w.heap.size C b) (la : a.length ≤ 512) (lb : b.length ≤ 512) :
    Calls Tryz.prog 10 #[.slice A a.length cA, .slice C b.length cC] w fun e w' => ∃ v s, e = .returned (.tuple #[v, .int .i64 (lev a b : Nat), .int .u8 0]) ∧
      w'.ownsRow w.heap.size 31 1 v s.length (s.map fun o => .int .u8 (o : Nat)) ∧ s = scr a b 0 0 ∧ run a b s 0 0 0 = some (a.length, b.length, lev a b) ∧ w.Since w.heap.size w' := by
  have hmkA : ∀ w : World, (Instr.makeSlice 56 (.int .i64 ((a.length : Int) + 1)) (.int .i64 ((a.length : Int) + 1))).run Tryz.prog w = .ok (.slice (some ⟨w.heap.size, 0, none⟩) (a.length + 1) (a.length + 1)) (w.alloc (.cells (madeCells #[.slice none 0 0] (a.length + 1)) 57)) :=
    run_make_row' (P := Tryz.prog) 56 57 (.slice none 0 0) 24 Tryz.underlying56 info57 rfl .i64 .i64 (a.length + 1) (by omega) (by omega)
  have hmkB : ∀ w : World, (Instr.makeSlice 57 (.int .i64 ((b.length : Int) + 1)) (.int .i64 ((b.length : Int) + 1))).run Tryz.prog w = .ok (.slice (some ⟨w.heap.size, 0, none⟩) (b.length + 1) (b.length + 1)) (w.alloc (.cells (madeCells #[.int .i64 0] (b.length + 1)) 3)) :=
    run_make_row' (P := Tryz.prog) 57 3 (.int .i64 0) 8 Tryz.underlying57 info3 rfl .i64 .i64 (b.length + 1) (by omega) (by omega)
  go_enter Tryz.func10, Tryz.ntmps10
  go_wp2
  go_loopg [8] (a.length + 1) (fun g i wr => g ≤ a.length + 1 ∧ i = .int .i64 ((g : Int) - 1) ∧ Outer w wr a b g)
  case atStart => exact ⟨by omega, by simp, outer_start w a b⟩
  case round =>
    obtain ⟨hg, rfl, hO⟩ := hrel
    by_cases hz : gk = 0
    · subst hz
      clear hmkA hmkB
      obtain ⟨wt, rfl⟩ : ∃ wt, wt = wr := ⟨wr, rfl⟩
      go_wp2
      go_loopg [11, 12, 13] (a.length + b.length) (fun g o i k wi => ∃ (I K : Nat) (s : List Nat), I ≤ a.length ∧ K ≤ b.length ∧ g = (a.length - I) + (b.length - K) ∧ i = .int .i64 I ∧ k = .int .i64 K ∧ Half a b I K s ∧ Scr wt wi o s)
      case atStart => exact ⟨0, 0, [], by omega, by omega, by omega, rfl, rfl, half_start a b, scr_start wt⟩
      case round =>
        obtain ⟨I, K, s, hIl, hKl, rfl, rfl, rfl, hH, hS⟩ := hrel
        have hsl := hH.le
        by_cases hI : I < a.length
        · have t1 : wr.cell? ⟨w.heap.size, I, none⟩ = some (.slice (some ⟨w.heap.size + 1 + (a.length - I), 0, none⟩) (b.length + 1) (b.length + 1)) := by
            rw [hS.since.cell (by rw [hO.size]; show w.heap.size < _; omega)]
            exact hO.cell hIl
          have t2 : wr.cell? ⟨w.heap.size, I + 1, none⟩ = some (.slice (some ⟨w.heap.size + 1 + (a.length - (I + 1)), 0, none⟩) (b.length + 1) (b.length + 1)) := by
            rw [hS.since.cell (by rw [hO.size]; show w.heap.size < _; omega)]
            exact hO.cell (by omega)
          have cc : ∀ i k, i ≤ a.length → k ≤ b.length → wr.cell? ⟨w.heap.size + 1 + (a.length - i), k, none⟩ = some (.int .i64 (L a b i k)) := fun i k hi hk => by
            rw [hS.since.cell (by rw [hO.size]; show w.heap.size + 1 + (a.length - i) < _; omega)]
            exact hO.cost hi hk
          have HX := Lib.hid (And.intro hH (And.intro hS hO))
          have hown := hS.own
          obtain ⟨i0, hi, hz0, hz1, hz2⟩ := info_parts info31
          have hSs := hS.since
          have hOs := hO.since
          by_cases hK : K < b.length
          · obtain ⟨ad, rfl, had, ca⟩ := hA.at_ I hI
            obtain ⟨cd, rfl, hcd, cb⟩ := hC.at_ K hK
            rw [← hOs.cell (by rw [block_add]; exact had), ← hSs.cell (by rw [block_add]; have := hOs.size; omega)] at ca
            rw [← hOs.cell (by rw [block_add]; exact hcd), ← hSs.cell (by rw [block_add]; have := hOs.size; omega)] at cb
            have c00 := cc I K (by omega) (by omega)
            have c11 := cc (I + 1) (K + 1) (by omega) (by omega)
            have c10 := cc (I + 1) K (by omega) (by omega)
            have b00 := L_le a b I K
            have b11 := L_le a b (I + 1) (K + 1)
            have b10 := L_le a b (I + 1) K
            have PK := fun e => half_keep hH hI hK e
            have PS := half_swap hH hI hK
            have PD := fun (n1 : a[I] = b[K] → L a b (I + 1) (K + 1) ≠ L a b I K) (n2 : L a b (I + 1) (K + 1) + 1 ≠ L a b I K) he => half_drop hH hI (fun _ => n1) (fun _ => n2) he
            have PP := fun (n1 : a[I] = b[K] → L a b (I + 1) (K + 1) ≠ L a b I K) (n2 : L a b (I + 1) (K + 1) + 1 ≠ L a b I K) (n3 : L a b (I + 1) K + 1 ≠ L a b I K) he => half_put hH hK (fun _ => n1) (fun _ => n2) (fun _ => n3) he
            have hL := L_step hI hK
            clear cc hSs hOs hH hS hO
            generalize w.heap.size + 1 + (a.length - I) = bi at *
            generalize w.heap.size + 1 + (a.length - (I + 1)) = bj at *
            generalize L a b I K = x00 at *
            generalize L a b (I + 1) (K + 1) = x11 at *
            generalize L a b (I + 1) K = x10 at *
            generalize L a b I (K + 1) = x01 at *
            generalize a[I] = sx at *
            generalize b[K] = sy at *
            have HK := Lib.hid PK
            have HS := Lib.hid PS
            have HD := Lib.hid PD
            have HP := Lib.hid PP
            have HL := Lib.hid hL
            clear PK PS PD PP hL
            cases hq : (sx.toList == sy.toList)
            · have HQ := Lib.hid (eqS_false.1 hq)
              by_cases k2 : x11 + 1 = x00
              · have hd : (x11 : Int) = (x00 : Int) - 1 := by omega
                as_aux_lemma =>
                  go_wp2
                  go_quiet (fail)
                  go_wp2_with (first | (at_builtin; refine wpList_append_own _ rfl _ _ 28 rfl wt.heap.size 31 i0 (.int .u8 0) 1 1 Tryz.underlying28 hi hz0 hz1 hz2 rfl (by decide) _ s.length _ rfl (hown.alloc _) ⟨wr.heap.size, 0, none⟩ 1 1 [.int .u8 1] rfl rfl ?c1 ?c2 ?c3 ?c4 ?c5 ?_) | go_in)
                  case c1 =>
                    intro j u hj
                    match j, hj with
                    | 0, hj => simp at hj; subst hj; simp only [Addr.add]; exact cell_new rfl
                  case c2 => intro u hu; simp at hu; subst hu; rfl
                  case c3 => unfold maxLen; omega
                  case c4 => omega
                  case c5 => have := HX.out.2.1.since.size; simp; omega
                  · intro v' w1 hown' hgrow _
                    have R := Lib.hid (scr_push (x := 1) hgrow hown' HX.out.2.1 rfl rfl rfl rfl)
                    clear hown' hgrow hown
                    go_wp2
                    go_roundg ((a.length - (I + 1)) + (b.length - (K + 1)))
                    case measure => omega
                    case rel => exact ⟨I + 1, K + 1, _, by omega, by omega, rfl, by go_num, by go_num, HS.out (fun e => absurd e HQ.out) k2, R.out⟩
              · have hd : ¬ (x11 : Int) = (x00 : Int) - 1 := by omega
                by_cases k3 : x10 + 1 = x00
                · have he : (x10 : Int) = (x00 : Int) - 1 := by omega
                  as_aux_lemma =>
                    go_wp2
                    go_quiet (fail)
                    go_wp2_with (first | (at_builtin; refine wpList_append_own _ rfl _ _ 28 rfl wt.heap.size 31 i0 (.int .u8 0) 1 1 Tryz.underlying28 hi hz0 hz1 hz2 rfl (by decide) _ s.length _ rfl (hown.alloc _) ⟨wr.heap.size, 0, none⟩ 1 1 [.int .u8 2] rfl rfl ?c1 ?c2 ?c3 ?c4 ?c5 ?_) | go_in)
                    case c1 =>
                      intro j u hj
                      match j, hj with
                      | 0, hj => simp at hj; subst hj; simp only [Addr.add]; exact cell_new rfl
                    case c2 => intro u hu; simp at hu; subst hu; rfl
                    case c3 => unfold maxLen; omega
                    case c4 => omega
                    case c5 => have := HX.out.2.1.since.size; simp; omega
                    · intro v' w1 hown' hgrow _
                      have R := Lib.hid (scr_push (x := 2) hgrow hown' HX.out.2.1 rfl rfl rfl rfl)
                      clear hown' hgrow hown
                      go_wp2
                      go_roundg ((a.length - (I + 1)) + (b.length - K))
                      case measure => omega
                      case rel => exact ⟨I + 1, K, _, by omega, by omega, rfl, by go_num, by go_num, HD.out (fun e => absurd e HQ.out) k2 k3, R.out⟩
                · have he : ¬ (x10 : Int) = (x00 : Int) - 1 := by omega
                  as_aux_lemma =>
                    go_wp2
                    go_quiet (fail)
                    go_wp2_with (first | (at_builtin; refine wpList_append_own _ rfl _ _ 28 rfl wt.heap.size 31 i0 (.int .u8 0) 1 1 Tryz.underlying28 hi hz0 hz1 hz2 rfl (by decide) _ s.length _ rfl (hown.alloc _) ⟨wr.heap.size, 0, none⟩ 1 1 [.int .u8 3] rfl rfl ?c1 ?c2 ?c3 ?c4 ?c5 ?_) | go_in)
                    case c1 =>
                      intro j u hj
                      match j, hj with
                      | 0, hj => simp at hj; subst hj; simp only [Addr.add]; exact cell_new rfl
                    case c2 => intro u hu; simp at hu; subst hu; rfl
                    case c3 => unfold maxLen; omega
                    case c4 => omega
                    case c5 => have := HX.out.2.1.since.size; simp; omega
                    · intro v' w1 hown' hgrow _
                      have R := Lib.hid (scr_push (x := 3) hgrow hown' HX.out.2.1 rfl rfl rfl rfl)
                      clear hown' hgrow hown
                      go_wp2
                      go_roundg ((a.length - I) + (b.length - (K + 1)))
                      case measure => omega
                      case rel => exact ⟨I, K + 1, _, by omega, by omega, rfl, by go_num, by go_num, HP.out (fun e => absurd e HQ.out) k2 k3 (by have h0 := HL.out; rw [if_neg HQ.out] at h0; omega), R.out⟩
            · have HQ := Lib.hid (eqS_iff.1 hq)
              by_cases k1 : x11 = x00
              · have hd : (x11 : Int) = (x00 : Int) := by omega
                as_aux_lemma =>
                  go_wp2
                  go_quiet (fail)
                  go_wp2_with (first | (at_builtin; refine wpList_append_own _ rfl _ _ 28 rfl wt.heap.size 31 i0 (.int .u8 0) 1 1 Tryz.underlying28 hi hz0 hz1 hz2 rfl (by decide) _ s.length _ rfl (hown.alloc _) ⟨wr.heap.size, 0, none⟩ 1 1 [.int .u8 0] rfl rfl ?c1 ?c2 ?c3 ?c4 ?c5 ?_) | go_in)
                  case c1 =>
                    intro j u hj
                    match j, hj with
                    | 0, hj => simp at hj; subst hj; simp only [Addr.add]; exact cell_new rfl
                  case c2 => intro u hu; simp at hu; subst hu; rfl
                  case c3 => unfold maxLen; omega
                  case c4 => omega
                  case c5 => have := HX.out.2.1.since.size; simp; omega
                  · intro v' w1 hown' hgrow _
                    have R := Lib.hid (scr_push (x := 0) hgrow hown' HX.out.2.1 rfl rfl rfl rfl)
                    clear hown' hgrow hown
                    go_wp2
                    go_roundg ((a.length - (I + 1)) + (b.length - (K + 1)))
                    case measure => omega
                    case rel => exact ⟨I + 1, K + 1, _, by omega, by omega, rfl, by go_num, by go_num, HK.out HQ.out k1, R.out⟩
              · have hdd : ¬ (x11 : Int) = (x00 : Int) := by omega
                by_cases k2 : x11 + 1 = x00
                · have hd : (x11 : Int) = (x00 : Int) - 1 := by omega
                  as_aux_lemma =>
                    go_wp2
                    go_quiet (fail)
                    go_wp2_with (first | (at_builtin; refine wpList_append_own _ rfl _ _ 28 rfl wt.heap.size 31 i0 (.int .u8 0) 1 1 Tryz.underlying28 hi hz0 hz1 hz2 rfl (by decide) _ s.length _ rfl (hown.alloc _) ⟨wr.heap.size, 0, none⟩ 1 1 [.int .u8 1] rfl rfl ?c1 ?c2 ?c3 ?c4 ?c5 ?_) | go_in)
                    case c1 =>
                      intro j u hj
                      match j, hj with
                      | 0, hj => simp at hj; subst hj; simp only [Addr.add]; exact cell_new rfl
                    case c2 => intro u hu; simp at hu; subst hu; rfl
                    case c3 => unfold maxLen; omega
                    case c4 => omega
                    case c5 => have := HX.out.2.1.since.size; simp; omega
                    · intro v' w1 hown' hgrow _
                      have R := Lib.hid (scr_push (x := 1) hgrow hown' HX.out.2.1 rfl rfl rfl rfl)
                      clear hown' hgrow hown
                      go_wp2
                      go_roundg ((a.length - (I + 1)) + (b.length - (K + 1)))
                      case measure => omega
                      case rel => exact ⟨I + 1, K + 1, _, by omega, by omega, rfl, by go_num, by go_num, HS.out (fun _ => k1) k2, R.out⟩
                · have hd : ¬ (x11 : Int) = (x00 : Int) - 1 := by omega
                  by_cases k3 : x10 + 1 = x00
                  · have he : (x10 : Int) = (x00 : Int) - 1 := by omega
                    as_aux_lemma =>
                      go_wp2
                      go_quiet (fail)
                      go_wp2_with (first | (at_builtin; refine wpList_append_own _ rfl _ _ 28 rfl wt.heap.size 31 i0 (.int .u8 0) 1 1 Tryz.underlying28 hi hz0 hz1 hz2 rfl (by decide) _ s.length _ rfl (hown.alloc _) ⟨wr.heap.size, 0, none⟩ 1 1 [.int .u8 2] rfl rfl ?c1 ?c2 ?c3 ?c4 ?c5 ?_) | go_in)
                      case c1 =>
                        intro j u hj
                        match j, hj with
                        | 0, hj => simp at hj; subst hj; simp only [Addr.add]; exact cell_new rfl
                      case c2 => intro u hu; simp at hu; subst hu; rfl
                      case c3 => unfold maxLen; omega
                      case c4 => omega
                      case c5 => have := HX.out.2.1.since.size; simp; omega
                      · intro v' w1 hown' hgrow _
                        have R := Lib.hid (scr_push (x := 2) hgrow hown' HX.out.2.1 rfl rfl rfl rfl)
                        clear hown' hgrow hown
                        go_wp2
                        go_roundg ((a.length - (I + 1)) + (b.length - K))
                        case measure => omega
                        case rel => exact ⟨I + 1, K, _, by omega, by omega, rfl, by go_num, by go_num, HD.out (fun _ => k1) k2 k3, R.out⟩
                  · have he : ¬ (x10 : Int) = (x00 : Int) - 1 := by omega
                    as_aux_lemma =>
                      go_wp2
                      go_quiet (fail)
                      go_wp2_with (first | (at_builtin; refine wpList_append_own _ rfl _ _ 28 rfl wt.heap.size 31 i0 (.int .u8 0) 1 1 Tryz.underlying28 hi hz0 hz1 hz2 rfl (by decide) _ s.length _ rfl (hown.alloc _) ⟨wr.heap.size, 0, none⟩ 1 1 [.int .u8 3] rfl rfl ?c1 ?c2 ?c3 ?c4 ?c5 ?_) | go_in)
                      case c1 =>
                        intro j u hj
                        match j, hj with
                        | 0, hj => simp at hj; subst hj; simp only [Addr.add]; exact cell_new rfl
                      case c2 => intro u hu; simp at hu; subst hu; rfl
                      case c3 => unfold maxLen; omega
                      case c4 => omega
                      case c5 => have := HX.out.2.1.since.size; simp; omega
                      · intro v' w1 hown' hgrow _
                        have R := Lib.hid (scr_push (x := 3) hgrow hown' HX.out.2.1 rfl rfl rfl rfl)
                        clear hown' hgrow hown
                        go_wp2
                        go_roundg ((a.length - I) + (b.length - (K + 1)))
                        case measure => omega
                        case rel => exact ⟨I, K + 1, _, by omega, by omega, rfl, by go_num, by go_num, HP.out (fun _ => k1) k2 k3 (by have h0 := HL.out; rw [if_pos HQ.out] at h0; omega), R.out⟩
          · obtain rfl : K = b.length := by omega
            have c00 := cc I b.length (by omega) (by omega)
            have c10 := cc (I + 1) b.length (by omega) (by omega)
            have PD := half_drop hH hI (fun hK => absurd hK (by omega)) (fun hK => absurd hK (by omega)) (by rw [L_endB, L_endB]; omega)
            have k3 : L a b (I + 1) b.length + 1 = L a b I b.length := by rw [L_endB, L_endB]; omega
            have b00 := L_le a b I b.length
            clear cc hSs hOs hH hS hO
            generalize w.heap.size + 1 + (a.length - I) = bi at *
            generalize w.heap.size + 1 + (a.length - (I + 1)) = bj at *
            generalize L a b I b.length = x00 at *
            generalize L a b (I + 1) b.length = x10 at *
            have he : (x10 : Int) = (x00 : Int) - 1 := by omega
            have HD := Lib.hid PD
            clear PD
            as_aux_lemma =>
              go_wp2
              go_quiet (fail)
              go_wp2_with (first | (at_builtin; refine wpList_append_own _ rfl _ _ 28 rfl wt.heap.size 31 i0 (.int .u8 0) 1 1 Tryz.underlying28 hi hz0 hz1 hz2 rfl (by decide) _ s.length _ rfl (hown.alloc _) ⟨wr.heap.size, 0, none⟩ 1 1 [.int .u8 2] rfl rfl ?c1 ?c2 ?c3 ?c4 ?c5 ?_) | go_in)
              case c1 =>
                intro j u hj
                match j, hj with
                | 0, hj => simp at hj; subst hj; simp only [Addr.add]; exact cell_new rfl
              case c2 => intro u hu; simp at hu; subst hu; rfl
              case c3 => unfold maxLen; omega
              case c4 => omega
              case c5 => have := HX.out.2.1.since.size; simp; omega
              · intro v' w1 hown' hgrow _
                have R := Lib.hid (scr_push (x := 2) hgrow hown' HX.out.2.1 rfl rfl rfl rfl)
                clear hown' hgrow hown
                go_wp2
                go_roundg ((a.length - (I + 1)) + (b.length - b.length))
                case measure => omega
                case rel => exact ⟨I + 1, b.length, _, by omega, by omega, rfl, by go_num, by go_num, HD.out, R.out⟩
        · by_cases hK : K < b.length
          · --C
            obtain rfl : I = a.length := by omega
            have t0 : wr.cell? ⟨w.heap.size, a.length, none⟩ = some (.slice (some ⟨w.heap.size + 1 + (a.length - a.length), 0, none⟩) (b.length + 1) (b.length + 1)) := by
              rw [hS.since.cell (by rw [hO.size]; show w.heap.size < _; omega)]
              exact hO.cell (Nat.le_refl _)
            have c0 : wr.cell? ⟨w.heap.size + 1 + (a.length - a.length), K, none⟩ = some (.int .i64 (L a b a.length K)) := by
              rw [hS.since.cell (by rw [hO.size]; show w.heap.size + 1 + (a.length - a.length) < _; omega)]
              exact hO.cost (Nat.le_refl _) (by omega)
            have hown := hS.own
            have HP := Lib.hid (half_put hH hK (fun hI => absurd hI (by omega)) (fun hI => absurd hI (by omega)) (fun hI => absurd hI (by omega)) (by rw [L_endA, L_endA]; omega))
            have HX := Lib.hid (And.intro hH (And.intro hS hO))
            generalize w.heap.size + 1 + (a.length - a.length) = bi at *
            generalize L a b a.length K = x00 at *
            obtain ⟨i0, hi, hz0, hz1, hz2⟩ := info_parts info31
            clear hH hS hO
            as_aux_lemma =>
              go_wp2
              go_quiet (fail)
              go_wp2_with (first | (at_builtin; refine wpList_append_own _ rfl _ _ 28 rfl wt.heap.size 31 i0 (.int .u8 0) 1 1 Tryz.underlying28 hi hz0 hz1 hz2 rfl (by decide) _ s.length _ rfl (hown.alloc _) ⟨wr.heap.size, 0, none⟩ 1 1 [.int .u8 3] rfl rfl ?c1 ?c2 ?c3 ?c4 ?c5 ?_) | go_in)
              case c1 =>
                intro j u hj
                match j, hj with
                | 0, hj => simp at hj; subst hj; simp only [Addr.add]; exact cell_new rfl
              case c2 => intro u hu; simp at hu; subst hu; rfl
              case c3 => unfold maxLen; omega
              case c4 => omega
              case c5 => have := HX.out.2.1.since.size; simp; omega
              · intro v' w1 hown' hgrow _
                have R := Lib.hid (scr_push (x := 3) hgrow hown' HX.out.2.1 rfl rfl rfl rfl)
                clear hown' hgrow hown
                go_wp2
                go_roundg ((a.length - a.length) + (b.length - (K + 1)))
                case measure => omega
                case rel => exact ⟨a.length, K + 1, _, by omega, by omega, rfl, by go_num, by go_num, HP.out, R.out⟩
          · obtain rfl : I = a.length := by omega
            obtain rfl : K = b.length := by omega
            have t0 : wr.cell? ⟨w.heap.size, 0, none⟩ = some (.slice (some ⟨w.heap.size + 1 + a.length, 0, none⟩) (b.length + 1) (b.length + 1)) := by
              rw [hS.since.cell (by rw [hO.size]; show w.heap.size < _; omega)]
              exact hO.cell (Nat.zero_le _)
            have c0 : wr.cell? ⟨w.heap.size + 1 + a.length, 0, none⟩ = some (.int .i64 (L a b 0 0)) := by
              rw [hS.since.cell (by rw [hO.size]; show w.heap.size + 1 + a.length < _; omega)]
              exact hO.cost (Nat.zero_le _) (Nat.zero_le _)
            have HX := Lib.hid (And.intro hH (And.intro hS hO))
            clear hH hS hO
            as_aux_lemma =>
              go_wp2
              go_quiet (fail)
              go_wp2
              go_ret3
              obtain ⟨hh, hs, ho⟩ := HX.out
              obtain ⟨r1, r2⟩ := edits_done (wd := wr.drewN nq) ho hs rfl rfl rfl rfl
              have hl : L a b 0 0 = lev a b := by simp [L]
              exact ⟨u11, s, by rw [hl]; rfl, r1, half_scr hh, half_done hh, r2⟩
    · obtain ⟨i, rfl⟩ : ∃ i, gk = i + 1 := ⟨gk - 1, by omega⟩
      have hil : i ≤ a.length := by omega
      have hsize := hO.size
      have hsz : wr.heap.size = w.heap.size + 1 + (a.length - i) := by omega
      clear hsize
      have hst1 : ∀ o, (wr.alloc o).cell? ⟨w.heap.size, i, none⟩ = some (topf w.heap.size a.length b.length (i + 1) i) := fun o => (hO.top.alloc o).cell (by omega)
      have hst2 : ∀ o, (wr.alloc o).frozen? ⟨w.heap.size, i, none⟩ = false := fun o => (hO.top.alloc o).frozen i
      have hI0 := Lib.hid (inner_start hil hO)
      have e1 : ((i + 1 : Nat) : Int) - 1 = (i : Int) := by omega
      rw [e1]
      clear e1 hO
      go_wp2
      clear hmkA hmkB hst1 hst2
      go_loopg [9] (b.length + 1) (fun g k wi => g ≤ b.length + 1 ∧ k = .int .i64 ((g : Int) - 1) ∧ Inner w wi a b i g)
      case atStart => exact ⟨by omega, by simp, hI0.out⟩
      case round =>
        obtain ⟨hgk, rfl, hI⟩ := hrel
        by_cases hz2 : gk = 0
        · subst hz2
          have HI := Lib.hid (inner_done hI)
          clear hI hI0
          as_aux_lemma =>
            go_wp2
            go_roundg i
            case measure => omega
            case rel => exact ⟨by omega, by go_num, HI.out⟩
        · obtain ⟨q, rfl⟩ : ∃ q, gk = q + 1 := ⟨gk - 1, by omega⟩
          have hql : q ≤ b.length := by omega
          have g1 : wr.cell? ⟨w.heap.size, i, none⟩ = some (.slice (some ⟨w.heap.size + 1 + (a.length - i), 0, none⟩) (b.length + 1) (b.length + 1)) := by simpa [topf] using hI.top.cell (i := i) (by omega)
          have g4 : wr.cell? ⟨w.heap.size + 1 + (a.length - i), q, none⟩ = some (.int .i64 0) := by
            have := hI.cur.cell (i := q) (by omega)
            rw [if_neg (by omega)] at this
            exact this
          have g5 : wr.frozen? ⟨w.heap.size + 1 + (a.length - i), q, none⟩ = false := hI.cur.frozen q
          have e1 : ((q + 1 : Nat) : Int) - 1 = (q : Int) := by omega
          rw [e1]
          clear e1
          by_cases hia : i = a.length
          · have H := Lib.hid (inner_step (v := (b.length : Int) - q) hil (by rw [hia, L_endA]; omega) hI)
            clear hI0 hI
            generalize w.heap.size + 1 + (a.length - i) = bi at *
            subst hia
            as_aux_lemma =>
              go_wp2
              go_roundg q
              case measure => omega
              case rel => exact ⟨by omega, by go_num, H.out⟩
          · by_cases hqb : q = b.length
            · have H := Lib.hid (inner_step (v := (a.length : Int) - i) hil (by rw [hqb, L_endB]; omega) hI)
              clear hI0 hI
              generalize w.heap.size + 1 + (a.length - i) = bi at *
              subst hqb
              as_aux_lemma =>
                go_wp2
                go_roundg b.length
                case measure => omega
                case rel => exact ⟨by omega, by go_num, H.out⟩
            · have hi' : i < a.length := by omega
              have hk' : q < b.length := by omega
              have g2 : wr.cell? ⟨w.heap.size, i + 1, none⟩ = some (.slice (some ⟨w.heap.size + 1 + (a.length - (i + 1)), 0, none⟩) (b.length + 1) (b.length + 1)) := by
                have := hI.top.cell (i := i + 1) (by omega)
                rw [this, topf, if_pos (by omega)]
              have d11 := (hI.done (i + 1) (Nat.le_refl _) (by omega)).cell (i := q + 1) (by omega)
              have d10 := (hI.done (i + 1) (Nat.le_refl _) (by omega)).cell (i := q) (by omega)
              have d01 := hI.cur.cell (i := q + 1) (by omega)
              rw [if_pos (Nat.le_refl _)] at d01
              obtain ⟨ad, rfl, had, ca⟩ := hA.at_ i hi'
              obtain ⟨cd, rfl, hcd, cb⟩ := hC.at_ q hk'
              rw [← hI.since.cell (by rw [block_add]; exact had)] at ca
              rw [← hI.since.cell (by rw [block_add]; exact hcd)] at cb
              have b11 := L_le a b (i + 1) (q + 1)
              have b10 := L_le a b (i + 1) q
              have b01 := L_le a b i (q + 1)
              have H := fun (v : Int) (hv : v = (L a b i q : Nat)) => inner_step (v := v) hil hv hI
              have hLs := L_step hi' hk'
              generalize w.heap.size + 1 + (a.length - i) = bi at *
              generalize w.heap.size + 1 + (a.length - (i + 1)) = bj at *
              generalize L a b (i + 1) (q + 1) = x11 at *
              generalize L a b (i + 1) q = x10 at *
              generalize L a b i (q + 1) = x01 at *
              generalize a[i] = sx at *
              generalize b[q] = sy at *
              have HH := Lib.hid H
              have HL := Lib.hid hLs
              clear H hLs hI hI0
              cases hq : (sx.toList == sy.toList)
              · have HQ := Lib.hid (eqS_false.1 hq)
                as_aux_lemma =>
                  go_wp2
                  go_quiet (fail)
                  all_goals go_wp2
                  all_goals go_quiet (fail)
                  all_goals go_wp2
                  all_goals go_roundg q
                  all_goals first | omega | exact ⟨by omega, by go_num, Inner.drewSet (HH.out _ (by have h0 := HL.out; rw [if_neg HQ.out] at h0; omega)) _⟩
              · have HQ := Lib.hid (eqS_iff.1 hq)
                as_aux_lemma =>
                  go_wp2
                  go_quiet (fail)
                  all_goals go_wp2
                  all_goals go_quiet (fail)
                  all_goals go_wp2
                  all_goals go_roundg q
                  all_goals first | omega | exact ⟨by omega, by go_num, Inner.drewSet (HH.out _ (by have h0 := HL.out; rw [if_pos HQ.out] at h0; omega)) _⟩
end Go.Proofs.YtgbjcphhcfmpgaaGreatDoor
