/- The walk of the specification's Edits; both Edits at lists too long. -/
import Derived.Test.YtgbjcphhcfmpgaaGreatDoorW11
namespace Go.Proofs.YtgbjcphhcfmpgaaGreatDoor
open Go.RowKit
open Go.Proofs.Lev hiding Ws

set_option maxHeartbeats 32000000 in
set_option maxRecDepth 1000000 in
theorem refEdits_any (a b : Ws) (w : World) (A C : Option Addr) (cA cC : Nat) (hA : StrAt w w.heap.size A a) (hC : StrAt w w.heap.size C b) (la : a.length ≤ 512) (lb : b.length ≤ 512) :
    Calls Tryz.prog 11 #[.slice A a.length cA, .slice C b.length cC] w fun e w' => ∃ v s, e = .returned (.tuple #[v, .int .i64 (lev a b : Nat), .int .u8 0]) ∧
      w'.ownsRow w.heap.size 31 1 v s.length (s.map fun o => .int .u8 (o : Nat)) ∧ s = scr a b 0 0 ∧ run a b s 0 0 0 = some (a.length, b.length, lev a b) ∧ w.Since w.heap.size w' := by
  go_enter Tryz.func11, Tryz.ntmps11
  go_wp2_with fail
  refine (costs_says a b w A C cA cC hA hC la lb).mono ?_
  rintro e wt ⟨rfl, hO⟩
  go_wp2_with fail
  go_loopg [8, 9, 10] (a.length + b.length) (fun g o i k wi => ∃ (I K : Nat) (s : List Nat), I ≤ a.length ∧ K ≤ b.length ∧ g = (a.length - I) + (b.length - K) ∧ i = .int .i64 I ∧ k = .int .i64 K ∧ Half a b I K s ∧ Scr wt wi o s)
  case atStart => exact ⟨0, 0, [], by omega, by omega, by omega, rfl, rfl, half_start a b, scr_start wt⟩
  case round =>
    obtain ⟨I, K, s, hIl, hKl, rfl, rfl, rfl, hH, hS⟩ := hrel
    have hsl := hH.le
    by_cases hI : I < a.length
    · have t1 : wr.cell? ⟨w.heap.size, I, none⟩ = some (.slice (some ⟨w.heap.size + 1 + (a.length - I), 0, none⟩) (b.length + 1) (b.length + 1)) := by
        rw [hS.since.cell (by rw [hO.size]; show w.heap.size < _; omega)]
        exact hO.cell hIl
      have t2 : wr.cell? ⟨w.heap.size, I + 1, none⟩ = some (.slice (some ⟨w.heap.size + 1 + (a.length - (I + 1)), 0, none⟩) (b.length + 1) (b.length + 1)) := by
        rw [hS.since.cell (by rw [hO.size]; show w.heap.size < _; omega)]
        exact hO.cell (by omega)
      have cc : ∀ i k, i ≤ a.length → k ≤ b.length → wr.cell? ⟨w.heap.size + 1 + (a.length - i), k, none⟩ = some (.int .i64 (L a b i k)) := fun i k hi hk => by
        rw [hS.since.cell (by rw [hO.size]; show w.heap.size + 1 + (a.length - i) < _; omega)]
        exact hO.cost hi hk
      have HX := Lib.hid (And.intro hH (And.intro hS hO))
      have hown := hS.own
      obtain ⟨i0, hi, hz0, hz1, hz2⟩ := info_parts info31
      have hSs := hS.since
      have hOs := hO.since
      by_cases hK : K < b.length
      · obtain ⟨ad, rfl, had, ca⟩ := hA.at_ I hI
        obtain ⟨cd, rfl, hcd, cb⟩ := hC.at_ K hK
        rw [← hOs.cell (by rw [block_add]; exact had), ← hSs.cell (by rw [block_add]; have := hOs.size; omega)] at ca
        rw [← hOs.cell (by rw [block_add]; exact hcd), ← hSs.cell (by rw [block_add]; have := hOs.size; omega)] at cb
        have c00 := cc I K (by omega) (by omega)
        have c11 := cc (I + 1) (K + 1) (by omega) (by omega)
        have c10 := cc (I + 1) K (by omega) (by omega)
        have b00 := L_le a b I K
        have b11 := L_le a b (I + 1) (K + 1)
        have b10 := L_le a b (I + 1) K
        have PK := fun e => half_keep hH hI hK e
        have PS := half_swap hH hI hK
        have PD := fun (n1 : a[I] = b[K] → L a b (I + 1) (K + 1) ≠ L a b I K) (n2 : L a b (I + 1) (K + 1) + 1 ≠ L a b I K) he => half_drop hH hI (fun _ => n1) (fun _ => n2) he
        have PP := fun (n1 : a[I] = b[K] → L a b (I + 1) (K + 1) ≠ L a b I K) (n2 : L a b (I + 1) (K + 1) + 1 ≠ L a b I K) (n3 : L a b (I + 1) K + 1 ≠ L a b I K) he => half_put hH hK (fun _ => n1) (fun _ => n2) (fun _ => n3) he
        have hL := L_step hI hK
        clear cc hSs hOs hH hS hO
        generalize w.heap.size + 1 + (a.length - I) = bi at *
        generalize w.heap.size + 1 + (a.length - (I + 1)) = bj at *
        generalize L a b I K = x00 at *
        generalize L a b (I + 1) (K + 1) = x11 at *
        generalize L a b (I + 1) K = x10 at *
        generalize L a b I (K + 1) = x01 at *
        generalize a[I] = sx at *
        generalize b[K] = sy at *
        have HK := Lib.hid PK
        have HS := Lib.hid PS
        have HD := Lib.hid PD
        have HP := Lib.hid PP
        have HL := Lib.hid hL
        clear PK PS PD PP hL
        cases hq : (sx.toList == sy.toList)
        · have HQ := Lib.hid (eqS_false.1 hq)
          by_cases k2 : x11 + 1 = x00
          · have hd : (x11 : Int) + 1 = (x00 : Int) := by omega
            as_aux_lemma =>
              go_wp2
              go_quiet (fail)
              go_wp2_with (first | (at_builtin; refine wpList_append_own _ rfl _ _ 28 rfl wt.heap.size 31 i0 (.int .u8 0) 1 1 Tryz.underlying28 hi hz0 hz1 hz2 rfl (by decide) _ s.length _ rfl (hown.alloc _) ⟨wr.heap.size, 0, none⟩ 1 1 [.int .u8 1] rfl rfl ?c1 ?c2 ?c3 ?c4 ?c5 ?_) | go_in)
              case c1 =>
                intro j u hj
                match j, hj with
                | 0, hj => simp at hj; subst hj; simp only [Addr.add]; exact cell_new rfl
              case c2 => intro u hu; simp at hu; subst hu; rfl
              case c3 => unfold maxLen; omega
              case c4 => omega
              case c5 => have := HX.out.2.1.since.size; simp; omega
              · intro v' w1 hown' hgrow _
                have R := Lib.hid (scr_push (x := 1) hgrow hown' HX.out.2.1 rfl rfl rfl rfl)
                clear hown' hgrow hown
                go_wp2
                go_roundg ((a.length - (I + 1)) + (b.length - (K + 1)))
                case measure => omega
                case rel => exact ⟨I + 1, K + 1, _, by omega, by omega, rfl, by go_num, by go_num, HS.out (fun e => absurd e HQ.out) k2, R.out⟩
          · have hd : ¬ (x11 : Int) + 1 = (x00 : Int) := by omega
            by_cases k3 : x10 + 1 = x00
            · have he : (x10 : Int) + 1 = (x00 : Int) := by omega
              as_aux_lemma =>
                go_wp2
                go_quiet (fail)
                go_wp2_with (first | (at_builtin; refine wpList_append_own _ rfl _ _ 28 rfl wt.heap.size 31 i0 (.int .u8 0) 1 1 Tryz.underlying28 hi hz0 hz1 hz2 rfl (by decide) _ s.length _ rfl (hown.alloc _) ⟨wr.heap.size, 0, none⟩ 1 1 [.int .u8 2] rfl rfl ?c1 ?c2 ?c3 ?c4 ?c5 ?_) | go_in)
                case c1 =>
                  intro j u hj
                  match j, hj with
                  | 0, hj => simp at hj; subst hj; simp only [Addr.add]; exact cell_new rfl
                case c2 => intro u hu; simp at hu; subst hu; rfl
                case c3 => unfold maxLen; omega
                case c4 => omega
                case c5 => have := HX.out.2.1.since.size; simp; omega
                · intro v' w1 hown' hgrow _
                  have R := Lib.hid (scr_push (x := 2) hgrow hown' HX.out.2.1 rfl rfl rfl rfl)
                  clear hown' hgrow hown
                  go_wp2
                  go_roundg ((a.length - (I + 1)) + (b.length - K))
                  case measure => omega
                  case rel => exact ⟨I + 1, K, _, by omega, by omega, rfl, by go_num, by go_num, HD.out (fun e => absurd e HQ.out) k2 k3, R.out⟩
            · have he : ¬ (x10 : Int) + 1 = (x00 : Int) := by omega
              as_aux_lemma =>
                go_wp2
                go_quiet (fail)
                go_wp2_with (first | (at_builtin; refine wpList_append_own _ rfl _ _ 28 rfl wt.heap.size 31 i0 (.int .u8 0) 1 1 Tryz.underlying28 hi hz0 hz1 hz2 rfl (by decide) _ s.length _ rfl (hown.alloc _) ⟨wr.heap.size, 0, none⟩ 1 1 [.int .u8 3] rfl rfl ?c1 ?c2 ?c3 ?c4 ?c5 ?_) | go_in)
                case c1 =>
                  intro j u hj
                  match j, hj with
                  | 0, hj => simp at hj; subst hj; simp only [Addr.add]; exact cell_new rfl
                case c2 => intro u hu; simp at hu; subst hu; rfl
                case c3 => unfold maxLen; omega
                case c4 => omega
                case c5 => have := HX.out.2.1.since.size; simp; omega
                · intro v' w1 hown' hgrow _
                  have R := Lib.hid (scr_push (x := 3) hgrow hown' HX.out.2.1 rfl rfl rfl rfl)
                  clear hown' hgrow hown
                  go_wp2
                  go_roundg ((a.length - I) + (b.length - (K + 1)))
                  case measure => omega
                  case rel => exact ⟨I, K + 1, _, by omega, by omega, rfl, by go_num, by go_num, HP.out (fun e => absurd e HQ.out) k2 k3 (by have h0 := HL.out; rw [if_neg HQ.out] at h0; omega), R.out⟩
        · have HQ := Lib.hid (eqS_iff.1 hq)
          by_cases k1 : x11 = x00
          · have hd : (x11 : Int) = (x00 : Int) := by omega
            as_aux_lemma =>
              go_wp2
              go_quiet (fail)
              go_wp2_with (first | (at_builtin; refine wpList_append_own _ rfl _ _ 28 rfl wt.heap.size 31 i0 (.int .u8 0) 1 1 Tryz.underlying28 hi hz0 hz1 hz2 rfl (by decide) _ s.length _ rfl (hown.alloc _) ⟨wr.heap.size, 0, none⟩ 1 1 [.int .u8 0] rfl rfl ?c1 ?c2 ?c3 ?c4 ?c5 ?_) | go_in)
              case c1 =>
                intro j u hj
                match j, hj with
                | 0, hj => simp at hj; subst hj; simp only [Addr.add]; exact cell_new rfl
              case c2 => intro u hu; simp at hu; subst hu; rfl
              case c3 => unfold maxLen; omega
              case c4 => omega
              case c5 => have := HX.out.2.1.since.size; simp; omega
              · intro v' w1 hown' hgrow _
                have R := Lib.hid (scr_push (x := 0) hgrow hown' HX.out.2.1 rfl rfl rfl rfl)
                clear hown' hgrow hown
                go_wp2
                go_roundg ((a.length - (I + 1)) + (b.length - (K + 1)))
                case measure => omega
                case rel => exact ⟨I + 1, K + 1, _, by omega, by omega, rfl, by go_num, by go_num, HK.out HQ.out k1, R.out⟩
          · have hdd : ¬ (x11 : Int) = (x00 : Int) := by omega
            by_cases k2 : x11 + 1 = x00
            · have hd : (x11 : Int) + 1 = (x00 : Int) := by omega
              as_aux_lemma =>
                go_wp2
                go_quiet (fail)
                go_wp2_with (first | (at_builtin; refine wpList_append_own _ rfl _ _ 28 rfl wt.heap.size 31 i0 (.int .u8 0) 1 1 Tryz.underlying28 hi hz0 hz1 hz2 rfl (by decide) _ s.length _ rfl (hown.alloc _) ⟨wr.heap.size, 0, none⟩ 1 1 [.int .u8 1] rfl rfl ?c1 ?c2 ?c3 ?c4 ?c5 ?_) | go_in)
                case c1 =>
                  intro j u hj
                  match j, hj with
                  | 0, hj => simp at hj; subst hj; simp only [Addr.add]; exact cell_new rfl
                case c2 => intro u hu; simp at hu; subst hu; rfl
                case c3 => unfold maxLen; omega
                case c4 => omega
                case c5 => have := HX.out.2.1.since.size; simp; omega
                · intro v' w1 hown' hgrow _
                  have R := Lib.hid (scr_push (x := 1) hgrow hown' HX.out.2.1 rfl rfl rfl rfl)
                  clear hown' hgrow hown
                  go_wp2
                  go_roundg ((a.length - (I + 1)) + (b.length - (K + 1)))
                  case measure => omega
                  case rel => exact ⟨I + 1, K + 1, _, by omega, by omega, rfl, by go_num, by go_num, HS.out (fun _ => k1) k2, R.out⟩
            · have hd : ¬ (x11 : Int) + 1 = (x00 : Int) := by omega
              by_cases k3 : x10 + 1 = x00
              · have he : (x10 : Int) + 1 = (x00 : Int) := by omega
                as_aux_lemma =>
                  go_wp2
                  go_quiet (fail)
                  go_wp2_with (first | (at_builtin; refine wpList_append_own _ rfl _ _ 28 rfl wt.heap.size 31 i0 (.int .u8 0) 1 1 Tryz.underlying28 hi hz0 hz1 hz2 rfl (by decide) _ s.length _ rfl (hown.alloc _) ⟨wr.heap.size, 0, none⟩ 1 1 [.int .u8 2] rfl rfl ?c1 ?c2 ?c3 ?c4 ?c5 ?_) | go_in)
                  case c1 =>
                    intro j u hj
                    match j, hj with
                    | 0, hj => simp at hj; subst hj; simp only [Addr.add]; exact cell_new rfl
                  case c2 => intro u hu; simp at hu; subst hu; rfl
                  case c3 => unfold maxLen; omega
                  case c4 => omega
                  case c5 => have := HX.out.2.1.since.size; simp; omega
                  · intro v' w1 hown' hgrow _
                    have R := Lib.hid (scr_push (x := 2) hgrow hown' HX.out.2.1 rfl rfl rfl rfl)
                    clear hown' hgrow hown
                    go_wp2
                    go_roundg ((a.length - (I + 1)) + (b.length - K))
                    case measure => omega
                    case rel => exact ⟨I + 1, K, _, by omega, by omega, rfl, by go_num, by go_num, HD.out (fun _ => k1) k2 k3, R.out⟩
              · have he : ¬ (x10 : Int) + 1 = (x00 : Int) := by omega
                as_aux_lemma =>
                  go_wp2
                  go_quiet (fail)
                  go_wp2_with (first | (at_builtin; refine wpList_append_own _ rfl _ _ 28 rfl wt.heap.size 31 i0 (.int .u8 0) 1 1 Tryz.underlying28 hi hz0 hz1 hz2 rfl (by decide) _ s.length _ rfl (hown.alloc _) ⟨wr.heap.size, 0, none⟩ 1 1 [.int .u8 3] rfl rfl ?c1 ?c2 ?c3 ?c4 ?c5 ?_) | go_in)
                  case c1 =>
                    intro j u hj
                    match j, hj with
                    | 0, hj => simp at hj; subst hj; simp only [Addr.add]; exact cell_new rfl
                  case c2 => intro u hu; simp at hu; subst hu; rfl
                  case c3 => unfold maxLen; omega
                  case c4 => omega
                  case c5 => have := HX.out.2.1.since.size; simp; omega
                  · intro v' w1 hown' hgrow _
                    have R := Lib.hid (scr_push (x := 3) hgrow hown' HX.out.2.1 rfl rfl rfl rfl)
                    clear hown' hgrow hown
                    go_wp2
                    go_roundg ((a.length - I) + (b.length - (K + 1)))
                    case measure => omega
                    case rel => exact ⟨I, K + 1, _, by omega, by omega, rfl, by go_num, by go_num, HP.out (fun _ => k1) k2 k3 (by have h0 := HL.out; rw [if_pos HQ.out] at h0; omega), R.out⟩
      · obtain rfl : K = b.length := by omega
        have c00 := cc I b.length (by omega) (by omega)
        have c10 := cc (I + 1) b.length (by omega) (by omega)
        have PD := half_drop hH hI (fun hK => absurd hK (by omega)) (fun hK => absurd hK (by omega)) (by rw [L_endB, L_endB]; omega)
        have k3 : L a b (I + 1) b.length + 1 = L a b I b.length := by rw [L_endB, L_endB]; omega
        have b00 := L_le a b I b.length
        clear cc hSs hOs hH hS hO
        generalize w.heap.size + 1 + (a.length - I) = bi at *
        generalize w.heap.size + 1 + (a.length - (I + 1)) = bj at *
        generalize L a b I b.length = x00 at *
        generalize L a b (I + 1) b.length = x10 at *
        have he : (x10 : Int) + 1 = (x00 : Int) := by omega
        have HD := Lib.hid PD
        clear PD
        as_aux_lemma =>
          go_wp2
          go_quiet (fail)
          go_wp2_with (first | (at_builtin; refine wpList_append_own _ rfl _ _ 28 rfl wt.heap.size 31 i0 (.int .u8 0) 1 1 Tryz.underlying28 hi hz0 hz1 hz2 rfl (by decide) _ s.length _ rfl (hown.alloc _) ⟨wr.heap.size, 0, none⟩ 1 1 [.int .u8 2] rfl rfl ?c1 ?c2 ?c3 ?c4 ?c5 ?_) | go_in)
          case c1 =>
            intro j u hj
            match j, hj with
            | 0, hj => simp at hj; subst hj; simp only [Addr.add]; exact cell_new rfl
          case c2 => intro u hu; simp at hu; subst hu; rfl
          case c3 => unfold maxLen; omega
          case c4 => omega
          case c5 => have := HX.out.2.1.since.size; simp; omega
          · intro v' w1 hown' hgrow _
            have R := Lib.hid (scr_push (x := 2) hgrow hown' HX.out.2.1 rfl rfl rfl rfl)
            clear hown' hgrow hown
            go_wp2
            go_roundg ((a.length - (I + 1)) + (b.length - b.length))
            case measure => omega
            case rel => exact ⟨I + 1, b.length, _, by omega, by omega, rfl, by go_num, by go_num, HD.out, R.out⟩
    · by_cases hK : K < b.length
      · --C
        obtain rfl : I = a.length := by omega
        have t0 : wr.cell? ⟨w.heap.size, a.length, none⟩ = some (.slice (some ⟨w.heap.size + 1 + (a.length - a.length), 0, none⟩) (b.length + 1) (b.length + 1)) := by
          rw [hS.since.cell (by rw [hO.size]; show w.heap.size < _; omega)]
          exact hO.cell (Nat.le_refl _)
        have c0 : wr.cell? ⟨w.heap.size + 1 + (a.length - a.length), K, none⟩ = some (.int .i64 (L a b a.length K)) := by
          rw [hS.since.cell (by rw [hO.size]; show w.heap.size + 1 + (a.length - a.length) < _; omega)]
          exact hO.cost (Nat.le_refl _) (by omega)
        have hown := hS.own
        have HP := Lib.hid (half_put hH hK (fun hI => absurd hI (by omega)) (fun hI => absurd hI (by omega)) (fun hI => absurd hI (by omega)) (by rw [L_endA, L_endA]; omega))
        have HX := Lib.hid (And.intro hH (And.intro hS hO))
        generalize w.heap.size + 1 + (a.length - a.length) = bi at *
        generalize L a b a.length K = x00 at *
        obtain ⟨i0, hi, hz0, hz1, hz2⟩ := info_parts info31
        clear hH hS hO
        as_aux_lemma =>
          go_wp2
          go_quiet (fail)
          go_wp2_with (first | (at_builtin; refine wpList_append_own _ rfl _ _ 28 rfl wt.heap.size 31 i0 (.int .u8 0) 1 1 Tryz.underlying28 hi hz0 hz1 hz2 rfl (by decide) _ s.length _ rfl (hown.alloc _) ⟨wr.heap.size, 0, none⟩ 1 1 [.int .u8 3] rfl rfl ?c1 ?c2 ?c3 ?c4 ?c5 ?_) | go_in)
          case c1 =>
            intro j u hj
            match j, hj with
            | 0, hj => simp at hj; subst hj; simp only [Addr.add]; exact cell_new rfl
          case c2 => intro u hu; simp at hu; subst hu; rfl
          case c3 => unfold maxLen; omega
          case c4 => omega
          case c5 => have := HX.out.2.1.since.size; simp; omega
          · intro v' w1 hown' hgrow _
            have R := Lib.hid (scr_push (x := 3) hgrow hown' HX.out.2.1 rfl rfl rfl rfl)
            clear hown' hgrow hown
            go_wp2
            go_roundg ((a.length - a.length) + (b.length - (K + 1)))
            case measure => omega
            case rel => exact ⟨a.length, K + 1, _, by omega, by omega, rfl, by go_num, by go_num, HP.out, R.out⟩
      · obtain rfl : I = a.length := by omega
        obtain rfl : K = b.length := by omega
        have t0 : wr.cell? ⟨w.heap.size, 0, none⟩ = some (.slice (some ⟨w.heap.size + 1 + a.length, 0, none⟩) (b.length + 1) (b.length + 1)) := by
          rw [hS.since.cell (by rw [hO.size]; show w.heap.size < _; omega)]
          exact hO.cell (Nat.zero_le _)
        have c0 : wr.cell? ⟨w.heap.size + 1 + a.length, 0, none⟩ = some (.int .i64 (L a b 0 0)) := by
          rw [hS.since.cell (by rw [hO.size]; show w.heap.size + 1 + a.length < _; omega)]
          exact hO.cost (Nat.zero_le _) (Nat.zero_le _)
        have HX := Lib.hid (And.intro hH (And.intro hS hO))
        clear hH hS hO
        as_aux_lemma =>
          go_wp2
          go_quiet (fail)
          go_wp2
          go_ret3
          obtain ⟨hh, hs, ho⟩ := HX.out
          obtain ⟨r1, r2⟩ := edits_done (wd := wr.drewN nq) ho hs rfl rfl rfl rfl
          have hl : L a b 0 0 = lev a b := by simp [L]
          exact ⟨u8, s, by rw [hl]; rfl, r1, half_scr hh, half_done hh, r2⟩

end Go.Proofs.YtgbjcphhcfmpgaaGreatDoor
