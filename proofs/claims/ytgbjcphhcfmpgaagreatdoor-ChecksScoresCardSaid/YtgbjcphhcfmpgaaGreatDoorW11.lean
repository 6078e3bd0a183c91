/- The walk of the specification's table of costs. -/
import Derived.Test.YtgbjcphhcfmpgaaGreatDoorW9
namespace Go.Proofs.YtgbjcphhcfmpgaaGreatDoor
open Go.RowKit
open Go.Proofs.Lev hiding Ws

set_option maxHeartbeats 32000000 in
set_option maxRecDepth 1000000 in
theorem costs_says (a b : Ws) (w : World) (A C : Option Addr) (cA cC : Nat) (hA : StrAt w w.heap.size A a) (hC : StrAt w w.heap.size C b) (la : a.length ≤ 512) (lb : b.length ≤ 512) :
    Calls Tryz.prog 24 #[.slice A a.length cA, .slice C b.length cC] w fun e w' => e = .returned (.slice (some ⟨w.heap.size, 0, none⟩) (a.length + 1) (a.length + 1)) ∧ Outer w w' a b 0 := by
  have hmkA : ∀ w : World, (Instr.makeSlice 56 (.int .i64 ((a.length : Int) + 1)) (.int .i64 ((a.length : Int) + 1))).run Tryz.prog w = .ok (.slice (some ⟨w.heap.size, 0, none⟩) (a.length + 1) (a.length + 1)) (w.alloc (.cells (madeCells #[.slice none 0 0] (a.length + 1)) 57)) :=
    run_make_row' (P := Tryz.prog) 56 57 (.slice none 0 0) 24 Tryz.underlying56 info57 rfl .i64 .i64 (a.length + 1) (by omega) (by omega)
  have hmkB : ∀ w : World, (Instr.makeSlice 57 (.int .i64 ((b.length : Int) + 1)) (.int .i64 ((b.length : Int) + 1))).run Tryz.prog w = .ok (.slice (some ⟨w.heap.size, 0, none⟩) (b.length + 1) (b.length + 1)) (w.alloc (.cells (madeCells #[.int .i64 0] (b.length + 1)) 3)) :=
    run_make_row' (P := Tryz.prog) 57 3 (.int .i64 0) 8 Tryz.underlying57 info3 rfl .i64 .i64 (b.length + 1) (by omega) (by omega)
  go_enter Tryz.func24, Tryz.ntmps24
  go_wp2
  go_loopg [6] (a.length + 1) (fun g i wr => g ≤ a.length + 1 ∧ i = .int .i64 ((g : Int) - 1) ∧ Outer w wr a b g)
  case atStart => exact ⟨by omega, by simp, outer_start w a b⟩
  case round =>
    obtain ⟨hg, rfl, hO⟩ := hrel
    by_cases hz : gk = 0
    · subst hz
      clear hmkA hmkB
      have HO := Lib.hid hO
      clear hO
      go_wp2
      go_ret
      exact ⟨rfl, HO.out⟩
    · obtain ⟨i, rfl⟩ : ∃ i, gk = i + 1 := ⟨gk - 1, by omega⟩
      have hil : i ≤ a.length := by omega
      have hsize := hO.size
      have hsz : wr.heap.size = w.heap.size + 1 + (a.length - i) := by omega
      clear hsize
      have hst1 : ∀ o, (wr.alloc o).cell? ⟨w.heap.size, i, none⟩ = some (topf w.heap.size a.length b.length (i + 1) i) := fun o => (hO.top.alloc o).cell (by omega)
      have hst2 : ∀ o, (wr.alloc o).frozen? ⟨w.heap.size, i, none⟩ = false := fun o => (hO.top.alloc o).frozen i
      have hI0 := Lib.hid (inner_start hil hO)
      have e1 : ((i + 1 : Nat) : Int) - 1 = (i : Int) := by omega
      rw [e1]
      clear e1 hO
      go_wp2
      clear hmkA hmkB hst1 hst2
      go_loopg [7] (b.length + 1) (fun g k wi => g ≤ b.length + 1 ∧ k = .int .i64 ((g : Int) - 1) ∧ Inner w wi a b i g)
      case atStart => exact ⟨by omega, by simp, hI0.out⟩
      case round =>
        obtain ⟨hgk, rfl, hI⟩ := hrel
        by_cases hz2 : gk = 0
        · subst hz2
          have HI := Lib.hid (inner_done hI)
          clear hI hI0
          as_aux_lemma =>
            go_wp2
            go_roundg i
            case measure => omega
            case rel => exact ⟨by omega, by go_num, HI.out⟩
        · obtain ⟨q, rfl⟩ : ∃ q, gk = q + 1 := ⟨gk - 1, by omega⟩
          have hql : q ≤ b.length := by omega
          have g1 : wr.cell? ⟨w.heap.size, i, none⟩ = some (.slice (some ⟨w.heap.size + 1 + (a.length - i), 0, none⟩) (b.length + 1) (b.length + 1)) := by simpa [topf] using hI.top.cell (i := i) (by omega)
          have g4 : wr.cell? ⟨w.heap.size + 1 + (a.length - i), q, none⟩ = some (.int .i64 0) := by
            have := hI.cur.cell (i := q) (by omega)
            rw [if_neg (by omega)] at this
            exact this
          have g5 : wr.frozen? ⟨w.heap.size + 1 + (a.length - i), q, none⟩ = false := hI.cur.frozen q
          have e1 : ((q + 1 : Nat) : Int) - 1 = (q : Int) := by omega
          rw [e1]
          clear e1
          by_cases hia : i = a.length
          · by_cases hqb : q = b.length
            · have H := Lib.hid (inner_step (v := 0) hil (by rw [hia, hqb, L_endA]; simp) hI)
              clear hI0 hI
              generalize w.heap.size + 1 + (a.length - i) = bi at *
              subst hia
              subst hqb
              as_aux_lemma =>
                go_wp2
                go_roundg b.length
                case measure => omega
                case rel => exact ⟨by omega, by go_num, H.out⟩
            · have d01 := hI.cur.cell (i := q + 1) (by omega)
              rw [if_pos (Nat.le_refl _), hia, L_endA] at d01
              have H := fun (v : Int) (hv : v = ((b.length - q : Nat) : Int)) => inner_step (v := v) hil (by rw [hia, L_endA]; exact hv) hI
              have HH := Lib.hid H
              clear H hI0 hI
              subst hia
              generalize w.heap.size + 1 + (a.length - a.length) = bi at *
              have e3 : ((b.length - (q + 1) : Nat) : Int) = (b.length : Int) - q - 1 := by omega
              rw [e3] at d01
              clear e3
              as_aux_lemma =>
                go_wp2
                all_goals go_roundg q
                all_goals first | omega | exact ⟨by omega, by go_num, HH.out _ (by omega)⟩
          · by_cases hqb : q = b.length
            · have g2 : wr.cell? ⟨w.heap.size, i + 1, none⟩ = some (.slice (some ⟨w.heap.size + 1 + (a.length - (i + 1)), 0, none⟩) (b.length + 1) (b.length + 1)) := by
                have := hI.top.cell (i := i + 1) (by omega)
                rw [this, topf, if_pos (by omega)]
              have d10 := (hI.done (i + 1) (Nat.le_refl _) (by omega)).cell (i := q) (by omega)
              rw [hqb, L_endB] at d10
              have H := fun (v : Int) (hv : v = ((a.length - i : Nat) : Int)) => inner_step (v := v) hil (by rw [hqb, L_endB]; exact hv) hI
              have HH := Lib.hid H
              clear H hI0 hI
              generalize w.heap.size + 1 + (a.length - i) = bi at *
              generalize w.heap.size + 1 + (a.length - (i + 1)) = bj at *
              subst hqb
              have e3 : ((a.length - (i + 1) : Nat) : Int) = (a.length : Int) - i - 1 := by omega
              rw [e3] at d10
              clear e3
              as_aux_lemma =>
                go_wp2
                all_goals go_roundg b.length
                all_goals first | omega | exact ⟨by omega, by go_num, HH.out _ (by omega)⟩
            · have hi' : i < a.length := by omega
              have hk' : q < b.length := by omega
              have g2 : wr.cell? ⟨w.heap.size, i + 1, none⟩ = some (.slice (some ⟨w.heap.size + 1 + (a.length - (i + 1)), 0, none⟩) (b.length + 1) (b.length + 1)) := by
                have := hI.top.cell (i := i + 1) (by omega)
                rw [this, topf, if_pos (by omega)]
              have d11 := (hI.done (i + 1) (Nat.le_refl _) (by omega)).cell (i := q + 1) (by omega)
              have d10 := (hI.done (i + 1) (Nat.le_refl _) (by omega)).cell (i := q) (by omega)
              have d01 := hI.cur.cell (i := q + 1) (by omega)
              rw [if_pos (Nat.le_refl _)] at d01
              obtain ⟨ad, rfl, had, ca⟩ := hA.at_ i hi'
              obtain ⟨cd, rfl, hcd, cb⟩ := hC.at_ q hk'
              rw [← hI.since.cell (by rw [block_add]; exact had)] at ca
              rw [← hI.since.cell (by rw [block_add]; exact hcd)] at cb
              have b11 := L_le a b (i + 1) (q + 1)
              have b10 := L_le a b (i + 1) q
              have b01 := L_le a b i (q + 1)
              have H := fun (v : Int) (hv : v = (L a b i q : Nat)) => inner_step (v := v) hil hv hI
              have hE := fun e => L_ref_eq hi' hk' e
              have hN := fun e => L_ref_ne hi' hk' e
              generalize w.heap.size + 1 + (a.length - i) = bi at *
              generalize w.heap.size + 1 + (a.length - (i + 1)) = bj at *
              generalize L a b (i + 1) (q + 1) = x11 at *
              generalize L a b (i + 1) q = x10 at *
              generalize L a b i (q + 1) = x01 at *
              generalize a[i] = sx at *
              generalize b[q] = sy at *
              have HH := Lib.hid H
              have HE := Lib.hid hE
              have HN := Lib.hid hN
              clear H hE hN hI hI0
              cases hq : (sx.toList == sy.toList)
              · have HQ := Lib.hid (eqS_false.1 hq)
                as_aux_lemma =>
                  go_wp2
                  all_goals go_quiet (fail)
                  all_goals go_wp2
                  all_goals go_roundg q
                  all_goals first | omega | exact ⟨by omega, by go_num, Inner.drewSet (HH.out _ (by have h0 := HN.out HQ.out; omega)) _⟩
              · have HQ := Lib.hid (eqS_iff.1 hq)
                as_aux_lemma =>
                  go_wp2
                  all_goals go_quiet (fail)
                  all_goals go_wp2
                  all_goals go_roundg q
                  all_goals first | omega | exact ⟨by omega, by go_num, Inner.drewSet (HH.out _ (by have h0 := HE.out HQ.out; omega)) _⟩
end Go.Proofs.YtgbjcphhcfmpgaaGreatDoor
