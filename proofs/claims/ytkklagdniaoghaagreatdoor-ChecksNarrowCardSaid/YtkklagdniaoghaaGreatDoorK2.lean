/- The walks of the sort: comparing, insertion. -/
import Derived.Test.YtkklagdniaoghaaGreatDoorChecked
import Derived.Test.YtkklagdniaoghaaGreatDoorK1
import Derived.WalkKit
import Derived.WalkSpells
import Derived.WalkLawsBesides
import Derived.IntWalk
import Derived.Deep.QuietTactic
import Derived.BigQuiet
import Derived.Deep.LoopGhost
import Derived.Deep.RegionHeld3
import Derived.Outline
import Derived.Test.YtkklagdniaoghaaGreatDoorH2
namespace Go.Proofs.YtkklagdniaoghaaGreatDoor
open Go.RowKit Go.Proofs.Rank Go.Sort

def qV (x : Qs) : Value := .agg #[.int .i64 (x.1.1 : Nat), .int .i64 (x.1.2 : Nat)]
/-- The method's value, its receiver bound. -/
def cmpV : Value := .func (.func 37) #[.agg #[]] #[]
theorem wrap_cross {a b : Nat} (ha : a ≤ 256000000) (hb : b ≤ 256000000) : IntKind.i64.wrap ((a : Int) * b) = ((a * b : Nat) : Int) ∧ a * b ≤ 65536000000000000 := by
  have h : a * b ≤ 256000000 * 256000000 := Nat.mul_le_mul ha hb
  refine ⟨?_, h⟩
  rw [← Int.natCast_mul]
  generalize a * b = q at h ⊢
  exact IntWalk.i64_in _ (by omega)
set_option maxHeartbeats 1600000 in
set_option maxRecDepth 100000 in
theorem cmp_says (x y : Qs) (w : World) : Calls Tryz.prog 37 #[.agg #[], qV x, qV y] w fun e w' => e = .returned (.int .i64 (cmpQ x.1 y.1)) ∧ w.Since w.heap.size w' := by
  obtain ⟨⟨a1, a2⟩, ha1, _, ha2⟩ := x
  obtain ⟨⟨b1, b2⟩, hb1, _, hb2⟩ := y
  simp only at ha1 ha2 hb1 hb2
  obtain ⟨ex, hx⟩ := wrap_cross ha1 hb2
  obtain ⟨ey, hy⟩ := wrap_cross hb1 ha2
  have HF : Hid (cmpQ (a1, a2) (b1, b2) = if a1 * b2 < b1 * a2 then -1 else if b1 * a2 < a1 * b2 then 1 else 0) := Lib.hid rfl
  unfold qV
  simp only
  rw [HF.out]
  clear HF
  generalize a1 * b2 = p at *
  generalize b1 * a2 = q at *
  have S0 : Hid (∀ n, w.Since w.heap.size ((((w.alloc (.cells #[] 72)).alloc (.cells #[.int .i64 a1, .int .i64 a2] 25)).alloc (.cells #[.int .i64 b1, .int .i64 b2] 25)).drewN n)) := Lib.hid (fun n => by
    have h := (((World.Since.refl w.heap.size w).alloc (Nat.le_refl _) (.cells #[] 72)).alloc (by simp) (.cells #[.int .i64 a1, .int .i64 a2] 25)).alloc (by simp; omega) (.cells #[.int .i64 b1, .int .i64 b2] 25)
    exact ⟨h.os, h.tape, h.output, h.size, h.block⟩)
  by_cases h1 : p < q
  · rw [if_pos h1]
    have h1i : (p : Int) < (q : Int) := by omega
    go_enter Tryz.func37, Tryz.ntmps37
    go_wp2_with fail
    go_quiet (fail)
    go_wp2_with fail
    go_ret
    exact ⟨rfl, S0.out _⟩
  · rw [if_neg h1]
    have h1i : ¬ (p : Int) < (q : Int) := by omega
    by_cases h2 : q < p
    · rw [if_pos h2]
      have h2i : (q : Int) < (p : Int) := by omega
      go_enter Tryz.func37, Tryz.ntmps37
      go_wp2_with fail
      go_quiet (fail)
      go_wp2_with fail
      go_ret
      exact ⟨rfl, S0.out _⟩
    · rw [if_neg h2]
      have h2i : ¬ (q : Int) < (p : Int) := by omega
      go_enter Tryz.func37, Tryz.ntmps37
      go_wp2_with fail
      go_quiet (fail)
      go_wp2_with fail
      go_ret
      exact ⟨rfl, S0.out _⟩
theorem insOuter_go {a b i : Nat} {d : Array Qs} (h : i < b) : insOuter ltQ a b i d = insOuter ltQ a b (i + 1) (insInner ltQ a i d) := by rw [insOuter, if_pos h]
theorem insOuter_end {a b i : Nat} {d : Array Qs} (h : ¬ i < b) : insOuter ltQ a b i d = d := by rw [insOuter, if_neg h]
theorem insInner_go {a j : Nat} {d : Array Qs} (h : a < j + 1) (hl : cmpQ d[j + 1]!.1 d[j]!.1 < 0) : insInner ltQ a (j + 1) d = insInner ltQ a j (swp d (j + 1) j) := by
  rw [insInner, if_pos]
  simp [ltQ, hl, h]
theorem insInner_end {a j : Nat} {d : Array Qs} (h : ¬ (a < j + 1 ∧ cmpQ d[j + 1]!.1 d[j]!.1 < 0)) : insInner ltQ a (j + 1) d = d := by
  rw [insInner, if_neg]
  simp only [Bool.and_eq_true, ltQ, decide_eq_true_eq]
  exact h
theorem cell_apart (W : World) (g a b : Nat) (v : Value) (h : a ≠ b) : (W.setCell ⟨g, a, none⟩ v).cell? ⟨g, b, none⟩ = W.cell? ⟨g, b, none⟩ := World.cell?_setCell_other _ _ _ _ (fun e => h (by injection e))
theorem insInner_stop (a : Nat) (d : Array Qs) : insInner ltQ a a d = d := by
  cases a with
  | zero => rfl
  | succ j => exact insInner_end (fun h => by omega)
theorem since_drewN {B : Nat} {w w' : World} (h : w.Since B w') : ∀ n, w.Since B (w'.drewN n) := fun _ => ⟨h.os, h.tape, h.output, h.size, h.block⟩
/-- What a function of the sort says: nothing, and the row is d'. -/
def SortSay (w0 : World) (g : Nat) (d' : Array Qs) (e : Ending) (w' : World) : Prop := e = .returned (.tuple #[]) ∧ RowQ w0 g d' w'
set_option maxHeartbeats 6400000 in
set_option maxRecDepth 1000000 in
theorem insertion_says (d0 : Array Qs) (a b g cap : Nat) (w0 w : World) (h : RowQ w0 g d0 w) (hab : a ≤ b) (hb : b ≤ d0.size) (hsz : d0.size ≤ 1000) :
    Calls Tryz.prog 83 #[.slice (some ⟨g, 0, none⟩) d0.size cap, .int .i64 a, .int .i64 b, cmpV] w (SortSay w0 g (insertionSort ltQ d0 a b)) := by
  have H0 := Lib.hid h
  have HI : Hid (insertionSort ltQ d0 a b = insOuter ltQ a b (a + 1) d0) := Lib.hid rfl
  generalize insertionSort ltQ d0 a b = D at *
  generalize hm : d0.size = m at *
  have HM := Lib.hid hm
  clear h hm
  unfold cmpV
  go_enter Tryz.func83, Tryz.ntmps83
  go_wp2_with fail
  go_loopg [8] (b - a) (fun gk i wr => ∃ (I : Nat) (d : Array Qs), a + 1 ≤ I ∧ (I ≤ b ∨ I = a + 1) ∧ gk = b - (I - 1) ∧ i = .int .i64 I ∧ Hid (d.size = m ∧ D = insOuter ltQ a b I d) ∧ Hid (RowQ w0 g d wr))
  case atStart => exact ⟨a + 1, d0, by omega, by omega, by omega, by go_num, Lib.hid ⟨HM.out, HI.out⟩, H0⟩
  case round =>
    obtain ⟨I, d, hI, hI2, rfl, rfl, hT, hR⟩ := hrel
    by_cases hlt : I < b
    · have hT1 : Hid (d.size = m ∧ D = insOuter ltQ a b (I + 1) (insInner ltQ a I d)) := Lib.hid ⟨hT.out.1, by rw [hT.out.2, insOuter_go hlt]⟩
      have hltI : (I : Int) < (b : Int) := by omega
      clear hT
      obtain ⟨E, hE⟩ : ∃ E, E = insInner ltQ a I d := ⟨_, rfl⟩
      rw [← hE] at hT1
      have HE := Lib.hid hE
      clear hE
      go_wp2_with fail
      have hx : Hid (d.size = m) := Lib.hid hT1.out.1
      go_loopg [9] I (fun gk j wq => ∃ (J : Nat) (d : Array Qs), a ≤ J ∧ J ≤ I ∧ gk = J ∧ j = .int .i64 J ∧ Hid (d.size = m ∧ E = insInner ltQ a J d) ∧ Hid (RowQ w0 g d wq))
      case atStart => exact ⟨I, d, by omega, by omega, rfl, rfl, Lib.hid ⟨hx.out, HE.out⟩, hR⟩
      case round =>
        obtain ⟨J, d, hJ, hJ2, rfl, rfl, hT, hR⟩ := hrel
        by_cases hgt : a < gk
        · obtain ⟨J', rfl⟩ : ∃ k, gk = k + 1 := ⟨gk - 1, by omega⟩
          have hds := hT.out.1
          have hgtI : (a : Int) < (J' : Int) + 1 := by omega
          have z1 : IntKind.i64.wrap ((J' : Int) + 1 - 1) = (J' : Int) := IntWalk.i64_in _ (by omega) |>.trans (by omega)
          have z1b : IntKind.i64.wrap (J' : Int) = (J' : Int) := IntWalk.i64_in _ (by omega)
          have z2 : (0 : Int) ≤ (J' : Int) + 1 := by omega
          have z3 : ((J' : Int) + 1) < (m : Int) := by omega
          have z4 : J' < m := by omega
          have z4b : decide (J' < m) = true := by simp; omega
          have z5 : ((J' : Int) + 1).toNat = J' + 1 := by omega
          have q0 := hR.out.c0 (J' + 1) (by omega)
          have q1 := hR.out.c1 (J' + 1) (by omega)
          have q2 := hR.out.c0 J' (by omega)
          have q3 := hR.out.c1 J' (by omega)
          have KC := Lib.hid (fun wx => cmp_says d[J' + 1]! d[J']! wx)
          have HG := Lib.hid (insInner_go (a := a) (j := J') (d := d) hgt)
          have HN := Lib.hid (insInner_end (a := a) (j := J') (d := d))
          have HS := Lib.hid (fun wx (h : RowQ w0 g d wx) => h.swap (i := J' + 1) (j := J') (by omega) (by omega))
          unfold qV at KC
          generalize cmpQ d[J' + 1]!.1 d[J']!.1 = c at *
          have QQ := Lib.hid (And.intro (And.intro q0 q1) (And.intro q2 q3))
          clear hds
          by_cases hc : c < 0
          · have HE2 : Hid (E = insInner ltQ a J' (swp d (J' + 1) J')) := Lib.hid (by rw [hT.out.2, HG.out hc])
            clear HG HN
            go_wp2_with fail
            go_region_held3 (fun w' => (w'.cell? ⟨g, (J' + 1) * 2, none⟩ = some (.int .i64 (d[J' + 1]!.1.1 : Nat)) ∧ w'.cell? ⟨g, (J' + 1) * 2 + 1, none⟩ = some (.int .i64 (d[J' + 1]!.1.2 : Nat))) ∧ (w'.cell? ⟨g, (J') * 2, none⟩ = some (.int .i64 (d[J']!.1.1 : Nat)) ∧ w'.cell? ⟨g, (J') * 2 + 1, none⟩ = some (.int .i64 (d[J']!.1.2 : Nat))))
              (first
                | exact QQ.out
                | exact Q2.out)
              (first
                | (go_at_call 37; refine (KC.out _).mono ?_; rintro e w2 ⟨rfl, hs⟩; have R2 := Lib.hid (hR.out.drew.since hs); have Q2 := Lib.hid (And.intro (And.intro (R2.out.c0 (J' + 1) (by have := hT.out.1; omega)) (R2.out.c1 (J' + 1) (by have := hT.out.1; omega))) (And.intro (R2.out.c0 J' (by have := hT.out.1; omega)) (R2.out.c1 J' (by have := hT.out.1; omega)))); clear hs))
            go_wp2_with fail
            have R2 := Lib.hid R2.out
            have n1 : ∀ (W : World) v, (W.setCell ⟨g, (J' + 1) * 2, none⟩ v).cell? ⟨g, J' * 2, none⟩ = W.cell? ⟨g, J' * 2, none⟩ := fun W v => cell_apart W g _ _ v (by omega)
            have n2 : ∀ (W : World) v, (W.setCell ⟨g, (J' + 1) * 2 + 1, none⟩ v).cell? ⟨g, J' * 2, none⟩ = W.cell? ⟨g, J' * 2, none⟩ := fun W v => cell_apart W g _ _ v (by omega)
            have n3 : ∀ (W : World) v, (W.setCell ⟨g, (J' + 1) * 2, none⟩ v).cell? ⟨g, J' * 2 + 1, none⟩ = W.cell? ⟨g, J' * 2 + 1, none⟩ := fun W v => cell_apart W g _ _ v (by omega)
            have n4 : ∀ (W : World) v, (W.setCell ⟨g, (J' + 1) * 2 + 1, none⟩ v).cell? ⟨g, J' * 2 + 1, none⟩ = W.cell? ⟨g, J' * 2 + 1, none⟩ := fun W v => cell_apart W g _ _ v (by omega)
            have k0 := Q2.out.1.1
            have k1 := Q2.out.1.2
            have k2 := Q2.out.2.1
            have k3 := Q2.out.2.2
            have f0 := R2.out.fz ((J' + 1) * 2)
            have f1 := R2.out.fz ((J' + 1) * 2 + 1)
            have f2 := R2.out.fz (J' * 2)
            have f3 := R2.out.fz (J' * 2 + 1)
            refine wp_region_free (fun w' => (w'.cell? ⟨g, (J' + 1) * 2, none⟩ = some (.int .i64 (d[J' + 1]!.1.1 : Nat)) ∧ w'.cell? ⟨g, (J' + 1) * 2 + 1, none⟩ = some (.int .i64 (d[J' + 1]!.1.2 : Nat))) ∧ (w'.cell? ⟨g, (J') * 2, none⟩ = some (.int .i64 (d[J']!.1.1 : Nat)) ∧ w'.cell? ⟨g, (J') * 2 + 1, none⟩ = some (.int .i64 (d[J']!.1.2 : Nat)))) [15, 17] (by kernel_rfl) Q2.out (fun hSL => ?_)
            refine wpAnyFree_free 0 (v := ?_) rfl (by kernel_rfl) (by kernel_rfl) (by kernel_rfl) (fun _ _ _ h => h) (by rfl) (fun w' => ?_) ?_
            rotate_left
            · go_simp
              all_goals rfl
            try simp only [Act.put]
            try simp only [List.setIfInBounds_toArray]
            try simp only [List.set_cons_succ, List.set_cons_zero]
            refine wpAnyFree_free 1 (v := ?_) rfl (by kernel_rfl) (by kernel_rfl) (by kernel_rfl) (fun _ _ _ h => h) (by rfl) (fun w' => ?_) ?_
            rotate_left
            · go_simp
              all_goals rfl
            try simp only [Act.put]
            try simp only [List.setIfInBounds_toArray]
            try simp only [List.set_cons_succ, List.set_cons_zero]
            refine wpAnyFree_free 2 (v := ?_) rfl (by kernel_rfl) (by kernel_rfl) (by kernel_rfl) (fun _ _ _ h => h) (by rfl) (fun w' => ?_) ?_
            rotate_left
            · go_simp
              all_goals rfl
            try simp only [Act.put]
            try simp only [List.setIfInBounds_toArray]
            try simp only [List.set_cons_succ, List.set_cons_zero]
            refine wpAnyFree_free 3 (v := ?_) rfl (by kernel_rfl) (by kernel_rfl) (by kernel_rfl) (fun _ _ _ h => h) (by rfl) (fun w' => ?_) ?_
            rotate_left
            · go_simp
              all_goals rfl
            try simp only [Act.put]
            try simp only [List.setIfInBounds_toArray]
            try simp only [List.set_cons_succ, List.set_cons_zero]
            refine wpAnyFree_free 4 (v := ?_) rfl (by kernel_rfl) (by kernel_rfl) (by kernel_rfl) (fun _ _ _ h => h) (by rfl) (fun w' => ?_) ?_
            rotate_left
            · go_simp
              all_goals rfl
            try simp only [Act.put]
            try simp only [List.setIfInBounds_toArray]
            try simp only [List.set_cons_succ, List.set_cons_zero]
            refine wpAnyFree_free 5 (v := ?_) rfl (by kernel_rfl) (by kernel_rfl) (by kernel_rfl) (fun _ _ _ h => h) (by rfl) (fun w' => ?_) ?_
            rotate_left
            · go_simp
              all_goals rfl
            try simp only [Act.put]
            try simp only [List.setIfInBounds_toArray]
            try simp only [List.set_cons_succ, List.set_cons_zero]
            refine wpAnyFree_free 6 (v := ?_) rfl (by kernel_rfl) (by kernel_rfl) (by kernel_rfl) (fun _ _ _ h => h) (by rfl) (fun w' => ?_) ?_
            rotate_left
            · go_simp
              all_goals rfl
            try simp only [Act.put]
            try simp only [List.setIfInBounds_toArray]
            try simp only [List.set_cons_succ, List.set_cons_zero]
            refine wpAnyFree_free 7 (v := ?_) rfl (by kernel_rfl) (by kernel_rfl) (by kernel_rfl) (fun _ _ _ h => h) (by rfl) (fun w' => ?_) ?_
            rotate_left
            · go_simp
              all_goals rfl
            try simp only [Act.put]
            try simp only [List.setIfInBounds_toArray]
            try simp only [List.set_cons_succ, List.set_cons_zero]
            refine wpAnyFree_free 8 (v := ?_) rfl (by kernel_rfl) (by kernel_rfl) (by kernel_rfl) (fun _ _ _ h => h) (by rfl) (fun w' => ?_) ?_
            rotate_left
            · go_simp
              all_goals rfl
            try simp only [Act.put]
            try simp only [List.setIfInBounds_toArray]
            try simp only [List.set_cons_succ, List.set_cons_zero]
            refine wpAnyFree_take 9 (v := ?_) rfl (by kernel_rfl) (by kernel_rfl) (by kernel_rfl) (by kernel_rfl) (by kernel_rfl) (fun _ _ _ h => h) hSL (by rfl) (fun w' hw' => ?_) ?_
            rotate_left
            · obtain ⟨⟨g0, g1⟩, g2, g3⟩ := hw'
              go_simp
              all_goals rfl
            try simp only [Act.put]
            try simp only [List.setIfInBounds_toArray]
            try simp only [List.set_cons_succ, List.set_cons_zero]
            refine wpAnyFree_free 10 (v := ?_) rfl (by kernel_rfl) (by kernel_rfl) (by kernel_rfl) (fun _ _ _ h => h) (by rfl) (fun w' => ?_) ?_
            rotate_left
            · go_simp
              all_goals rfl
            try simp only [Act.put]
            try simp only [List.setIfInBounds_toArray]
            try simp only [List.set_cons_succ, List.set_cons_zero]
            refine wpAnyFree_free 11 (v := ?_) rfl (by kernel_rfl) (by kernel_rfl) (by kernel_rfl) (fun _ _ _ h => h) (by rfl) (fun w' => ?_) ?_
            rotate_left
            · go_simp
              all_goals rfl
            try simp only [Act.put]
            try simp only [List.setIfInBounds_toArray]
            try simp only [List.set_cons_succ, List.set_cons_zero]
            refine wpAnyFree_free 12 (v := ?_) rfl (by kernel_rfl) (by kernel_rfl) (by kernel_rfl) (fun _ _ _ h => h) (by rfl) (fun w' => ?_) ?_
            rotate_left
            · go_simp
              all_goals rfl
            try simp only [Act.put]
            try simp only [List.setIfInBounds_toArray]
            try simp only [List.set_cons_succ, List.set_cons_zero]
            refine wpAnyFree_take 13 (v := ?_) rfl (by kernel_rfl) (by kernel_rfl) (by kernel_rfl) (by kernel_rfl) (by kernel_rfl) (fun _ _ _ h => h) hSL (by rfl) (fun w' hw' => ?_) ?_
            rotate_left
            · obtain ⟨⟨g0, g1⟩, g2, g3⟩ := hw'
              go_simp
              all_goals rfl
            try simp only [Act.put]
            try simp only [List.setIfInBounds_toArray]
            try simp only [List.set_cons_succ, List.set_cons_zero]
            refine wpAnyFree_free 14 (v := ?_) rfl (by kernel_rfl) (by kernel_rfl) (by kernel_rfl) (fun _ _ _ h => h) (by rfl) (fun w' => ?_) ?_
            rotate_left
            · go_simp
              all_goals rfl
            try simp only [Act.put]
            try simp only [List.setIfInBounds_toArray]
            try simp only [List.set_cons_succ, List.set_cons_zero]
            refine wpAnyFree_late 15 (by kernel_rfl) (by kernel_rfl) rfl (by rfl) (fun K hK => ?_)
            go_simp
            refine hK.out _ _ ?_
            clear hK K
            try simp only [Act.put]
            try simp only [List.setIfInBounds_toArray]
            try simp only [List.set_cons_succ, List.set_cons_zero]
            refine wpAnyFree_free 16 (v := ?_) rfl (by kernel_rfl) (by kernel_rfl) (by kernel_rfl) (fun _ _ _ h => h) (by rfl) (fun w' => ?_) ?_
            rotate_left
            · go_simp
              all_goals rfl
            try simp only [Act.put]
            try simp only [List.setIfInBounds_toArray]
            try simp only [List.set_cons_succ, List.set_cons_zero]
            refine wpAnyFree_late 17 (by kernel_rfl) (by kernel_rfl) rfl (by rfl) (fun K hK => ?_)
            go_simp
            refine hK.out _ _ ?_
            clear hK K
            try simp only [Act.put]
            try simp only [List.setIfInBounds_toArray]
            try simp only [List.set_cons_succ, List.set_cons_zero]
            refine wpAnyFree_done (by kernel_rfl) ?_ _
            have R3 : Hid (RowQ w0 g (swp d (J' + 1) J') (swpW w2 g (J' + 1) J' d[J']! d[J' + 1]!).drew) := Lib.hid ((R2.out.swap (i := J' + 1) (j := J') (by have := hT.out.1; omega) (by have := hT.out.1; omega)).drew)
            clear n1 n2 n3 n4 k0 k1 k2 k3 f0 f1 f2 f3 hSL
            go_wp2_with fail
            go_roundg J'
            case measure => omega
            case rel => exact ⟨J', swp d (J' + 1) J', by omega, by omega, rfl, rfl, Lib.hid ⟨(size_swp d _ _).trans hT.out.1, HE2.out⟩, R3⟩
          · have HE2 : Hid (E = d) := Lib.hid (by rw [hT.out.2, HN.out (fun h => hc h.2)])
            have hci : 0 ≤ c := by omega
            clear HG HN
            go_wp2_with fail
            go_region_held3 (fun w' => (w'.cell? ⟨g, (J' + 1) * 2, none⟩ = some (.int .i64 (d[J' + 1]!.1.1 : Nat)) ∧ w'.cell? ⟨g, (J' + 1) * 2 + 1, none⟩ = some (.int .i64 (d[J' + 1]!.1.2 : Nat))) ∧ (w'.cell? ⟨g, (J') * 2, none⟩ = some (.int .i64 (d[J']!.1.1 : Nat)) ∧ w'.cell? ⟨g, (J') * 2 + 1, none⟩ = some (.int .i64 (d[J']!.1.2 : Nat))))
              (first
                | exact QQ.out
                | exact Q2.out)
              (first
                | (go_at_call 37; refine (KC.out _).mono ?_; rintro e w2 ⟨rfl, hs⟩; have R2 := Lib.hid (hR.out.drew.since hs); have Q2 := Lib.hid (And.intro (And.intro (R2.out.c0 (J' + 1) (by have := hT.out.1; omega)) (R2.out.c1 (J' + 1) (by have := hT.out.1; omega))) (And.intro (R2.out.c0 J' (by have := hT.out.1; omega)) (R2.out.c1 J' (by have := hT.out.1; omega)))); clear hs))
            go_wp2_with fail
            go_roundg (b - I)
            case measure => omega
            case rel => exact ⟨I + 1, d, by omega, by omega, by omega, by go_num, Lib.hid ⟨hT.out.1, by rw [hT1.out.2, HE2.out]⟩, R2⟩
        · obtain rfl : gk = a := by omega
          have HE2 : Hid (E = d) := Lib.hid (by rw [hT.out.2]; exact insInner_stop _ _)
          have hgtI : ¬ (gk : Int) < (gk : Int) := by omega
          have hgtb : decide ((gk : Int) < (gk : Int)) = false := by simp
          go_wp2_with fail
          go_quiet (fail)
          go_wp2_with fail
          go_roundg (b - I)
          case measure => omega
          case rel => exact ⟨I + 1, d, by omega, by omega, by omega, by go_num, Lib.hid ⟨hT.out.1, by rw [hT1.out.2, HE2.out]⟩, Lib.hid (hR.out.since (since_drewN (World.Since.refl _ _) _))⟩
    · have hltI : ¬ (I : Int) < (b : Int) := by omega
      have HE2 : Hid (D = d) := Lib.hid (by rw [hT.out.2, insOuter_end hlt])
      clear hT
      go_wp2_with fail
      go_end0
      exact ⟨rfl, by rw [HE2.out]; exact hR.out⟩
end Go.Proofs.YtkklagdniaoghaaGreatDoor
