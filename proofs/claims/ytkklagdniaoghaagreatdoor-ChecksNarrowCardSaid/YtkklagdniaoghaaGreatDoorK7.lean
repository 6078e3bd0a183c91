/- The walks of the sort: parting off what equals the pivot. -/
import Derived.Test.YtkklagdniaoghaaGreatDoorKA
import Derived.Deep.Cut
import Derived.Deep.CutRange
import Derived.Deep.CutBlock
namespace Go.Proofs.YtkklagdniaoghaaGreatDoor
open Go.RowKit Go.Proofs.Rank Go.Sort

theorem scanUp_go {p : Qs → Bool} {d : Array Qs} {j i : Nat} (h : i ≤ j) (hp : p d[i]! = true) : scanUp p d j i = scanUp p d j (i + 1) := by
  rw [scanUp, if_pos (by simp [h, hp])]
theorem scanUp_stop {p : Qs → Bool} {d : Array Qs} {j i : Nat} (h : ¬ (i ≤ j ∧ p d[i]! = true)) : scanUp p d j i = i := by
  rw [scanUp, if_neg (by simpa only [Bool.and_eq_true, decide_eq_true_eq] using h)]
theorem scanDown_go {p : Qs → Bool} {d : Array Qs} {i j : Nat} (hi : 1 ≤ i) (h : i ≤ j) (hp : p d[j]! = true) : scanDown p d i j = scanDown p d i (j - 1) := by
  obtain ⟨k, rfl⟩ : ∃ k, j = k + 1 := ⟨j - 1, by omega⟩
  rw [scanDown, if_pos (by simp [h, hp]), Nat.add_sub_cancel]
theorem scanDown_stop {p : Qs → Bool} {d : Array Qs} {i j : Nat} (h : ¬ (i ≤ j ∧ p d[j]! = true)) : scanDown p d i j = j := by
  cases j with
  | zero => rfl
  | succ k => rw [scanDown, if_neg (by simpa only [Bool.and_eq_true, decide_eq_true_eq] using h)]
theorem pc_iff (x y : Qs) : (cmpQ x.1 y.1 < 0 → ltQ x y = true) ∧ (¬ cmpQ x.1 y.1 < 0 → ltQ x y = false) := ⟨fun h => decide_eq_true h, fun h => decide_eq_false h⟩
theorem partEq_step {a I J X Y : Nat} {d : Array Qs} (hX : X = scanUp (fun x => !ltQ d[a]! x) d J I) (hY : Y = scanDown (fun x => ltQ d[a]! x) d X J) (_h1 : 1 ≤ I) (h2 : I ≤ X) (h3 : Y ≤ J) :
    partEqLoop ltQ a I J d = if Y < X then (X, d) else partEqLoop ltQ a (X + 1) (Y - 1) (swp d X Y) := by
  rw [partEqLoop, ← hX]
  simp only [← hY]
  by_cases h : Y < X
  · rw [if_pos h, if_pos h]
  · rw [if_neg h, if_neg h, dif_pos (by omega)]
def EqSay (w0 : World) (g : Nat) (r : Nat × Array Qs) (e : Ending) (w' : World) : Prop := e = .returned (.int .i64 (r.1 : Nat)) ∧ RowQ w0 g r.2 w'
set_option maxHeartbeats 6400000 in
set_option maxRecDepth 1000000 in
theorem partEq_says (d : Array Qs) (a b pv g cap m : Nat) (w0 w : World) (h : RowQ w0 g d w) (hm : d.size = m) (hap : a ≤ pv) (hpb : pv < b) (hb : b ≤ m) (hsz : m ≤ 1000) :
    Calls Tryz.prog 89 #[.slice (some ⟨g, 0, none⟩) m cap, .int .i64 a, .int .i64 b, .int .i64 pv, cmpV] w (EqSay w0 g (partitionEqual ltQ d a b pv)) := by
  have hR := Lib.hid h
  have HZ := Lib.hid hm
  obtain ⟨E, hE⟩ : ∃ E, E = partitionEqual ltQ d a b pv := ⟨_, rfl⟩
  rw [← hE]
  have HE : Hid (E = partEqLoop ltQ a (a + 1) (b - 1) (swp d a pv)) := Lib.hid hE
  clear h hm hE
  have ya : a < m := by omega
  have yp : pv < m := by omega
  have yab : decide (a < m) = true := by simp; omega
  have ypb : decide (pv < m) = true := by simp; omega
  unfold cmpV
  go_enter Tryz.func89, Tryz.ntmps89
  go_wp2_with fail
  obtain ⟨u0, e0⟩ := hR.out.mid0 (i := a) (j := pv) (by have := HZ.out; omega) (.int .i64 (d[pv]!.1.1 : Nat)) (.int .i64 (d[pv]!.1.2 : Nat))
  obtain ⟨u1, e1⟩ := hR.out.mid1 (i := a) (j := pv) (by have := HZ.out; omega) (.int .i64 (d[pv]!.1.1 : Nat)) (.int .i64 (d[pv]!.1.2 : Nat)) (.int .i64 (d[a]!.1.1 : Nat))
  have QS := Lib.hid (And.intro (And.intro (hR.out.c0 (a) (by have := HZ.out; omega)) (hR.out.c1 (a) (by have := HZ.out; omega))) (And.intro (hR.out.c0 (pv) (by have := HZ.out; omega)) (hR.out.c1 (pv) (by have := HZ.out; omega))))
  have k0 := QS.out.1.1
  have k1 := QS.out.1.2
  have k2 := QS.out.2.1
  have k3 := QS.out.2.2
  have f0 := hR.out.fz ((a) * 2)
  have f1 := hR.out.fz ((a) * 2 + 1)
  have f2 := hR.out.fz ((pv) * 2)
  have f3 := hR.out.fz ((pv) * 2 + 1)
  refine wp_region_free (fun w' => (w'.cell? ⟨g, (a) * 2, none⟩ = some (.int .i64 (d[a]!.1.1 : Nat)) ∧ w'.cell? ⟨g, (a) * 2 + 1, none⟩ = some (.int .i64 (d[a]!.1.2 : Nat))) ∧ (w'.cell? ⟨g, (pv) * 2, none⟩ = some (.int .i64 (d[pv]!.1.1 : Nat)) ∧ w'.cell? ⟨g, (pv) * 2 + 1, none⟩ = some (.int .i64 (d[pv]!.1.2 : Nat)))) [13, 15] (by kernel_rfl) QS.out (fun hSL => ?_)
  refine wpAnyFree_free 0 (v := ?_) rfl (by kernel_rfl) (by kernel_rfl) (by kernel_rfl) (fun _ _ _ h => h) (by rfl) (fun w' => ?_) ?_
  rotate_left
  · go_simp
    all_goals rfl
  try simp only [Act.put]
  try simp only [List.setIfInBounds_toArray]
  try simp only [List.set_cons_succ, List.set_cons_zero]
  refine wpAnyFree_free 1 (v := ?_) rfl (by kernel_rfl) (by kernel_rfl) (by kernel_rfl) (fun _ _ _ h => h) (by rfl) (fun w' => ?_) ?_
  rotate_left
  · go_simp
    all_goals rfl
  try simp only [Act.put]
  try simp only [List.setIfInBounds_toArray]
  try simp only [List.set_cons_succ, List.set_cons_zero]
  refine wpAnyFree_free 2 (v := ?_) rfl (by kernel_rfl) (by kernel_rfl) (by kernel_rfl) (fun _ _ _ h => h) (by rfl) (fun w' => ?_) ?_
  rotate_left
  · go_simp
    all_goals rfl
  try simp only [Act.put]
  try simp only [List.setIfInBounds_toArray]
  try simp only [List.set_cons_succ, List.set_cons_zero]
  refine wpAnyFree_free 3 (v := ?_) rfl (by kernel_rfl) (by kernel_rfl) (by kernel_rfl) (fun _ _ _ h => h) (by rfl) (fun w' => ?_) ?_
  rotate_left
  · go_simp
    all_goals rfl
  try simp only [Act.put]
  try simp only [List.setIfInBounds_toArray]
  try simp only [List.set_cons_succ, List.set_cons_zero]
  refine wpAnyFree_free 4 (v := ?_) rfl (by kernel_rfl) (by kernel_rfl) (by kernel_rfl) (fun _ _ _ h => h) (by rfl) (fun w' => ?_) ?_
  rotate_left
  · go_simp
    all_goals rfl
  try simp only [Act.put]
  try simp only [List.setIfInBounds_toArray]
  try simp only [List.set_cons_succ, List.set_cons_zero]
  refine wpAnyFree_free 5 (v := ?_) rfl (by kernel_rfl) (by kernel_rfl) (by kernel_rfl) (fun _ _ _ h => h) (by rfl) (fun w' => ?_) ?_
  rotate_left
  · go_simp
    all_goals rfl
  try simp only [Act.put]
  try simp only [List.setIfInBounds_toArray]
  try simp only [List.set_cons_succ, List.set_cons_zero]
  refine wpAnyFree_free 6 (v := ?_) rfl (by kernel_rfl) (by kernel_rfl) (by kernel_rfl) (fun _ _ _ h => h) (by rfl) (fun w' => ?_) ?_
  rotate_left
  · go_simp
    all_goals rfl
  try simp only [Act.put]
  try simp only [List.setIfInBounds_toArray]
  try simp only [List.set_cons_succ, List.set_cons_zero]
  refine wpAnyFree_take 7 (v := ?_) rfl (by kernel_rfl) (by kernel_rfl) (by kernel_rfl) (by kernel_rfl) (by kernel_rfl) (fun _ _ _ h => h) hSL (by rfl) (fun w' hw' => ?_) ?_
  rotate_left
  · obtain ⟨⟨g0, g1⟩, g2, g3⟩ := hw'
    go_simp
    all_goals rfl
  try simp only [Act.put]
  try simp only [List.setIfInBounds_toArray]
  try simp only [List.set_cons_succ, List.set_cons_zero]
  refine wpAnyFree_free 8 (v := ?_) rfl (by kernel_rfl) (by kernel_rfl) (by kernel_rfl) (fun _ _ _ h => h) (by rfl) (fun w' => ?_) ?_
  rotate_left
  · go_simp
    all_goals rfl
  try simp only [Act.put]
  try simp only [List.setIfInBounds_toArray]
  try simp only [List.set_cons_succ, List.set_cons_zero]
  refine wpAnyFree_free 9 (v := ?_) rfl (by kernel_rfl) (by kernel_rfl) (by kernel_rfl) (fun _ _ _ h => h) (by rfl) (fun w' => ?_) ?_
  rotate_left
  · go_simp
    all_goals rfl
  try simp only [Act.put]
  try simp only [List.setIfInBounds_toArray]
  try simp only [List.set_cons_succ, List.set_cons_zero]
  refine wpAnyFree_free 10 (v := ?_) rfl (by kernel_rfl) (by kernel_rfl) (by kernel_rfl) (fun _ _ _ h => h) (by rfl) (fun w' => ?_) ?_
  rotate_left
  · go_simp
    all_goals rfl
  try simp only [Act.put]
  try simp only [List.setIfInBounds_toArray]
  try simp only [List.set_cons_succ, List.set_cons_zero]
  refine wpAnyFree_take 11 (v := ?_) rfl (by kernel_rfl) (by kernel_rfl) (by kernel_rfl) (by kernel_rfl) (by kernel_rfl) (fun _ _ _ h => h) hSL (by rfl) (fun w' hw' => ?_) ?_
  rotate_left
  · obtain ⟨⟨g0, g1⟩, g2, g3⟩ := hw'
    go_simp
    all_goals rfl
  try simp only [Act.put]
  try simp only [List.setIfInBounds_toArray]
  try simp only [List.set_cons_succ, List.set_cons_zero]
  refine wpAnyFree_free 12 (v := ?_) rfl (by kernel_rfl) (by kernel_rfl) (by kernel_rfl) (fun _ _ _ h => h) (by rfl) (fun w' => ?_) ?_
  rotate_left
  · go_simp
    all_goals rfl
  try simp only [Act.put]
  try simp only [List.setIfInBounds_toArray]
  try simp only [List.set_cons_succ, List.set_cons_zero]
  refine wpAnyFree_late 13 (by kernel_rfl) (by kernel_rfl) rfl (by rfl) (fun K hK => ?_)
  go_simp
  refine hK.out _ _ ?_
  clear hK K
  try simp only [Act.put]
  try simp only [List.setIfInBounds_toArray]
  try simp only [List.set_cons_succ, List.set_cons_zero]
  refine wpAnyFree_free 14 (v := ?_) rfl (by kernel_rfl) (by kernel_rfl) (by kernel_rfl) (fun _ _ _ h => h) (by rfl) (fun w' => ?_) ?_
  rotate_left
  · go_simp
    all_goals rfl
  try simp only [Act.put]
  try simp only [List.setIfInBounds_toArray]
  try simp only [List.set_cons_succ, List.set_cons_zero]
  refine wpAnyFree_late 15 (by kernel_rfl) (by kernel_rfl) rfl (by rfl) (fun K hK => ?_)
  go_simp
  refine hK.out _ _ ?_
  clear hK K
  try simp only [Act.put]
  try simp only [List.setIfInBounds_toArray]
  try simp only [List.set_cons_succ, List.set_cons_zero]
  refine wpAnyFree_done (by kernel_rfl) ?_ _
  have R3 : Hid (RowQ w0 g (swp d (a) (pv)) (swpW w g (a) (pv) d[pv]! d[a]!).drew) := Lib.hid ((hR.out.swap (i := a) (j := pv) (by have := HZ.out; omega) (by have := HZ.out; omega)).drew)
  clear e0 e1 k0 k1 k2 k3 f0 f1 f2 f3 hSL QS
  go_wp2_with fail
  have h0 : Hid ((swp d a pv).size = m) := Lib.hid ((size_swp d _ _).trans HZ.out)
  go_loopg [11, 12] (b - 1 + 1 - (a + 1)) (fun gk i j wr => ∃ (I J : Nat) (d : Array Qs), a + 1 ≤ I ∧ I ≤ J + 2 ∧ J + 1 ≤ b ∧ gk = J + 1 - I ∧ i = .int .i64 I ∧ j = .int .i64 J ∧ Hid (d.size = m) ∧ Hid (E = partEqLoop ltQ a I J d) ∧ Hid (RowQ w0 g d wr))
  case atStart => exact ⟨a + 1, b - 1, swp d a pv, by omega, by omega, by omega, rfl, by go_num, by congr 1; omega, h0, HE, R3⟩
  case round =>
    clear HE R3 hR HZ
    clear h0
    obtain ⟨I, J, d, hI, hIJ, hJ, rfl, rfl, rfl, HZ, hT, hR⟩ := hrel
    go_upto_block 2 with fail
    go_cut [11] from 31 to 88 (fun v w' => ∃ X : Nat, v = .int .i64 X ∧ I ≤ X ∧ X ≤ J + 2 ∧ Hid (X = scanUp (fun x => !ltQ d[a]! x) d J I) ∧ Hid (RowQ w0 g d w'))
    case first =>
      go_wp2_with fail
      go_loopg [11] (J + 1 - I) (fun gk i wr => ∃ X : Nat, I ≤ X ∧ X ≤ J + 2 ∧ gk = J + 1 - X ∧ i = .int .i64 X ∧ Hid (scanUp (fun x => !ltQ d[a]! x) d J I = scanUp (fun x => !ltQ d[a]! x) d J X) ∧ Hid (RowQ w0 g d wr))
      case atStart => exact ⟨I, by omega, by omega, rfl, rfl, Lib.hid rfl, hR⟩
      case round =>
        clear hR
        obtain ⟨X, hX1, hX2, rfl, rfl, hT, hR⟩ := hrel
        by_cases hx : X ≤ J
        · have hxi : (X : Int) ≤ (J : Int) := by omega
          have y1 : X < m := by omega
          have y1b : decide (X < m) = true := by simp; omega
          have KC := Lib.hid (fun wx => cmp_says d[a]! d[X]! wx)
          have HG := Lib.hid (fun h => scanUp_go (p := fun x => !ltQ d[a]! x) (d := d) hx h)
          have HN := Lib.hid (fun h => scanUp_stop (p := fun x => !ltQ d[a]! x) (d := d) (j := J) (i := X) h)
          have HPc := Lib.hid (pc_iff d[a]! d[X]!)
          unfold qV at KC
          generalize cmpQ d[a]!.1 d[X]!.1 = c at *
          by_cases hc : c < 0
          · have hcb : decide (c < 0) = true := decide_eq_true hc
            have hpv := HPc.out.1 hc
            have HE := Lib.hid ((hT.out.trans (HN.out (fun h => by have h2 := h.2; simp only [hpv] at h2; cases h2))).symm)
            clear HG HN HPc hpv
            go_wp2_with fail
            have QQ := Lib.hid (And.intro (And.intro (hR.out.c0 (a) (by have := HZ.out; omega)) (hR.out.c1 (a) (by have := HZ.out; omega))) (And.intro (hR.out.c0 (X) (by have := HZ.out; omega)) (hR.out.c1 (X) (by have := HZ.out; omega))))
            go_region_held3 (fun w' => (w'.cell? ⟨g, (a) * 2, none⟩ = some (.int .i64 (d[a]!.1.1 : Nat)) ∧ w'.cell? ⟨g, (a) * 2 + 1, none⟩ = some (.int .i64 (d[a]!.1.2 : Nat))) ∧ (w'.cell? ⟨g, (X) * 2, none⟩ = some (.int .i64 (d[X]!.1.1 : Nat)) ∧ w'.cell? ⟨g, (X) * 2 + 1, none⟩ = some (.int .i64 (d[X]!.1.2 : Nat))))
              (first
                | exact QQ.out
                | exact Q2.out)
              (first
                | (go_at_call 37; refine (KC.out _).mono ?_; rintro e w2 ⟨rfl, hs⟩; have R2 := Lib.hid (hR.out.drew.since hs); have Q2 := Lib.hid (And.intro (And.intro (R2.out.c0 (a) (by have := HZ.out; omega)) (R2.out.c1 (a) (by have := HZ.out; omega))) (And.intro (R2.out.c0 (X) (by have := HZ.out; omega)) (R2.out.c1 (X) (by have := HZ.out; omega)))); clear hs))
            go_wp2_with fail
            go_meet
            case rel => exact ⟨X, rfl, by omega, by omega, HE, R2⟩
          · have hcb : decide (c < 0) = false := decide_eq_false hc
            have hci : 0 ≤ c := by omega
            have hpv := HPc.out.2 hc
            have HE := Lib.hid (hT.out.trans (HG.out (by simp [hpv])))
            clear HG HN HPc hpv
            go_wp2_with fail
            have QQ := Lib.hid (And.intro (And.intro (hR.out.c0 (a) (by have := HZ.out; omega)) (hR.out.c1 (a) (by have := HZ.out; omega))) (And.intro (hR.out.c0 (X) (by have := HZ.out; omega)) (hR.out.c1 (X) (by have := HZ.out; omega))))
            go_region_held3 (fun w' => (w'.cell? ⟨g, (a) * 2, none⟩ = some (.int .i64 (d[a]!.1.1 : Nat)) ∧ w'.cell? ⟨g, (a) * 2 + 1, none⟩ = some (.int .i64 (d[a]!.1.2 : Nat))) ∧ (w'.cell? ⟨g, (X) * 2, none⟩ = some (.int .i64 (d[X]!.1.1 : Nat)) ∧ w'.cell? ⟨g, (X) * 2 + 1, none⟩ = some (.int .i64 (d[X]!.1.2 : Nat))))
              (first
                | exact QQ.out
                | exact Q2.out)
              (first
                | (go_at_call 37; refine (KC.out _).mono ?_; rintro e w2 ⟨rfl, hs⟩; have R2 := Lib.hid (hR.out.drew.since hs); have Q2 := Lib.hid (And.intro (And.intro (R2.out.c0 (a) (by have := HZ.out; omega)) (R2.out.c1 (a) (by have := HZ.out; omega))) (And.intro (R2.out.c0 (X) (by have := HZ.out; omega)) (R2.out.c1 (X) (by have := HZ.out; omega)))); clear hs))
            go_wp2_with fail
            go_roundg (J + 1 - (X + 1))
            case measure => omega
            case rel => exact ⟨X + 1, by omega, by omega, rfl, by go_num, HE, R2⟩
        · have hxi : ¬ (X : Int) ≤ (J : Int) := by omega
          have hxb : decide ((X : Int) ≤ (J : Int)) = false := decide_eq_false hxi
          have hxb2 : decide (X ≤ J) = false := decide_eq_false hx
          have HE := Lib.hid ((hT.out.trans (scanUp_stop (fun h => hx h.1))).symm)
          go_wp2_with fail
          go_quiet (fail)
          have R2 := Lib.hid (hR.out.since (since_drewN (World.Since.refl wr.heap.size wr) nq))
          go_wp2_with fail
          go_meet
          case rel => exact ⟨X, rfl, by omega, by omega, HE, R2⟩
    case rest =>
      obtain ⟨X, rfl, hX1, hX2, hXu, hR⟩ := hcut
      go_upto_block 4 with fail
      go_cut [12] from 31 to 88 (fun v w' => ∃ Y : Nat, v = .int .i64 Y ∧ X ≤ Y + 2 ∧ Y ≤ J ∧ Hid (Y = scanDown (fun x => ltQ d[a]! x) d X J) ∧ Hid (RowQ w0 g d w'))
      case first =>
        go_wp2_with fail
        go_loopg [12] J (fun gk i wr => ∃ Y : Nat, X ≤ Y + 2 ∧ Y ≤ J ∧ gk = Y ∧ i = .int .i64 Y ∧ Hid (scanDown (fun x => ltQ d[a]! x) d X J = scanDown (fun x => ltQ d[a]! x) d X Y) ∧ Hid (RowQ w0 g d wr))
        case atStart => exact ⟨J, by omega, by omega, rfl, rfl, Lib.hid rfl, hR⟩
        case round =>
          clear hR
          obtain ⟨Y, hY1, hY2, hgk, rfl, hT, hR⟩ := hrel
          subst hgk
          by_cases hx : X ≤ gk
          · have hxi : (X : Int) ≤ (gk : Int) := by omega
            have y1 : gk < m := by omega
            have y1b : decide (gk < m) = true := by simp; omega
            have KC := Lib.hid (fun wx => cmp_says d[a]! d[gk]! wx)
            have HG := Lib.hid (fun h => scanDown_go (p := fun x => ltQ d[a]! x) (d := d) (show 1 ≤ X by omega) hx h)
            have HN := Lib.hid (fun h => scanDown_stop (p := fun x => ltQ d[a]! x) (d := d) (j := gk) (i := X) h)
            have HPc := Lib.hid (pc_iff d[a]! d[gk]!)
            unfold qV at KC
            generalize cmpQ d[a]!.1 d[gk]!.1 = c at *
            by_cases hc : c < 0
            · have hcb : decide (c < 0) = true := decide_eq_true hc
              have hpv := HPc.out.1 hc
              have HE := Lib.hid (hT.out.trans (HG.out (by simp [hpv])))
              clear HG HN HPc hpv
              go_wp2_with fail
              have QQ := Lib.hid (And.intro (And.intro (hR.out.c0 (a) (by have := HZ.out; omega)) (hR.out.c1 (a) (by have := HZ.out; omega))) (And.intro (hR.out.c0 (gk) (by have := HZ.out; omega)) (hR.out.c1 (gk) (by have := HZ.out; omega))))
              go_region_held3 (fun w' => (w'.cell? ⟨g, (a) * 2, none⟩ = some (.int .i64 (d[a]!.1.1 : Nat)) ∧ w'.cell? ⟨g, (a) * 2 + 1, none⟩ = some (.int .i64 (d[a]!.1.2 : Nat))) ∧ (w'.cell? ⟨g, (gk) * 2, none⟩ = some (.int .i64 (d[gk]!.1.1 : Nat)) ∧ w'.cell? ⟨g, (gk) * 2 + 1, none⟩ = some (.int .i64 (d[gk]!.1.2 : Nat))))
                (first
                  | exact QQ.out
                  | exact Q2.out)
                (first
                  | (go_at_call 37; refine (KC.out _).mono ?_; rintro e w2 ⟨rfl, hs⟩; have R2 := Lib.hid (hR.out.drew.since hs); have Q2 := Lib.hid (And.intro (And.intro (R2.out.c0 (a) (by have := HZ.out; omega)) (R2.out.c1 (a) (by have := HZ.out; omega))) (And.intro (R2.out.c0 (gk) (by have := HZ.out; omega)) (R2.out.c1 (gk) (by have := HZ.out; omega)))); clear hs))
              go_wp2_with fail
              go_roundg (gk - 1)
              case measure => omega
              case rel => exact ⟨gk - 1, by omega, by omega, rfl, by congr 1; omega, HE, R2⟩
            · have hcb : decide (c < 0) = false := decide_eq_false hc
              have hci : 0 ≤ c := by omega
              have hpv := HPc.out.2 hc
              have HE := Lib.hid ((hT.out.trans (HN.out (fun h => by have h2 := h.2; simp only [hpv] at h2; cases h2))).symm)
              clear HG HN HPc hpv
              go_wp2_with fail
              have QQ := Lib.hid (And.intro (And.intro (hR.out.c0 (a) (by have := HZ.out; omega)) (hR.out.c1 (a) (by have := HZ.out; omega))) (And.intro (hR.out.c0 (gk) (by have := HZ.out; omega)) (hR.out.c1 (gk) (by have := HZ.out; omega))))
              go_region_held3 (fun w' => (w'.cell? ⟨g, (a) * 2, none⟩ = some (.int .i64 (d[a]!.1.1 : Nat)) ∧ w'.cell? ⟨g, (a) * 2 + 1, none⟩ = some (.int .i64 (d[a]!.1.2 : Nat))) ∧ (w'.cell? ⟨g, (gk) * 2, none⟩ = some (.int .i64 (d[gk]!.1.1 : Nat)) ∧ w'.cell? ⟨g, (gk) * 2 + 1, none⟩ = some (.int .i64 (d[gk]!.1.2 : Nat))))
                (first
                  | exact QQ.out
                  | exact Q2.out)
                (first
                  | (go_at_call 37; refine (KC.out _).mono ?_; rintro e w2 ⟨rfl, hs⟩; have R2 := Lib.hid (hR.out.drew.since hs); have Q2 := Lib.hid (And.intro (And.intro (R2.out.c0 (a) (by have := HZ.out; omega)) (R2.out.c1 (a) (by have := HZ.out; omega))) (And.intro (R2.out.c0 (gk) (by have := HZ.out; omega)) (R2.out.c1 (gk) (by have := HZ.out; omega)))); clear hs))
              go_wp2_with fail
              go_meet
              case rel => exact ⟨gk, rfl, by omega, by omega, HE, R2⟩
          · have hxi : ¬ (X : Int) ≤ (gk : Int) := by omega
            have hxb : decide ((X : Int) ≤ (gk : Int)) = false := decide_eq_false hxi
            have hxb2 : decide (X ≤ gk) = false := decide_eq_false hx
            have HE := Lib.hid ((hT.out.trans (scanDown_stop (fun h => hx h.1))).symm)
            go_wp2_with fail
            go_quiet (fail)
            have R2 := Lib.hid (hR.out.since (since_drewN (World.Since.refl wr.heap.size wr) nq))
            go_wp2_with fail
            go_meet
            case rel => exact ⟨gk, rfl, by omega, by omega, HE, R2⟩
      case rest =>
        obtain ⟨Y, rfl, hY1, hY2, hYs, hR⟩ := hcut
        obtain ⟨wc2, rfl⟩ : ∃ wc2, wc2 = wc := ⟨_, rfl⟩
        have HS := Lib.hid (hT.out.trans (partEq_step hXu.out hYs.out (by omega) hX1 hY2))
        clear hT hXu hYs
        by_cases hxy : Y < X
        · have hxyi : (Y : Int) < (X : Int) := by omega
          have HE2 : Hid (E = (X, d)) := Lib.hid (by rw [HS.out, if_pos hxy])
          go_wp2_with fail
          go_ret
          exact ⟨congrArg (fun r : Nat × Array Qs => Ending.returned (.int .i64 ((r.1 : Nat) : Int))) HE2.out.symm, by rw [HE2.out]; exact hR.out⟩
        · have hxyi : ¬ (Y : Int) < (X : Int) := by omega
          have HE2 : Hid (E = partEqLoop ltQ a (X + 1) (Y - 1) (swp d X Y)) := Lib.hid (by rw [HS.out, if_neg hxy])
          clear HS
          have y2 : X < m := by omega
          have y3 : Y < m := by omega
          have y2b : decide (X < m) = true := by simp; omega
          have y3b : decide (Y < m) = true := by simp; omega
          go_wp2_with fail
          obtain ⟨u0, e0⟩ := hR.out.mid0 (i := X) (j := Y) (by have := HZ.out; omega) (.int .i64 (d[Y]!.1.1 : Nat)) (.int .i64 (d[Y]!.1.2 : Nat))
          obtain ⟨u1, e1⟩ := hR.out.mid1 (i := X) (j := Y) (by have := HZ.out; omega) (.int .i64 (d[Y]!.1.1 : Nat)) (.int .i64 (d[Y]!.1.2 : Nat)) (.int .i64 (d[X]!.1.1 : Nat))
          have QS := Lib.hid (And.intro (And.intro (hR.out.c0 (X) (by have := HZ.out; omega)) (hR.out.c1 (X) (by have := HZ.out; omega))) (And.intro (hR.out.c0 (Y) (by have := HZ.out; omega)) (hR.out.c1 (Y) (by have := HZ.out; omega))))
          have k0 := QS.out.1.1
          have k1 := QS.out.1.2
          have k2 := QS.out.2.1
          have k3 := QS.out.2.2
          have f0 := hR.out.fz ((X) * 2)
          have f1 := hR.out.fz ((X) * 2 + 1)
          have f2 := hR.out.fz ((Y) * 2)
          have f3 := hR.out.fz ((Y) * 2 + 1)
          refine wp_region_free (fun w' => (w'.cell? ⟨g, (X) * 2, none⟩ = some (.int .i64 (d[X]!.1.1 : Nat)) ∧ w'.cell? ⟨g, (X) * 2 + 1, none⟩ = some (.int .i64 (d[X]!.1.2 : Nat))) ∧ (w'.cell? ⟨g, (Y) * 2, none⟩ = some (.int .i64 (d[Y]!.1.1 : Nat)) ∧ w'.cell? ⟨g, (Y) * 2 + 1, none⟩ = some (.int .i64 (d[Y]!.1.2 : Nat)))) [13, 15] (by kernel_rfl) QS.out (fun hSL => ?_)
          refine wpAnyFree_free 0 (v := ?_) rfl (by kernel_rfl) (by kernel_rfl) (by kernel_rfl) (fun _ _ _ h => h) (by rfl) (fun w' => ?_) ?_
          rotate_left
          · go_simp
            all_goals rfl
          try simp only [Act.put]
          try simp only [List.setIfInBounds_toArray]
          try simp only [List.set_cons_succ, List.set_cons_zero]
          refine wpAnyFree_free 1 (v := ?_) rfl (by kernel_rfl) (by kernel_rfl) (by kernel_rfl) (fun _ _ _ h => h) (by rfl) (fun w' => ?_) ?_
          rotate_left
          · go_simp
            all_goals rfl
          try simp only [Act.put]
          try simp only [List.setIfInBounds_toArray]
          try simp only [List.set_cons_succ, List.set_cons_zero]
          refine wpAnyFree_free 2 (v := ?_) rfl (by kernel_rfl) (by kernel_rfl) (by kernel_rfl) (fun _ _ _ h => h) (by rfl) (fun w' => ?_) ?_
          rotate_left
          · go_simp
            all_goals rfl
          try simp only [Act.put]
          try simp only [List.setIfInBounds_toArray]
          try simp only [List.set_cons_succ, List.set_cons_zero]
          refine wpAnyFree_free 3 (v := ?_) rfl (by kernel_rfl) (by kernel_rfl) (by kernel_rfl) (fun _ _ _ h => h) (by rfl) (fun w' => ?_) ?_
          rotate_left
          · go_simp
            all_goals rfl
          try simp only [Act.put]
          try simp only [List.setIfInBounds_toArray]
          try simp only [List.set_cons_succ, List.set_cons_zero]
          refine wpAnyFree_free 4 (v := ?_) rfl (by kernel_rfl) (by kernel_rfl) (by kernel_rfl) (fun _ _ _ h => h) (by rfl) (fun w' => ?_) ?_
          rotate_left
          · go_simp
            all_goals rfl
          try simp only [Act.put]
          try simp only [List.setIfInBounds_toArray]
          try simp only [List.set_cons_succ, List.set_cons_zero]
          refine wpAnyFree_free 5 (v := ?_) rfl (by kernel_rfl) (by kernel_rfl) (by kernel_rfl) (fun _ _ _ h => h) (by rfl) (fun w' => ?_) ?_
          rotate_left
          · go_simp
            all_goals rfl
          try simp only [Act.put]
          try simp only [List.setIfInBounds_toArray]
          try simp only [List.set_cons_succ, List.set_cons_zero]
          refine wpAnyFree_free 6 (v := ?_) rfl (by kernel_rfl) (by kernel_rfl) (by kernel_rfl) (fun _ _ _ h => h) (by rfl) (fun w' => ?_) ?_
          rotate_left
          · go_simp
            all_goals rfl
          try simp only [Act.put]
          try simp only [List.setIfInBounds_toArray]
          try simp only [List.set_cons_succ, List.set_cons_zero]
          refine wpAnyFree_take 7 (v := ?_) rfl (by kernel_rfl) (by kernel_rfl) (by kernel_rfl) (by kernel_rfl) (by kernel_rfl) (fun _ _ _ h => h) hSL (by rfl) (fun w' hw' => ?_) ?_
          rotate_left
          · obtain ⟨⟨g0, g1⟩, g2, g3⟩ := hw'
            go_simp
            all_goals rfl
          try simp only [Act.put]
          try simp only [List.setIfInBounds_toArray]
          try simp only [List.set_cons_succ, List.set_cons_zero]
          refine wpAnyFree_free 8 (v := ?_) rfl (by kernel_rfl) (by kernel_rfl) (by kernel_rfl) (fun _ _ _ h => h) (by rfl) (fun w' => ?_) ?_
          rotate_left
          · go_simp
            all_goals rfl
          try simp only [Act.put]
          try simp only [List.setIfInBounds_toArray]
          try simp only [List.set_cons_succ, List.set_cons_zero]
          refine wpAnyFree_free 9 (v := ?_) rfl (by kernel_rfl) (by kernel_rfl) (by kernel_rfl) (fun _ _ _ h => h) (by rfl) (fun w' => ?_) ?_
          rotate_left
          · go_simp
            all_goals rfl
          try simp only [Act.put]
          try simp only [List.setIfInBounds_toArray]
          try simp only [List.set_cons_succ, List.set_cons_zero]
          refine wpAnyFree_free 10 (v := ?_) rfl (by kernel_rfl) (by kernel_rfl) (by kernel_rfl) (fun _ _ _ h => h) (by rfl) (fun w' => ?_) ?_
          rotate_left
          · go_simp
            all_goals rfl
          try simp only [Act.put]
          try simp only [List.setIfInBounds_toArray]
          try simp only [List.set_cons_succ, List.set_cons_zero]
          refine wpAnyFree_take 11 (v := ?_) rfl (by kernel_rfl) (by kernel_rfl) (by kernel_rfl) (by kernel_rfl) (by kernel_rfl) (fun _ _ _ h => h) hSL (by rfl) (fun w' hw' => ?_) ?_
          rotate_left
          · obtain ⟨⟨g0, g1⟩, g2, g3⟩ := hw'
            go_simp
            all_goals rfl
          try simp only [Act.put]
          try simp only [List.setIfInBounds_toArray]
          try simp only [List.set_cons_succ, List.set_cons_zero]
          refine wpAnyFree_free 12 (v := ?_) rfl (by kernel_rfl) (by kernel_rfl) (by kernel_rfl) (fun _ _ _ h => h) (by rfl) (fun w' => ?_) ?_
          rotate_left
          · go_simp
            all_goals rfl
          try simp only [Act.put]
          try simp only [List.setIfInBounds_toArray]
          try simp only [List.set_cons_succ, List.set_cons_zero]
          refine wpAnyFree_late 13 (by kernel_rfl) (by kernel_rfl) rfl (by rfl) (fun K hK => ?_)
          go_simp
          refine hK.out _ _ ?_
          clear hK K
          try simp only [Act.put]
          try simp only [List.setIfInBounds_toArray]
          try simp only [List.set_cons_succ, List.set_cons_zero]
          refine wpAnyFree_free 14 (v := ?_) rfl (by kernel_rfl) (by kernel_rfl) (by kernel_rfl) (fun _ _ _ h => h) (by rfl) (fun w' => ?_) ?_
          rotate_left
          · go_simp
            all_goals rfl
          try simp only [Act.put]
          try simp only [List.setIfInBounds_toArray]
          try simp only [List.set_cons_succ, List.set_cons_zero]
          refine wpAnyFree_late 15 (by kernel_rfl) (by kernel_rfl) rfl (by rfl) (fun K hK => ?_)
          go_simp
          refine hK.out _ _ ?_
          clear hK K
          try simp only [Act.put]
          try simp only [List.setIfInBounds_toArray]
          try simp only [List.set_cons_succ, List.set_cons_zero]
          refine wpAnyFree_done (by kernel_rfl) ?_ _
          have R3 : Hid (RowQ w0 g (swp d (X) (Y)) (swpW wc2 g (X) (Y) d[Y]! d[X]!).drew) := Lib.hid ((hR.out.swap (i := X) (j := Y) (by have := HZ.out; omega) (by have := HZ.out; omega)).drew)
          clear e0 e1 k0 k1 k2 k3 f0 f1 f2 f3 hSL QS
          go_wp2_with fail
          go_roundg (Y - 1 + 1 - (X + 1))
          case measure => omega
          case rel => exact ⟨X + 1, Y - 1, swp d X Y, by omega, by omega, by omega, rfl, by go_num, by congr 1; omega, Lib.hid ((size_swp d _ _).trans HZ.out), HE2, R3⟩
end Go.Proofs.YtkklagdniaoghaaGreatDoor
