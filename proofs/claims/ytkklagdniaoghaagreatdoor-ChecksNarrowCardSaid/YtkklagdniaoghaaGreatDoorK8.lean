/- The walks of the sort: parting. -/
import Derived.Test.YtkklagdniaoghaaGreatDoorK7
namespace Go.Proofs.YtkklagdniaoghaaGreatDoor
open Go.RowKit Go.Proofs.Rank Go.Sort

theorem part_step {a I J X Y : Nat} {d : Array Qs} (hX : X = scanUp (fun x => ltQ x d[a]!) d J I) (hY : Y = scanDown (fun x => !ltQ x d[a]!) d X J) (h2 : I ≤ X) (h3 : Y ≤ J) :
    partLoop ltQ a I J d = if Y < X then (Y, d) else partLoop ltQ a (X + 1) (Y - 1) (swp d X Y) := by
  rw [partLoop, ← hX]
  simp only [← hY]
  by_cases h : Y < X
  · rw [if_pos h, if_pos h]
  · rw [if_neg h, if_neg h, dif_pos (by omega)]
theorem part_first {a b pv : Nat} {d d1 : Array Qs} (hd : d1 = swp d a pv) (X Y : Nat) (hX : X = scanUp (fun x => ltQ x d1[a]!) d1 (b - 1) (a + 1)) (hY : Y = scanDown (fun x => !ltQ x d1[a]!) d1 X (b - 1)) :
    partition ltQ d a b pv = if Y < X then (Y, true, swp d1 Y a) else ((partLoop ltQ a (X + 1) (Y - 1) (swp d1 X Y)).1, false, swp (partLoop ltQ a (X + 1) (Y - 1) (swp d1 X Y)).2 (partLoop ltQ a (X + 1) (Y - 1) (swp d1 X Y)).1 a) := by
  unfold partition
  simp only [← hd, ← hX, ← hY]
def PartSay (w0 : World) (g : Nat) (r : Nat × Bool × Array Qs) (e : Ending) (w' : World) : Prop := e = .returned (.tuple #[.int .i64 (r.1 : Nat), .bool r.2.1]) ∧ RowQ w0 g r.2.2 w'
set_option maxHeartbeats 12800000 in
set_option maxRecDepth 1000000 in
theorem part_says (d : Array Qs) (a b pv g cap m : Nat) (w0 w : World) (h : RowQ w0 g d w) (hm : d.size = m) (hap : a ≤ pv) (hpb : pv < b) (hb : b ≤ m) (hsz : m ≤ 1000) :
    Calls Tryz.prog 90 #[.slice (some ⟨g, 0, none⟩) m cap, .int .i64 a, .int .i64 b, .int .i64 pv, cmpV] w (PartSay w0 g (partition ltQ d a b pv)) := by
  have hR := Lib.hid h
  have HZ := Lib.hid hm
  obtain ⟨E, hE⟩ : ∃ E, E = partition ltQ d a b pv := ⟨_, rfl⟩
  rw [← hE]
  have HE := Lib.hid hE
  clear h hm hE
  have ya : a < m := by omega
  have yp : pv < m := by omega
  have yab : decide (a < m) = true := by simp; omega
  have ypb : decide (pv < m) = true := by simp; omega
  unfold cmpV
  go_enter Tryz.func90, Tryz.ntmps90
  go_wp2_with fail
  obtain ⟨u0, e0⟩ := hR.out.mid0 (i := a) (j := pv) (by have := HZ.out; omega) (.int .i64 (d[pv]!.1.1 : Nat)) (.int .i64 (d[pv]!.1.2 : Nat))
  obtain ⟨u1, e1⟩ := hR.out.mid1 (i := a) (j := pv) (by have := HZ.out; omega) (.int .i64 (d[pv]!.1.1 : Nat)) (.int .i64 (d[pv]!.1.2 : Nat)) (.int .i64 (d[a]!.1.1 : Nat))
  have QS := Lib.hid (And.intro (And.intro (hR.out.c0 (a) (by have := HZ.out; omega)) (hR.out.c1 (a) (by have := HZ.out; omega))) (And.intro (hR.out.c0 (pv) (by have := HZ.out; omega)) (hR.out.c1 (pv) (by have := HZ.out; omega))))
  have k0 := QS.out.1.1
  have k1 := QS.out.1.2
  have k2 := QS.out.2.1
  have k3 := QS.out.2.2
  have f0 := hR.out.fz ((a) * 2)
  have f1 := hR.out.fz ((a) * 2 + 1)
  have f2 := hR.out.fz ((pv) * 2)
  have f3 := hR.out.fz ((pv) * 2 + 1)
  refine wp_region_free (fun w' => (w'.cell? ⟨g, (a) * 2, none⟩ = some (.int .i64 (d[a]!.1.1 : Nat)) ∧ w'.cell? ⟨g, (a) * 2 + 1, none⟩ = some (.int .i64 (d[a]!.1.2 : Nat))) ∧ (w'.cell? ⟨g, (pv) * 2, none⟩ = some (.int .i64 (d[pv]!.1.1 : Nat)) ∧ w'.cell? ⟨g, (pv) * 2 + 1, none⟩ = some (.int .i64 (d[pv]!.1.2 : Nat)))) [13, 15] (by kernel_rfl) QS.out (fun hSL => ?_)
  refine wpAnyFree_free 0 (v := ?_) rfl (by kernel_rfl) (by kernel_rfl) (by kernel_rfl) (fun _ _ _ h => h) (by rfl) (fun w' => ?_) ?_
  rotate_left
  · go_simp
    all_goals rfl
  try simp only [Act.put]
  try simp only [List.setIfInBounds_toArray]
  try simp only [List.set_cons_succ, List.set_cons_zero]
  refine wpAnyFree_free 1 (v := ?_) rfl (by kernel_rfl) (by kernel_rfl) (by kernel_rfl) (fun _ _ _ h => h) (by rfl) (fun w' => ?_) ?_
  rotate_left
  · go_simp
    all_goals rfl
  try simp only [Act.put]
  try simp only [List.setIfInBounds_toArray]
  try simp only [List.set_cons_succ, List.set_cons_zero]
  refine wpAnyFree_free 2 (v := ?_) rfl (by kernel_rfl) (by kernel_rfl) (by kernel_rfl) (fun _ _ _ h => h) (by rfl) (fun w' => ?_) ?_
  rotate_left
  · go_simp
    all_goals rfl
  try simp only [Act.put]
  try simp only [List.setIfInBounds_toArray]
  try simp only [List.set_cons_succ, List.set_cons_zero]
  refine wpAnyFree_free 3 (v := ?_) rfl (by kernel_rfl) (by kernel_rfl) (by kernel_rfl) (fun _ _ _ h => h) (by rfl) (fun w' => ?_) ?_
  rotate_left
  · go_simp
    all_goals rfl
  try simp only [Act.put]
  try simp only [List.setIfInBounds_toArray]
  try simp only [List.set_cons_succ, List.set_cons_zero]
  refine wpAnyFree_free 4 (v := ?_) rfl (by kernel_rfl) (by kernel_rfl) (by kernel_rfl) (fun _ _ _ h => h) (by rfl) (fun w' => ?_) ?_
  rotate_left
  · go_simp
    all_goals rfl
  try simp only [Act.put]
  try simp only [List.setIfInBounds_toArray]
  try simp only [List.set_cons_succ, List.set_cons_zero]
  refine wpAnyFree_free 5 (v := ?_) rfl (by kernel_rfl) (by kernel_rfl) (by kernel_rfl) (fun _ _ _ h => h) (by rfl) (fun w' => ?_) ?_
  rotate_left
  · go_simp
    all_goals rfl
  try simp only [Act.put]
  try simp only [List.setIfInBounds_toArray]
  try simp only [List.set_cons_succ, List.set_cons_zero]
  refine wpAnyFree_free 6 (v := ?_) rfl (by kernel_rfl) (by kernel_rfl) (by kernel_rfl) (fun _ _ _ h => h) (by rfl) (fun w' => ?_) ?_
  rotate_left
  · go_simp
    all_goals rfl
  try simp only [Act.put]
  try simp only [List.setIfInBounds_toArray]
  try simp only [List.set_cons_succ, List.set_cons_zero]
  refine wpAnyFree_take 7 (v := ?_) rfl (by kernel_rfl) (by kernel_rfl) (by kernel_rfl) (by kernel_rfl) (by kernel_rfl) (fun _ _ _ h => h) hSL (by rfl) (fun w' hw' => ?_) ?_
  rotate_left
  · obtain ⟨⟨g0, g1⟩, g2, g3⟩ := hw'
    go_simp
    all_goals rfl
  try simp only [Act.put]
  try simp only [List.setIfInBounds_toArray]
  try simp only [List.set_cons_succ, List.set_cons_zero]
  refine wpAnyFree_free 8 (v := ?_) rfl (by kernel_rfl) (by kernel_rfl) (by kernel_rfl) (fun _ _ _ h => h) (by rfl) (fun w' => ?_) ?_
  rotate_left
  · go_simp
    all_goals rfl
  try simp only [Act.put]
  try simp only [List.setIfInBounds_toArray]
  try simp only [List.set_cons_succ, List.set_cons_zero]
  refine wpAnyFree_free 9 (v := ?_) rfl (by kernel_rfl) (by kernel_rfl) (by kernel_rfl) (fun _ _ _ h => h) (by rfl) (fun w' => ?_) ?_
  rotate_left
  · go_simp
    all_goals rfl
  try simp only [Act.put]
  try simp only [List.setIfInBounds_toArray]
  try simp only [List.set_cons_succ, List.set_cons_zero]
  refine wpAnyFree_free 10 (v := ?_) rfl (by kernel_rfl) (by kernel_rfl) (by kernel_rfl) (fun _ _ _ h => h) (by rfl) (fun w' => ?_) ?_
  rotate_left
  · go_simp
    all_goals rfl
  try simp only [Act.put]
  try simp only [List.setIfInBounds_toArray]
  try simp only [List.set_cons_succ, List.set_cons_zero]
  refine wpAnyFree_take 11 (v := ?_) rfl (by kernel_rfl) (by kernel_rfl) (by kernel_rfl) (by kernel_rfl) (by kernel_rfl) (fun _ _ _ h => h) hSL (by rfl) (fun w' hw' => ?_) ?_
  rotate_left
  · obtain ⟨⟨g0, g1⟩, g2, g3⟩ := hw'
    go_simp
    all_goals rfl
  try simp only [Act.put]
  try simp only [List.setIfInBounds_toArray]
  try simp only [List.set_cons_succ, List.set_cons_zero]
  refine wpAnyFree_free 12 (v := ?_) rfl (by kernel_rfl) (by kernel_rfl) (by kernel_rfl) (fun _ _ _ h => h) (by rfl) (fun w' => ?_) ?_
  rotate_left
  · go_simp
    all_goals rfl
  try simp only [Act.put]
  try simp only [List.setIfInBounds_toArray]
  try simp only [List.set_cons_succ, List.set_cons_zero]
  refine wpAnyFree_late 13 (by kernel_rfl) (by kernel_rfl) rfl (by rfl) (fun K hK => ?_)
  go_simp
  refine hK.out _ _ ?_
  clear hK K
  try simp only [Act.put]
  try simp only [List.setIfInBounds_toArray]
  try simp only [List.set_cons_succ, List.set_cons_zero]
  refine wpAnyFree_free 14 (v := ?_) rfl (by kernel_rfl) (by kernel_rfl) (by kernel_rfl) (fun _ _ _ h => h) (by rfl) (fun w' => ?_) ?_
  rotate_left
  · go_simp
    all_goals rfl
  try simp only [Act.put]
  try simp only [List.setIfInBounds_toArray]
  try simp only [List.set_cons_succ, List.set_cons_zero]
  refine wpAnyFree_late 15 (by kernel_rfl) (by kernel_rfl) rfl (by rfl) (fun K hK => ?_)
  go_simp
  refine hK.out _ _ ?_
  clear hK K
  try simp only [Act.put]
  try simp only [List.setIfInBounds_toArray]
  try simp only [List.set_cons_succ, List.set_cons_zero]
  refine wpAnyFree_done (by kernel_rfl) ?_ _
  have R3 : Hid (RowQ w0 g (swp d (a) (pv)) (swpW w g (a) (pv) d[pv]! d[a]!).drew) := Lib.hid ((hR.out.swap (i := a) (j := pv) (by have := HZ.out; omega) (by have := HZ.out; omega)).drew)
  clear e0 e1 k0 k1 k2 k3 f0 f1 f2 f3 hSL QS
  have HE0 := Lib.hid (fun d1 (hd : d1 = swp d a pv) X Y hX hY => HE.out.trans (part_first (b := b) hd X Y hX hY))
  have HZ : Hid ((swp d a pv).size = m) := Lib.hid ((size_swp d _ _).trans HZ.out)
  clear HE hR
  obtain ⟨I, hI⟩ : ∃ I, I = a + 1 := ⟨_, rfl⟩
  obtain ⟨J, hJ⟩ : ∃ J, J = b - 1 := ⟨_, rfl⟩
  have wI := Lib.hid (show (a : Int) + 1 = (I : Int) by omega)
  have wJ := Lib.hid (show ((b - 1 : Nat) : Int) = (J : Int) by omega)
  have wJb : IntKind.i64.wrap ((b : Int) - 1) = ((b - 1 : Nat) : Int) := (IntWalk.i64_in _ (by omega)).trans (by omega)
  have wIb : IntKind.i64.wrap ((a : Int) + 1) = (a : Int) + 1 := IntWalk.i64_in _ (by omega)
  have hIb : a + 1 ≤ I ∧ I ≤ J + 1 := by omega
  have hJb2 : J + 1 = b := by omega
  go_upto_block 0 with fail
  rw [wI.out, wJ.out]
  obtain ⟨d, hd⟩ : ∃ d' : Array Qs, d' = swp d a pv := ⟨_, rfl⟩
  rw [← hd] at R3 HZ
  have HE0 := Lib.hid (HE0.out d hd)
  rw [← hI, ← hJ] at HE0
  have hR := R3
  clear hd R3 hI hJ wI wJ wIb wJb
  go_cut [12] from 32 to 49 (fun v w' => ∃ X : Nat, v = .int .i64 X ∧ I ≤ X ∧ X ≤ J + 2 ∧ Hid (X = scanUp (fun x => ltQ x d[a]!) d J I) ∧ Hid (RowQ w0 g d w'))
  case first =>
    go_wp2_with fail
    go_loopg [12] (J + 1 - I) (fun gk i wr => ∃ X : Nat, I ≤ X ∧ X ≤ J + 2 ∧ gk = J + 1 - X ∧ i = .int .i64 X ∧ Hid (scanUp (fun x => ltQ x d[a]!) d J I = scanUp (fun x => ltQ x d[a]!) d J X) ∧ Hid (RowQ w0 g d wr))
    case atStart => exact ⟨I, by omega, by omega, rfl, rfl, Lib.hid rfl, hR⟩
    case round =>
      clear hR
      obtain ⟨X, hX1, hX2, rfl, rfl, hT, hR⟩ := hrel
      by_cases hx : X ≤ J
      · have hxi : (X : Int) ≤ (J : Int) := by omega
        have y1 : X < m := by omega
        have y1b : decide (X < m) = true := by simp; omega
        have KC := Lib.hid (fun wx => cmp_says d[X]! d[a]! wx)
        have HG := Lib.hid (fun h => scanUp_go (p := fun x => ltQ x d[a]!) (d := d) hx h)
        have HN := Lib.hid (fun h => scanUp_stop (p := fun x => ltQ x d[a]!) (d := d) (j := J) (i := X) h)
        have HPc := Lib.hid (pc_iff d[X]! d[a]!)
        unfold qV at KC
        generalize cmpQ d[X]!.1 d[a]!.1 = c at *
        by_cases hc : c < 0
        · have hcb : decide (c < 0) = true := decide_eq_true hc
          have hpv := HPc.out.1 hc
          have HE := Lib.hid (hT.out.trans (HG.out (by simp [hpv])))
          clear HG HN HPc hpv
          go_wp2_with fail
          have QQ := Lib.hid (And.intro (And.intro (hR.out.c0 (X) (by have := HZ.out; omega)) (hR.out.c1 (X) (by have := HZ.out; omega))) (And.intro (hR.out.c0 (a) (by have := HZ.out; omega)) (hR.out.c1 (a) (by have := HZ.out; omega))))
          go_region_held3 (fun w' => (w'.cell? ⟨g, (X) * 2, none⟩ = some (.int .i64 (d[X]!.1.1 : Nat)) ∧ w'.cell? ⟨g, (X) * 2 + 1, none⟩ = some (.int .i64 (d[X]!.1.2 : Nat))) ∧ (w'.cell? ⟨g, (a) * 2, none⟩ = some (.int .i64 (d[a]!.1.1 : Nat)) ∧ w'.cell? ⟨g, (a) * 2 + 1, none⟩ = some (.int .i64 (d[a]!.1.2 : Nat))))
            (first
              | exact QQ.out
              | exact Q2.out)
            (first
              | (go_at_call 37; refine (KC.out _).mono ?_; rintro e w2 ⟨rfl, hs⟩; have R2 := Lib.hid (hR.out.drew.since hs); have Q2 := Lib.hid (And.intro (And.intro (R2.out.c0 (X) (by have := HZ.out; omega)) (R2.out.c1 (X) (by have := HZ.out; omega))) (And.intro (R2.out.c0 (a) (by have := HZ.out; omega)) (R2.out.c1 (a) (by have := HZ.out; omega)))); clear hs))
          go_wp2_with fail
          go_roundg (J + 1 - (X + 1))
          case measure => omega
          case rel => exact ⟨X + 1, by omega, by omega, rfl, by go_num, HE, R2⟩
        · have hcb : decide (c < 0) = false := decide_eq_false hc
          have hci : 0 ≤ c := by omega
          have hpv := HPc.out.2 hc
          have HE := Lib.hid ((hT.out.trans (HN.out (fun h => by have h2 := h.2; simp only [hpv] at h2; cases h2))).symm)
          clear HG HN HPc hpv
          go_wp2_with fail
          have QQ := Lib.hid (And.intro (And.intro (hR.out.c0 (X) (by have := HZ.out; omega)) (hR.out.c1 (X) (by have := HZ.out; omega))) (And.intro (hR.out.c0 (a) (by have := HZ.out; omega)) (hR.out.c1 (a) (by have := HZ.out; omega))))
          go_region_held3 (fun w' => (w'.cell? ⟨g, (X) * 2, none⟩ = some (.int .i64 (d[X]!.1.1 : Nat)) ∧ w'.cell? ⟨g, (X) * 2 + 1, none⟩ = some (.int .i64 (d[X]!.1.2 : Nat))) ∧ (w'.cell? ⟨g, (a) * 2, none⟩ = some (.int .i64 (d[a]!.1.1 : Nat)) ∧ w'.cell? ⟨g, (a) * 2 + 1, none⟩ = some (.int .i64 (d[a]!.1.2 : Nat))))
            (first
              | exact QQ.out
              | exact Q2.out)
            (first
              | (go_at_call 37; refine (KC.out _).mono ?_; rintro e w2 ⟨rfl, hs⟩; have R2 := Lib.hid (hR.out.drew.since hs); have Q2 := Lib.hid (And.intro (And.intro (R2.out.c0 (X) (by have := HZ.out; omega)) (R2.out.c1 (X) (by have := HZ.out; omega))) (And.intro (R2.out.c0 (a) (by have := HZ.out; omega)) (R2.out.c1 (a) (by have := HZ.out; omega)))); clear hs))
          go_wp2_with fail
          go_meet
          case rel => exact ⟨X, rfl, by omega, by omega, HE, R2⟩
      · have hxi : ¬ (X : Int) ≤ (J : Int) := by omega
        have hxb : decide ((X : Int) ≤ (J : Int)) = false := decide_eq_false hxi
        have hxb2 : decide (X ≤ J) = false := decide_eq_false hx
        have HE := Lib.hid ((hT.out.trans (scanUp_stop (fun h => hx h.1))).symm)
        go_wp2_with fail
        go_quiet (fail)
        have R2 := Lib.hid (hR.out.since (since_drewN (World.Since.refl wr.heap.size wr) nq))
        go_wp2_with fail
        go_meet
        case rel => exact ⟨X, rfl, by omega, by omega, HE, R2⟩
  case rest =>
    obtain ⟨X, rfl, hX1, hX2, hXu, hR⟩ := hcut
    go_upto_block 2 with fail
    go_cut [13] from 50 to 68 (fun v w' => ∃ Y : Nat, v = .int .i64 Y ∧ X ≤ Y + 2 ∧ Y ≤ J ∧ Hid (Y = scanDown (fun x => !ltQ x d[a]!) d X J) ∧ Hid (RowQ w0 g d w'))
    case first =>
      go_wp2_with fail
      go_loopg [13] J (fun gk i wr => ∃ Y : Nat, X ≤ Y + 2 ∧ Y ≤ J ∧ gk = Y ∧ i = .int .i64 Y ∧ Hid (scanDown (fun x => !ltQ x d[a]!) d X J = scanDown (fun x => !ltQ x d[a]!) d X Y) ∧ Hid (RowQ w0 g d wr))
      case atStart => exact ⟨J, by omega, by omega, rfl, rfl, Lib.hid rfl, hR⟩
      case round =>
        clear hR
        obtain ⟨Y, hY1, hY2, hgk, rfl, hT, hR⟩ := hrel
        subst hgk
        by_cases hx : X ≤ gk
        · have hxi : (X : Int) ≤ (gk : Int) := by omega
          have y1 : gk < m := by omega
          have y1b : decide (gk < m) = true := by simp; omega
          have KC := Lib.hid (fun wx => cmp_says d[gk]! d[a]! wx)
          have HG := Lib.hid (fun h => scanDown_go (p := fun x => !ltQ x d[a]!) (d := d) (show 1 ≤ X by omega) hx h)
          have HN := Lib.hid (fun h => scanDown_stop (p := fun x => !ltQ x d[a]!) (d := d) (j := gk) (i := X) h)
          have HPc := Lib.hid (pc_iff d[gk]! d[a]!)
          unfold qV at KC
          generalize cmpQ d[gk]!.1 d[a]!.1 = c at *
          by_cases hc : c < 0
          · have hcb : decide (c < 0) = true := decide_eq_true hc
            have hpv := HPc.out.1 hc
            have HE := Lib.hid ((hT.out.trans (HN.out (fun h => by have h2 := h.2; simp only [hpv] at h2; cases h2))).symm)
            clear HG HN HPc hpv
            go_wp2_with fail
            have QQ := Lib.hid (And.intro (And.intro (hR.out.c0 (gk) (by have := HZ.out; omega)) (hR.out.c1 (gk) (by have := HZ.out; omega))) (And.intro (hR.out.c0 (a) (by have := HZ.out; omega)) (hR.out.c1 (a) (by have := HZ.out; omega))))
            go_region_held3 (fun w' => (w'.cell? ⟨g, (gk) * 2, none⟩ = some (.int .i64 (d[gk]!.1.1 : Nat)) ∧ w'.cell? ⟨g, (gk) * 2 + 1, none⟩ = some (.int .i64 (d[gk]!.1.2 : Nat))) ∧ (w'.cell? ⟨g, (a) * 2, none⟩ = some (.int .i64 (d[a]!.1.1 : Nat)) ∧ w'.cell? ⟨g, (a) * 2 + 1, none⟩ = some (.int .i64 (d[a]!.1.2 : Nat))))
              (first
                | exact QQ.out
                | exact Q2.out)
              (first
                | (go_at_call 37; refine (KC.out _).mono ?_; rintro e w2 ⟨rfl, hs⟩; have R2 := Lib.hid (hR.out.drew.since hs); have Q2 := Lib.hid (And.intro (And.intro (R2.out.c0 (gk) (by have := HZ.out; omega)) (R2.out.c1 (gk) (by have := HZ.out; omega))) (And.intro (R2.out.c0 (a) (by have := HZ.out; omega)) (R2.out.c1 (a) (by have := HZ.out; omega)))); clear hs))
            go_wp2_with fail
            go_meet
            case rel => exact ⟨gk, rfl, by omega, by omega, HE, R2⟩
          · have hcb : decide (c < 0) = false := decide_eq_false hc
            have hci : 0 ≤ c := by omega
            have hpv := HPc.out.2 hc
            have HE := Lib.hid (hT.out.trans (HG.out (by simp [hpv])))
            clear HG HN HPc hpv
            go_wp2_with fail
            have QQ := Lib.hid (And.intro (And.intro (hR.out.c0 (gk) (by have := HZ.out; omega)) (hR.out.c1 (gk) (by have := HZ.out; omega))) (And.intro (hR.out.c0 (a) (by have := HZ.out; omega)) (hR.out.c1 (a) (by have := HZ.out; omega))))
            go_region_held3 (fun w' => (w'.cell? ⟨g, (gk) * 2, none⟩ = some (.int .i64 (d[gk]!.1.1 : Nat)) ∧ w'.cell? ⟨g, (gk) * 2 + 1, none⟩ = some (.int .i64 (d[gk]!.1.2 : Nat))) ∧ (w'.cell? ⟨g, (a) * 2, none⟩ = some (.int .i64 (d[a]!.1.1 : Nat)) ∧ w'.cell? ⟨g, (a) * 2 + 1, none⟩ = some (.int .i64 (d[a]!.1.2 : Nat))))
              (first
                | exact QQ.out
                | exact Q2.out)
              (first
                | (go_at_call 37; refine (KC.out _).mono ?_; rintro e w2 ⟨rfl, hs⟩; have R2 := Lib.hid (hR.out.drew.since hs); have Q2 := Lib.hid (And.intro (And.intro (R2.out.c0 (gk) (by have := HZ.out; omega)) (R2.out.c1 (gk) (by have := HZ.out; omega))) (And.intro (R2.out.c0 (a) (by have := HZ.out; omega)) (R2.out.c1 (a) (by have := HZ.out; omega)))); clear hs))
            go_wp2_with fail
            go_roundg (gk - 1)
            case measure => omega
            case rel => exact ⟨gk - 1, by omega, by omega, rfl, by congr 1; omega, HE, R2⟩
        · have hxi : ¬ (X : Int) ≤ (gk : Int) := by omega
          have hxb : decide ((X : Int) ≤ (gk : Int)) = false := decide_eq_false hxi
          have hxb2 : decide (X ≤ gk) = false := decide_eq_false hx
          have HE := Lib.hid ((hT.out.trans (scanDown_stop (fun h => hx h.1))).symm)
          go_wp2_with fail
          go_quiet (fail)
          have R2 := Lib.hid (hR.out.since (since_drewN (World.Since.refl wr.heap.size wr) nq))
          go_wp2_with fail
          go_meet
          case rel => exact ⟨gk, rfl, by omega, by omega, HE, R2⟩
    case rest =>
      obtain ⟨Y, rfl, hY1, hY2, hYs, hR⟩ := hcut
      obtain ⟨wc2, rfl⟩ : ∃ wc2, wc2 = wc := ⟨_, rfl⟩
      have HS := Lib.hid (HE0.out _ _ hXu.out hYs.out)
      clear hXu hYs HE0
      by_cases hxy : Y < X
      · have hxyi : (Y : Int) < (X : Int) := by omega
        have HE3 : Hid (E = (Y, true, swp d Y a)) := Lib.hid (by rw [HS.out, if_pos hxy])
        clear HS
        have y3 : Y < m := by omega
        have y3b : decide (Y < m) = true := by simp; omega
        go_wp2_with fail
        obtain ⟨u0, e0⟩ := hR.out.mid0 (i := Y) (j := a) (by have := HZ.out; omega) (.int .i64 (d[a]!.1.1 : Nat)) (.int .i64 (d[a]!.1.2 : Nat))
        obtain ⟨u1, e1⟩ := hR.out.mid1 (i := Y) (j := a) (by have := HZ.out; omega) (.int .i64 (d[a]!.1.1 : Nat)) (.int .i64 (d[a]!.1.2 : Nat)) (.int .i64 (d[Y]!.1.1 : Nat))
        have QS := Lib.hid (And.intro (And.intro (hR.out.c0 (Y) (by have := HZ.out; omega)) (hR.out.c1 (Y) (by have := HZ.out; omega))) (And.intro (hR.out.c0 (a) (by have := HZ.out; omega)) (hR.out.c1 (a) (by have := HZ.out; omega))))
        have k0 := QS.out.1.1
        have k1 := QS.out.1.2
        have k2 := QS.out.2.1
        have k3 := QS.out.2.2
        have f0 := hR.out.fz ((Y) * 2)
        have f1 := hR.out.fz ((Y) * 2 + 1)
        have f2 := hR.out.fz ((a) * 2)
        have f3 := hR.out.fz ((a) * 2 + 1)
        refine wp_region_free (fun w' => (w'.cell? ⟨g, (Y) * 2, none⟩ = some (.int .i64 (d[Y]!.1.1 : Nat)) ∧ w'.cell? ⟨g, (Y) * 2 + 1, none⟩ = some (.int .i64 (d[Y]!.1.2 : Nat))) ∧ (w'.cell? ⟨g, (a) * 2, none⟩ = some (.int .i64 (d[a]!.1.1 : Nat)) ∧ w'.cell? ⟨g, (a) * 2 + 1, none⟩ = some (.int .i64 (d[a]!.1.2 : Nat)))) [13, 15] (by kernel_rfl) QS.out (fun hSL => ?_)
        refine wpAnyFree_free 0 (v := ?_) rfl (by kernel_rfl) (by kernel_rfl) (by kernel_rfl) (fun _ _ _ h => h) (by rfl) (fun w' => ?_) ?_
        rotate_left
        · go_simp
          all_goals rfl
        try simp only [Act.put]
        try simp only [List.setIfInBounds_toArray]
        try simp only [List.set_cons_succ, List.set_cons_zero]
        refine wpAnyFree_free 1 (v := ?_) rfl (by kernel_rfl) (by kernel_rfl) (by kernel_rfl) (fun _ _ _ h => h) (by rfl) (fun w' => ?_) ?_
        rotate_left
        · go_simp
          all_goals rfl
        try simp only [Act.put]
        try simp only [List.setIfInBounds_toArray]
        try simp only [List.set_cons_succ, List.set_cons_zero]
        refine wpAnyFree_free 2 (v := ?_) rfl (by kernel_rfl) (by kernel_rfl) (by kernel_rfl) (fun _ _ _ h => h) (by rfl) (fun w' => ?_) ?_
        rotate_left
        · go_simp
          all_goals rfl
        try simp only [Act.put]
        try simp only [List.setIfInBounds_toArray]
        try simp only [List.set_cons_succ, List.set_cons_zero]
        refine wpAnyFree_free 3 (v := ?_) rfl (by kernel_rfl) (by kernel_rfl) (by kernel_rfl) (fun _ _ _ h => h) (by rfl) (fun w' => ?_) ?_
        rotate_left
        · go_simp
          all_goals rfl
        try simp only [Act.put]
        try simp only [List.setIfInBounds_toArray]
        try simp only [List.set_cons_succ, List.set_cons_zero]
        refine wpAnyFree_free 4 (v := ?_) rfl (by kernel_rfl) (by kernel_rfl) (by kernel_rfl) (fun _ _ _ h => h) (by rfl) (fun w' => ?_) ?_
        rotate_left
        · go_simp
          all_goals rfl
        try simp only [Act.put]
        try simp only [List.setIfInBounds_toArray]
        try simp only [List.set_cons_succ, List.set_cons_zero]
        refine wpAnyFree_free 5 (v := ?_) rfl (by kernel_rfl) (by kernel_rfl) (by kernel_rfl) (fun _ _ _ h => h) (by rfl) (fun w' => ?_) ?_
        rotate_left
        · go_simp
          all_goals rfl
        try simp only [Act.put]
        try simp only [List.setIfInBounds_toArray]
        try simp only [List.set_cons_succ, List.set_cons_zero]
        refine wpAnyFree_free 6 (v := ?_) rfl (by kernel_rfl) (by kernel_rfl) (by kernel_rfl) (fun _ _ _ h => h) (by rfl) (fun w' => ?_) ?_
        rotate_left
        · go_simp
          all_goals rfl
        try simp only [Act.put]
        try simp only [List.setIfInBounds_toArray]
        try simp only [List.set_cons_succ, List.set_cons_zero]
        refine wpAnyFree_take 7 (v := ?_) rfl (by kernel_rfl) (by kernel_rfl) (by kernel_rfl) (by kernel_rfl) (by kernel_rfl) (fun _ _ _ h => h) hSL (by rfl) (fun w' hw' => ?_) ?_
        rotate_left
        · obtain ⟨⟨g0, g1⟩, g2, g3⟩ := hw'
          go_simp
          all_goals rfl
        try simp only [Act.put]
        try simp only [List.setIfInBounds_toArray]
        try simp only [List.set_cons_succ, List.set_cons_zero]
        refine wpAnyFree_free 8 (v := ?_) rfl (by kernel_rfl) (by kernel_rfl) (by kernel_rfl) (fun _ _ _ h => h) (by rfl) (fun w' => ?_) ?_
        rotate_left
        · go_simp
          all_goals rfl
        try simp only [Act.put]
        try simp only [List.setIfInBounds_toArray]
        try simp only [List.set_cons_succ, List.set_cons_zero]
        refine wpAnyFree_free 9 (v := ?_) rfl (by kernel_rfl) (by kernel_rfl) (by kernel_rfl) (fun _ _ _ h => h) (by rfl) (fun w' => ?_) ?_
        rotate_left
        · go_simp
          all_goals rfl
        try simp only [Act.put]
        try simp only [List.setIfInBounds_toArray]
        try simp only [List.set_cons_succ, List.set_cons_zero]
        refine wpAnyFree_free 10 (v := ?_) rfl (by kernel_rfl) (by kernel_rfl) (by kernel_rfl) (fun _ _ _ h => h) (by rfl) (fun w' => ?_) ?_
        rotate_left
        · go_simp
          all_goals rfl
        try simp only [Act.put]
        try simp only [List.setIfInBounds_toArray]
        try simp only [List.set_cons_succ, List.set_cons_zero]
        refine wpAnyFree_take 11 (v := ?_) rfl (by kernel_rfl) (by kernel_rfl) (by kernel_rfl) (by kernel_rfl) (by kernel_rfl) (fun _ _ _ h => h) hSL (by rfl) (fun w' hw' => ?_) ?_
        rotate_left
        · obtain ⟨⟨g0, g1⟩, g2, g3⟩ := hw'
          go_simp
          all_goals rfl
        try simp only [Act.put]
        try simp only [List.setIfInBounds_toArray]
        try simp only [List.set_cons_succ, List.set_cons_zero]
        refine wpAnyFree_free 12 (v := ?_) rfl (by kernel_rfl) (by kernel_rfl) (by kernel_rfl) (fun _ _ _ h => h) (by rfl) (fun w' => ?_) ?_
        rotate_left
        · go_simp
          all_goals rfl
        try simp only [Act.put]
        try simp only [List.setIfInBounds_toArray]
        try simp only [List.set_cons_succ, List.set_cons_zero]
        refine wpAnyFree_late 13 (by kernel_rfl) (by kernel_rfl) rfl (by rfl) (fun K hK => ?_)
        go_simp
        refine hK.out _ _ ?_
        clear hK K
        try simp only [Act.put]
        try simp only [List.setIfInBounds_toArray]
        try simp only [List.set_cons_succ, List.set_cons_zero]
        refine wpAnyFree_free 14 (v := ?_) rfl (by kernel_rfl) (by kernel_rfl) (by kernel_rfl) (fun _ _ _ h => h) (by rfl) (fun w' => ?_) ?_
        rotate_left
        · go_simp
          all_goals rfl
        try simp only [Act.put]
        try simp only [List.setIfInBounds_toArray]
        try simp only [List.set_cons_succ, List.set_cons_zero]
        refine wpAnyFree_late 15 (by kernel_rfl) (by kernel_rfl) rfl (by rfl) (fun K hK => ?_)
        go_simp
        refine hK.out _ _ ?_
        clear hK K
        try simp only [Act.put]
        try simp only [List.setIfInBounds_toArray]
        try simp only [List.set_cons_succ, List.set_cons_zero]
        refine wpAnyFree_done (by kernel_rfl) ?_ _
        have R5 : Hid (RowQ w0 g (swp d (Y) (a)) (swpW wc2 g (Y) (a) d[a]! d[Y]!).drew) := Lib.hid ((hR.out.swap (i := Y) (j := a) (by have := HZ.out; omega) (by have := HZ.out; omega)).drew)
        clear e0 e1 k0 k1 k2 k3 f0 f1 f2 f3 hSL QS
        go_wp2_with fail
        go_ret2
        exact ⟨congrArg (fun r : Nat × Bool × Array Qs => Ending.returned (.tuple #[.int .i64 ((r.1 : Nat) : Int), .bool r.2.1])) HE3.out.symm, by rw [HE3.out]; exact R5.out⟩
      · have hxyi : ¬ (Y : Int) < (X : Int) := by omega
        obtain ⟨T, hT⟩ : ∃ T, T = partLoop ltQ a (X + 1) (Y - 1) (swp d X Y) := ⟨_, rfl⟩
        have HE : Hid (E = (T.1, false, swp T.2 T.1 a)) := Lib.hid (by rw [HS.out, if_neg hxy, hT])
        have HT := Lib.hid hT
        clear HS hT
        have y2 : X < m := by omega
        have y3 : Y < m := by omega
        have y2b : decide (X < m) = true := by simp; omega
        have y3b : decide (Y < m) = true := by simp; omega
        go_wp2_with fail
        obtain ⟨u0, e0⟩ := hR.out.mid0 (i := X) (j := Y) (by have := HZ.out; omega) (.int .i64 (d[Y]!.1.1 : Nat)) (.int .i64 (d[Y]!.1.2 : Nat))
        obtain ⟨u1, e1⟩ := hR.out.mid1 (i := X) (j := Y) (by have := HZ.out; omega) (.int .i64 (d[Y]!.1.1 : Nat)) (.int .i64 (d[Y]!.1.2 : Nat)) (.int .i64 (d[X]!.1.1 : Nat))
        have QS := Lib.hid (And.intro (And.intro (hR.out.c0 (X) (by have := HZ.out; omega)) (hR.out.c1 (X) (by have := HZ.out; omega))) (And.intro (hR.out.c0 (Y) (by have := HZ.out; omega)) (hR.out.c1 (Y) (by have := HZ.out; omega))))
        have k0 := QS.out.1.1
        have k1 := QS.out.1.2
        have k2 := QS.out.2.1
        have k3 := QS.out.2.2
        have f0 := hR.out.fz ((X) * 2)
        have f1 := hR.out.fz ((X) * 2 + 1)
        have f2 := hR.out.fz ((Y) * 2)
        have f3 := hR.out.fz ((Y) * 2 + 1)
        refine wp_region_free (fun w' => (w'.cell? ⟨g, (X) * 2, none⟩ = some (.int .i64 (d[X]!.1.1 : Nat)) ∧ w'.cell? ⟨g, (X) * 2 + 1, none⟩ = some (.int .i64 (d[X]!.1.2 : Nat))) ∧ (w'.cell? ⟨g, (Y) * 2, none⟩ = some (.int .i64 (d[Y]!.1.1 : Nat)) ∧ w'.cell? ⟨g, (Y) * 2 + 1, none⟩ = some (.int .i64 (d[Y]!.1.2 : Nat)))) [13, 15] (by kernel_rfl) QS.out (fun hSL => ?_)
        refine wpAnyFree_free 0 (v := ?_) rfl (by kernel_rfl) (by kernel_rfl) (by kernel_rfl) (fun _ _ _ h => h) (by rfl) (fun w' => ?_) ?_
        rotate_left
        · go_simp
          all_goals rfl
        try simp only [Act.put]
        try simp only [List.setIfInBounds_toArray]
        try simp only [List.set_cons_succ, List.set_cons_zero]
        refine wpAnyFree_free 1 (v := ?_) rfl (by kernel_rfl) (by kernel_rfl) (by kernel_rfl) (fun _ _ _ h => h) (by rfl) (fun w' => ?_) ?_
        rotate_left
        · go_simp
          all_goals rfl
        try simp only [Act.put]
        try simp only [List.setIfInBounds_toArray]
        try simp only [List.set_cons_succ, List.set_cons_zero]
        refine wpAnyFree_free 2 (v := ?_) rfl (by kernel_rfl) (by kernel_rfl) (by kernel_rfl) (fun _ _ _ h => h) (by rfl) (fun w' => ?_) ?_
        rotate_left
        · go_simp
          all_goals rfl
        try simp only [Act.put]
        try simp only [List.setIfInBounds_toArray]
        try simp only [List.set_cons_succ, List.set_cons_zero]
        refine wpAnyFree_free 3 (v := ?_) rfl (by kernel_rfl) (by kernel_rfl) (by kernel_rfl) (fun _ _ _ h => h) (by rfl) (fun w' => ?_) ?_
        rotate_left
        · go_simp
          all_goals rfl
        try simp only [Act.put]
        try simp only [List.setIfInBounds_toArray]
        try simp only [List.set_cons_succ, List.set_cons_zero]
        refine wpAnyFree_free 4 (v := ?_) rfl (by kernel_rfl) (by kernel_rfl) (by kernel_rfl) (fun _ _ _ h => h) (by rfl) (fun w' => ?_) ?_
        rotate_left
        · go_simp
          all_goals rfl
        try simp only [Act.put]
        try simp only [List.setIfInBounds_toArray]
        try simp only [List.set_cons_succ, List.set_cons_zero]
        refine wpAnyFree_free 5 (v := ?_) rfl (by kernel_rfl) (by kernel_rfl) (by kernel_rfl) (fun _ _ _ h => h) (by rfl) (fun w' => ?_) ?_
        rotate_left
        · go_simp
          all_goals rfl
        try simp only [Act.put]
        try simp only [List.setIfInBounds_toArray]
        try simp only [List.set_cons_succ, List.set_cons_zero]
        refine wpAnyFree_free 6 (v := ?_) rfl (by kernel_rfl) (by kernel_rfl) (by kernel_rfl) (fun _ _ _ h => h) (by rfl) (fun w' => ?_) ?_
        rotate_left
        · go_simp
          all_goals rfl
        try simp only [Act.put]
        try simp only [List.setIfInBounds_toArray]
        try simp only [List.set_cons_succ, List.set_cons_zero]
        refine wpAnyFree_take 7 (v := ?_) rfl (by kernel_rfl) (by kernel_rfl) (by kernel_rfl) (by kernel_rfl) (by kernel_rfl) (fun _ _ _ h => h) hSL (by rfl) (fun w' hw' => ?_) ?_
        rotate_left
        · obtain ⟨⟨g0, g1⟩, g2, g3⟩ := hw'
          go_simp
          all_goals rfl
        try simp only [Act.put]
        try simp only [List.setIfInBounds_toArray]
        try simp only [List.set_cons_succ, List.set_cons_zero]
        refine wpAnyFree_free 8 (v := ?_) rfl (by kernel_rfl) (by kernel_rfl) (by kernel_rfl) (fun _ _ _ h => h) (by rfl) (fun w' => ?_) ?_
        rotate_left
        · go_simp
          all_goals rfl
        try simp only [Act.put]
        try simp only [List.setIfInBounds_toArray]
        try simp only [List.set_cons_succ, List.set_cons_zero]
        refine wpAnyFree_free 9 (v := ?_) rfl (by kernel_rfl) (by kernel_rfl) (by kernel_rfl) (fun _ _ _ h => h) (by rfl) (fun w' => ?_) ?_
        rotate_left
        · go_simp
          all_goals rfl
        try simp only [Act.put]
        try simp only [List.setIfInBounds_toArray]
        try simp only [List.set_cons_succ, List.set_cons_zero]
        refine wpAnyFree_free 10 (v := ?_) rfl (by kernel_rfl) (by kernel_rfl) (by kernel_rfl) (fun _ _ _ h => h) (by rfl) (fun w' => ?_) ?_
        rotate_left
        · go_simp
          all_goals rfl
        try simp only [Act.put]
        try simp only [List.setIfInBounds_toArray]
        try simp only [List.set_cons_succ, List.set_cons_zero]
        refine wpAnyFree_take 11 (v := ?_) rfl (by kernel_rfl) (by kernel_rfl) (by kernel_rfl) (by kernel_rfl) (by kernel_rfl) (fun _ _ _ h => h) hSL (by rfl) (fun w' hw' => ?_) ?_
        rotate_left
        · obtain ⟨⟨g0, g1⟩, g2, g3⟩ := hw'
          go_simp
          all_goals rfl
        try simp only [Act.put]
        try simp only [List.setIfInBounds_toArray]
        try simp only [List.set_cons_succ, List.set_cons_zero]
        refine wpAnyFree_free 12 (v := ?_) rfl (by kernel_rfl) (by kernel_rfl) (by kernel_rfl) (fun _ _ _ h => h) (by rfl) (fun w' => ?_) ?_
        rotate_left
        · go_simp
          all_goals rfl
        try simp only [Act.put]
        try simp only [List.setIfInBounds_toArray]
        try simp only [List.set_cons_succ, List.set_cons_zero]
        refine wpAnyFree_late 13 (by kernel_rfl) (by kernel_rfl) rfl (by rfl) (fun K hK => ?_)
        go_simp
        refine hK.out _ _ ?_
        clear hK K
        try simp only [Act.put]
        try simp only [List.setIfInBounds_toArray]
        try simp only [List.set_cons_succ, List.set_cons_zero]
        refine wpAnyFree_free 14 (v := ?_) rfl (by kernel_rfl) (by kernel_rfl) (by kernel_rfl) (fun _ _ _ h => h) (by rfl) (fun w' => ?_) ?_
        rotate_left
        · go_simp
          all_goals rfl
        try simp only [Act.put]
        try simp only [List.setIfInBounds_toArray]
        try simp only [List.set_cons_succ, List.set_cons_zero]
        refine wpAnyFree_late 15 (by kernel_rfl) (by kernel_rfl) rfl (by rfl) (fun K hK => ?_)
        go_simp
        refine hK.out _ _ ?_
        clear hK K
        try simp only [Act.put]
        try simp only [List.setIfInBounds_toArray]
        try simp only [List.set_cons_succ, List.set_cons_zero]
        refine wpAnyFree_done (by kernel_rfl) ?_ _
        have R3 : Hid (RowQ w0 g (swp d (X) (Y)) (swpW wc2 g (X) (Y) d[Y]! d[X]!).drew) := Lib.hid ((hR.out.swap (i := X) (j := Y) (by have := HZ.out; omega) (by have := HZ.out; omega)).drew)
        clear e0 e1 k0 k1 k2 k3 f0 f1 f2 f3 hSL QS
        go_wp2_with fail
        have hX3 : X ≤ Y := by omega
        have hJb : J + 1 ≤ b := by omega
        have h0 : Hid ((swp d X Y).size = m) := Lib.hid ((size_swp d _ _).trans HZ.out)
        go_loopg [12, 13] (Y - 1 + 1 - (X + 1)) (fun gk i j wr => ∃ (I J : Nat) (d : Array Qs), a + 1 ≤ I ∧ I ≤ J + 2 ∧ J + 1 ≤ b ∧ gk = J + 1 - I ∧ i = .int .i64 I ∧ j = .int .i64 J ∧ Hid (d.size = m) ∧ Hid (T = partLoop ltQ a I J d) ∧ Hid (RowQ w0 g d wr))
        case atStart => exact ⟨X + 1, Y - 1, swp d X Y, by omega, by omega, by omega, rfl, by go_num, by congr 1; omega, h0, HT, R3⟩
        case round =>
          clear HT R3 hR HZ h0 hX3 y2 y3 y2b y3b hxy hxyi hX1 hX2 hY1 hY2 hIb hJb2
          obtain ⟨I, J, d, hI, hIJ, hJ, rfl, rfl, rfl, HZ, hT, hR⟩ := hrel
          go_upto_block 6 with fail
          go_cut [12] from 105 to 162 (fun v w' => ∃ X : Nat, v = .int .i64 X ∧ I ≤ X ∧ X ≤ J + 2 ∧ Hid (X = scanUp (fun x => ltQ x d[a]!) d J I) ∧ Hid (RowQ w0 g d w'))
          case first =>
            go_wp2_with fail
            go_loopg [12] (J + 1 - I) (fun gk i wr => ∃ X : Nat, I ≤ X ∧ X ≤ J + 2 ∧ gk = J + 1 - X ∧ i = .int .i64 X ∧ Hid (scanUp (fun x => ltQ x d[a]!) d J I = scanUp (fun x => ltQ x d[a]!) d J X) ∧ Hid (RowQ w0 g d wr))
            case atStart => exact ⟨I, by omega, by omega, rfl, rfl, Lib.hid rfl, hR⟩
            case round =>
              clear hR
              obtain ⟨X, hX1, hX2, rfl, rfl, hT, hR⟩ := hrel
              by_cases hx : X ≤ J
              · have hxi : (X : Int) ≤ (J : Int) := by omega
                have y1 : X < m := by omega
                have y1b : decide (X < m) = true := by simp; omega
                have KC := Lib.hid (fun wx => cmp_says d[X]! d[a]! wx)
                have HG := Lib.hid (fun h => scanUp_go (p := fun x => ltQ x d[a]!) (d := d) hx h)
                have HN := Lib.hid (fun h => scanUp_stop (p := fun x => ltQ x d[a]!) (d := d) (j := J) (i := X) h)
                have HPc := Lib.hid (pc_iff d[X]! d[a]!)
                unfold qV at KC
                generalize cmpQ d[X]!.1 d[a]!.1 = c at *
                by_cases hc : c < 0
                · have hcb : decide (c < 0) = true := decide_eq_true hc
                  have hpv := HPc.out.1 hc
                  have HE := Lib.hid (hT.out.trans (HG.out (by simp [hpv])))
                  clear HG HN HPc hpv
                  go_wp2_with fail
                  have QQ := Lib.hid (And.intro (And.intro (hR.out.c0 (X) (by have := HZ.out; omega)) (hR.out.c1 (X) (by have := HZ.out; omega))) (And.intro (hR.out.c0 (a) (by have := HZ.out; omega)) (hR.out.c1 (a) (by have := HZ.out; omega))))
                  go_region_held3 (fun w' => (w'.cell? ⟨g, (X) * 2, none⟩ = some (.int .i64 (d[X]!.1.1 : Nat)) ∧ w'.cell? ⟨g, (X) * 2 + 1, none⟩ = some (.int .i64 (d[X]!.1.2 : Nat))) ∧ (w'.cell? ⟨g, (a) * 2, none⟩ = some (.int .i64 (d[a]!.1.1 : Nat)) ∧ w'.cell? ⟨g, (a) * 2 + 1, none⟩ = some (.int .i64 (d[a]!.1.2 : Nat))))
                    (first
                      | exact QQ.out
                      | exact Q2.out)
                    (first
                      | (go_at_call 37; refine (KC.out _).mono ?_; rintro e w2 ⟨rfl, hs⟩; have R2 := Lib.hid (hR.out.drew.since hs); have Q2 := Lib.hid (And.intro (And.intro (R2.out.c0 (X) (by have := HZ.out; omega)) (R2.out.c1 (X) (by have := HZ.out; omega))) (And.intro (R2.out.c0 (a) (by have := HZ.out; omega)) (R2.out.c1 (a) (by have := HZ.out; omega)))); clear hs))
                  go_wp2_with fail
                  go_roundg (J + 1 - (X + 1))
                  case measure => omega
                  case rel => exact ⟨X + 1, by omega, by omega, rfl, by go_num, HE, R2⟩
                · have hcb : decide (c < 0) = false := decide_eq_false hc
                  have hci : 0 ≤ c := by omega
                  have hpv := HPc.out.2 hc
                  have HE := Lib.hid ((hT.out.trans (HN.out (fun h => by have h2 := h.2; simp only [hpv] at h2; cases h2))).symm)
                  clear HG HN HPc hpv
                  go_wp2_with fail
                  have QQ := Lib.hid (And.intro (And.intro (hR.out.c0 (X) (by have := HZ.out; omega)) (hR.out.c1 (X) (by have := HZ.out; omega))) (And.intro (hR.out.c0 (a) (by have := HZ.out; omega)) (hR.out.c1 (a) (by have := HZ.out; omega))))
                  go_region_held3 (fun w' => (w'.cell? ⟨g, (X) * 2, none⟩ = some (.int .i64 (d[X]!.1.1 : Nat)) ∧ w'.cell? ⟨g, (X) * 2 + 1, none⟩ = some (.int .i64 (d[X]!.1.2 : Nat))) ∧ (w'.cell? ⟨g, (a) * 2, none⟩ = some (.int .i64 (d[a]!.1.1 : Nat)) ∧ w'.cell? ⟨g, (a) * 2 + 1, none⟩ = some (.int .i64 (d[a]!.1.2 : Nat))))
                    (first
                      | exact QQ.out
                      | exact Q2.out)
                    (first
                      | (go_at_call 37; refine (KC.out _).mono ?_; rintro e w2 ⟨rfl, hs⟩; have R2 := Lib.hid (hR.out.drew.since hs); have Q2 := Lib.hid (And.intro (And.intro (R2.out.c0 (X) (by have := HZ.out; omega)) (R2.out.c1 (X) (by have := HZ.out; omega))) (And.intro (R2.out.c0 (a) (by have := HZ.out; omega)) (R2.out.c1 (a) (by have := HZ.out; omega)))); clear hs))
                  go_wp2_with fail
                  go_meet
                  case rel => exact ⟨X, rfl, by omega, by omega, HE, R2⟩
              · have hxi : ¬ (X : Int) ≤ (J : Int) := by omega
                have hxb : decide ((X : Int) ≤ (J : Int)) = false := decide_eq_false hxi
                have hxb2 : decide (X ≤ J) = false := decide_eq_false hx
                have HE := Lib.hid ((hT.out.trans (scanUp_stop (fun h => hx h.1))).symm)
                go_wp2_with fail
                go_quiet (fail)
                have R2 := Lib.hid (hR.out.since (since_drewN (World.Since.refl wr.heap.size wr) nq))
                go_wp2_with fail
                go_meet
                case rel => exact ⟨X, rfl, by omega, by omega, HE, R2⟩
          case rest =>
            obtain ⟨X, rfl, hX1, hX2, hXu, hR⟩ := hcut
            go_upto_block 8 with fail
            go_cut [13] from 105 to 162 (fun v w' => ∃ Y : Nat, v = .int .i64 Y ∧ X ≤ Y + 2 ∧ Y ≤ J ∧ Hid (Y = scanDown (fun x => !ltQ x d[a]!) d X J) ∧ Hid (RowQ w0 g d w'))
            case first =>
              go_wp2_with fail
              go_loopg [13] J (fun gk i wr => ∃ Y : Nat, X ≤ Y + 2 ∧ Y ≤ J ∧ gk = Y ∧ i = .int .i64 Y ∧ Hid (scanDown (fun x => !ltQ x d[a]!) d X J = scanDown (fun x => !ltQ x d[a]!) d X Y) ∧ Hid (RowQ w0 g d wr))
              case atStart => exact ⟨J, by omega, by omega, rfl, rfl, Lib.hid rfl, hR⟩
              case round =>
                clear hR
                obtain ⟨Y, hY1, hY2, hgk, rfl, hT, hR⟩ := hrel
                subst hgk
                by_cases hx : X ≤ gk
                · have hxi : (X : Int) ≤ (gk : Int) := by omega
                  have y1 : gk < m := by omega
                  have y1b : decide (gk < m) = true := by simp; omega
                  have KC := Lib.hid (fun wx => cmp_says d[gk]! d[a]! wx)
                  have HG := Lib.hid (fun h => scanDown_go (p := fun x => !ltQ x d[a]!) (d := d) (show 1 ≤ X by omega) hx h)
                  have HN := Lib.hid (fun h => scanDown_stop (p := fun x => !ltQ x d[a]!) (d := d) (j := gk) (i := X) h)
                  have HPc := Lib.hid (pc_iff d[gk]! d[a]!)
                  unfold qV at KC
                  generalize cmpQ d[gk]!.1 d[a]!.1 = c at *
                  by_cases hc : c < 0
                  · have hcb : decide (c < 0) = true := decide_eq_true hc
                    have hpv := HPc.out.1 hc
                    have HE := Lib.hid ((hT.out.trans (HN.out (fun h => by have h2 := h.2; simp only [hpv] at h2; cases h2))).symm)
                    clear HG HN HPc hpv
                    go_wp2_with fail
                    have QQ := Lib.hid (And.intro (And.intro (hR.out.c0 (gk) (by have := HZ.out; omega)) (hR.out.c1 (gk) (by have := HZ.out; omega))) (And.intro (hR.out.c0 (a) (by have := HZ.out; omega)) (hR.out.c1 (a) (by have := HZ.out; omega))))
                    go_region_held3 (fun w' => (w'.cell? ⟨g, (gk) * 2, none⟩ = some (.int .i64 (d[gk]!.1.1 : Nat)) ∧ w'.cell? ⟨g, (gk) * 2 + 1, none⟩ = some (.int .i64 (d[gk]!.1.2 : Nat))) ∧ (w'.cell? ⟨g, (a) * 2, none⟩ = some (.int .i64 (d[a]!.1.1 : Nat)) ∧ w'.cell? ⟨g, (a) * 2 + 1, none⟩ = some (.int .i64 (d[a]!.1.2 : Nat))))
                      (first
                        | exact QQ.out
                        | exact Q2.out)
                      (first
                        | (go_at_call 37; refine (KC.out _).mono ?_; rintro e w2 ⟨rfl, hs⟩; have R2 := Lib.hid (hR.out.drew.since hs); have Q2 := Lib.hid (And.intro (And.intro (R2.out.c0 (gk) (by have := HZ.out; omega)) (R2.out.c1 (gk) (by have := HZ.out; omega))) (And.intro (R2.out.c0 (a) (by have := HZ.out; omega)) (R2.out.c1 (a) (by have := HZ.out; omega)))); clear hs))
                    go_wp2_with fail
                    go_meet
                    case rel => exact ⟨gk, rfl, by omega, by omega, HE, R2⟩
                  · have hcb : decide (c < 0) = false := decide_eq_false hc
                    have hci : 0 ≤ c := by omega
                    have hpv := HPc.out.2 hc
                    have HE := Lib.hid (hT.out.trans (HG.out (by simp [hpv])))
                    clear HG HN HPc hpv
                    go_wp2_with fail
                    have QQ := Lib.hid (And.intro (And.intro (hR.out.c0 (gk) (by have := HZ.out; omega)) (hR.out.c1 (gk) (by have := HZ.out; omega))) (And.intro (hR.out.c0 (a) (by have := HZ.out; omega)) (hR.out.c1 (a) (by have := HZ.out; omega))))
                    go_region_held3 (fun w' => (w'.cell? ⟨g, (gk) * 2, none⟩ = some (.int .i64 (d[gk]!.1.1 : Nat)) ∧ w'.cell? ⟨g, (gk) * 2 + 1, none⟩ = some (.int .i64 (d[gk]!.1.2 : Nat))) ∧ (w'.cell? ⟨g, (a) * 2, none⟩ = some (.int .i64 (d[a]!.1.1 : Nat)) ∧ w'.cell? ⟨g, (a) * 2 + 1, none⟩ = some (.int .i64 (d[a]!.1.2 : Nat))))
                      (first
                        | exact QQ.out
                        | exact Q2.out)
                      (first
                        | (go_at_call 37; refine (KC.out _).mono ?_; rintro e w2 ⟨rfl, hs⟩; have R2 := Lib.hid (hR.out.drew.since hs); have Q2 := Lib.hid (And.intro (And.intro (R2.out.c0 (gk) (by have := HZ.out; omega)) (R2.out.c1 (gk) (by have := HZ.out; omega))) (And.intro (R2.out.c0 (a) (by have := HZ.out; omega)) (R2.out.c1 (a) (by have := HZ.out; omega)))); clear hs))
                    go_wp2_with fail
                    go_roundg (gk - 1)
                    case measure => omega
                    case rel => exact ⟨gk - 1, by omega, by omega, rfl, by congr 1; omega, HE, R2⟩
                · have hxi : ¬ (X : Int) ≤ (gk : Int) := by omega
                  have hxb : decide ((X : Int) ≤ (gk : Int)) = false := decide_eq_false hxi
                  have hxb2 : decide (X ≤ gk) = false := decide_eq_false hx
                  have HE := Lib.hid ((hT.out.trans (scanDown_stop (fun h => hx h.1))).symm)
                  go_wp2_with fail
                  go_quiet (fail)
                  have R2 := Lib.hid (hR.out.since (since_drewN (World.Since.refl wr.heap.size wr) nq))
                  go_wp2_with fail
                  go_meet
                  case rel => exact ⟨gk, rfl, by omega, by omega, HE, R2⟩
            case rest =>
              obtain ⟨Y, rfl, hY1, hY2, hYs, hR⟩ := hcut
              obtain ⟨wc2, rfl⟩ : ∃ wc2, wc2 = wc := ⟨_, rfl⟩
              have HS := Lib.hid (hT.out.trans (part_step hXu.out hYs.out hX1 hY2))
              clear hT hXu hYs
              by_cases hxy : Y < X
              · have hxyi : (Y : Int) < (X : Int) := by omega
                have HE2 : Hid (T = (Y, d)) := Lib.hid (by rw [HS.out, if_pos hxy])
                have HE3 : Hid (E = (Y, false, swp d Y a)) := Lib.hid (by rw [HE.out, HE2.out])
                clear HS HE2
                have y3 : Y < m := by omega
                have y3b : decide (Y < m) = true := by simp; omega
                go_wp2_with fail
                obtain ⟨u0, e0⟩ := hR.out.mid0 (i := Y) (j := a) (by have := HZ.out; omega) (.int .i64 (d[a]!.1.1 : Nat)) (.int .i64 (d[a]!.1.2 : Nat))
                obtain ⟨u1, e1⟩ := hR.out.mid1 (i := Y) (j := a) (by have := HZ.out; omega) (.int .i64 (d[a]!.1.1 : Nat)) (.int .i64 (d[a]!.1.2 : Nat)) (.int .i64 (d[Y]!.1.1 : Nat))
                have QS := Lib.hid (And.intro (And.intro (hR.out.c0 (Y) (by have := HZ.out; omega)) (hR.out.c1 (Y) (by have := HZ.out; omega))) (And.intro (hR.out.c0 (a) (by have := HZ.out; omega)) (hR.out.c1 (a) (by have := HZ.out; omega))))
                have k0 := QS.out.1.1
                have k1 := QS.out.1.2
                have k2 := QS.out.2.1
                have k3 := QS.out.2.2
                have f0 := hR.out.fz ((Y) * 2)
                have f1 := hR.out.fz ((Y) * 2 + 1)
                have f2 := hR.out.fz ((a) * 2)
                have f3 := hR.out.fz ((a) * 2 + 1)
                refine wp_region_free (fun w' => (w'.cell? ⟨g, (Y) * 2, none⟩ = some (.int .i64 (d[Y]!.1.1 : Nat)) ∧ w'.cell? ⟨g, (Y) * 2 + 1, none⟩ = some (.int .i64 (d[Y]!.1.2 : Nat))) ∧ (w'.cell? ⟨g, (a) * 2, none⟩ = some (.int .i64 (d[a]!.1.1 : Nat)) ∧ w'.cell? ⟨g, (a) * 2 + 1, none⟩ = some (.int .i64 (d[a]!.1.2 : Nat)))) [13, 15] (by kernel_rfl) QS.out (fun hSL => ?_)
                refine wpAnyFree_free 0 (v := ?_) rfl (by kernel_rfl) (by kernel_rfl) (by kernel_rfl) (fun _ _ _ h => h) (by rfl) (fun w' => ?_) ?_
                rotate_left
                · go_simp
                  all_goals rfl
                try simp only [Act.put]
                try simp only [List.setIfInBounds_toArray]
                try simp only [List.set_cons_succ, List.set_cons_zero]
                refine wpAnyFree_free 1 (v := ?_) rfl (by kernel_rfl) (by kernel_rfl) (by kernel_rfl) (fun _ _ _ h => h) (by rfl) (fun w' => ?_) ?_
                rotate_left
                · go_simp
                  all_goals rfl
                try simp only [Act.put]
                try simp only [List.setIfInBounds_toArray]
                try simp only [List.set_cons_succ, List.set_cons_zero]
                refine wpAnyFree_free 2 (v := ?_) rfl (by kernel_rfl) (by kernel_rfl) (by kernel_rfl) (fun _ _ _ h => h) (by rfl) (fun w' => ?_) ?_
                rotate_left
                · go_simp
                  all_goals rfl
                try simp only [Act.put]
                try simp only [List.setIfInBounds_toArray]
                try simp only [List.set_cons_succ, List.set_cons_zero]
                refine wpAnyFree_free 3 (v := ?_) rfl (by kernel_rfl) (by kernel_rfl) (by kernel_rfl) (fun _ _ _ h => h) (by rfl) (fun w' => ?_) ?_
                rotate_left
                · go_simp
                  all_goals rfl
                try simp only [Act.put]
                try simp only [List.setIfInBounds_toArray]
                try simp only [List.set_cons_succ, List.set_cons_zero]
                refine wpAnyFree_free 4 (v := ?_) rfl (by kernel_rfl) (by kernel_rfl) (by kernel_rfl) (fun _ _ _ h => h) (by rfl) (fun w' => ?_) ?_
                rotate_left
                · go_simp
                  all_goals rfl
                try simp only [Act.put]
                try simp only [List.setIfInBounds_toArray]
                try simp only [List.set_cons_succ, List.set_cons_zero]
                refine wpAnyFree_free 5 (v := ?_) rfl (by kernel_rfl) (by kernel_rfl) (by kernel_rfl) (fun _ _ _ h => h) (by rfl) (fun w' => ?_) ?_
                rotate_left
                · go_simp
                  all_goals rfl
                try simp only [Act.put]
                try simp only [List.setIfInBounds_toArray]
                try simp only [List.set_cons_succ, List.set_cons_zero]
                refine wpAnyFree_free 6 (v := ?_) rfl (by kernel_rfl) (by kernel_rfl) (by kernel_rfl) (fun _ _ _ h => h) (by rfl) (fun w' => ?_) ?_
                rotate_left
                · go_simp
                  all_goals rfl
                try simp only [Act.put]
                try simp only [List.setIfInBounds_toArray]
                try simp only [List.set_cons_succ, List.set_cons_zero]
                refine wpAnyFree_take 7 (v := ?_) rfl (by kernel_rfl) (by kernel_rfl) (by kernel_rfl) (by kernel_rfl) (by kernel_rfl) (fun _ _ _ h => h) hSL (by rfl) (fun w' hw' => ?_) ?_
                rotate_left
                · obtain ⟨⟨g0, g1⟩, g2, g3⟩ := hw'
                  go_simp
                  all_goals rfl
                try simp only [Act.put]
                try simp only [List.setIfInBounds_toArray]
                try simp only [List.set_cons_succ, List.set_cons_zero]
                refine wpAnyFree_free 8 (v := ?_) rfl (by kernel_rfl) (by kernel_rfl) (by kernel_rfl) (fun _ _ _ h => h) (by rfl) (fun w' => ?_) ?_
                rotate_left
                · go_simp
                  all_goals rfl
                try simp only [Act.put]
                try simp only [List.setIfInBounds_toArray]
                try simp only [List.set_cons_succ, List.set_cons_zero]
                refine wpAnyFree_free 9 (v := ?_) rfl (by kernel_rfl) (by kernel_rfl) (by kernel_rfl) (fun _ _ _ h => h) (by rfl) (fun w' => ?_) ?_
                rotate_left
                · go_simp
                  all_goals rfl
                try simp only [Act.put]
                try simp only [List.setIfInBounds_toArray]
                try simp only [List.set_cons_succ, List.set_cons_zero]
                refine wpAnyFree_free 10 (v := ?_) rfl (by kernel_rfl) (by kernel_rfl) (by kernel_rfl) (fun _ _ _ h => h) (by rfl) (fun w' => ?_) ?_
                rotate_left
                · go_simp
                  all_goals rfl
                try simp only [Act.put]
                try simp only [List.setIfInBounds_toArray]
                try simp only [List.set_cons_succ, List.set_cons_zero]
                refine wpAnyFree_take 11 (v := ?_) rfl (by kernel_rfl) (by kernel_rfl) (by kernel_rfl) (by kernel_rfl) (by kernel_rfl) (fun _ _ _ h => h) hSL (by rfl) (fun w' hw' => ?_) ?_
                rotate_left
                · obtain ⟨⟨g0, g1⟩, g2, g3⟩ := hw'
                  go_simp
                  all_goals rfl
                try simp only [Act.put]
                try simp only [List.setIfInBounds_toArray]
                try simp only [List.set_cons_succ, List.set_cons_zero]
                refine wpAnyFree_free 12 (v := ?_) rfl (by kernel_rfl) (by kernel_rfl) (by kernel_rfl) (fun _ _ _ h => h) (by rfl) (fun w' => ?_) ?_
                rotate_left
                · go_simp
                  all_goals rfl
                try simp only [Act.put]
                try simp only [List.setIfInBounds_toArray]
                try simp only [List.set_cons_succ, List.set_cons_zero]
                refine wpAnyFree_late 13 (by kernel_rfl) (by kernel_rfl) rfl (by rfl) (fun K hK => ?_)
                go_simp
                refine hK.out _ _ ?_
                clear hK K
                try simp only [Act.put]
                try simp only [List.setIfInBounds_toArray]
                try simp only [List.set_cons_succ, List.set_cons_zero]
                refine wpAnyFree_free 14 (v := ?_) rfl (by kernel_rfl) (by kernel_rfl) (by kernel_rfl) (fun _ _ _ h => h) (by rfl) (fun w' => ?_) ?_
                rotate_left
                · go_simp
                  all_goals rfl
                try simp only [Act.put]
                try simp only [List.setIfInBounds_toArray]
                try simp only [List.set_cons_succ, List.set_cons_zero]
                refine wpAnyFree_late 15 (by kernel_rfl) (by kernel_rfl) rfl (by rfl) (fun K hK => ?_)
                go_simp
                refine hK.out _ _ ?_
                clear hK K
                try simp only [Act.put]
                try simp only [List.setIfInBounds_toArray]
                try simp only [List.set_cons_succ, List.set_cons_zero]
                refine wpAnyFree_done (by kernel_rfl) ?_ _
                have R5 : Hid (RowQ w0 g (swp d (Y) (a)) (swpW wc2 g (Y) (a) d[a]! d[Y]!).drew) := Lib.hid ((hR.out.swap (i := Y) (j := a) (by have := HZ.out; omega) (by have := HZ.out; omega)).drew)
                clear e0 e1 k0 k1 k2 k3 f0 f1 f2 f3 hSL QS
                go_wp2_with fail
                go_ret2
                exact ⟨congrArg (fun r : Nat × Bool × Array Qs => Ending.returned (.tuple #[.int .i64 ((r.1 : Nat) : Int), .bool r.2.1])) HE3.out.symm, by rw [HE3.out]; exact R5.out⟩
              · have hxyi : ¬ (Y : Int) < (X : Int) := by omega
                have HE2 : Hid (T = partLoop ltQ a (X + 1) (Y - 1) (swp d X Y)) := Lib.hid (by rw [HS.out, if_neg hxy])
                clear HS
                have y2 : X < m := by omega
                have y3 : Y < m := by omega
                have y2b : decide (X < m) = true := by simp; omega
                have y3b : decide (Y < m) = true := by simp; omega
                go_wp2_with fail
                obtain ⟨u0, e0⟩ := hR.out.mid0 (i := X) (j := Y) (by have := HZ.out; omega) (.int .i64 (d[Y]!.1.1 : Nat)) (.int .i64 (d[Y]!.1.2 : Nat))
                obtain ⟨u1, e1⟩ := hR.out.mid1 (i := X) (j := Y) (by have := HZ.out; omega) (.int .i64 (d[Y]!.1.1 : Nat)) (.int .i64 (d[Y]!.1.2 : Nat)) (.int .i64 (d[X]!.1.1 : Nat))
                have QS := Lib.hid (And.intro (And.intro (hR.out.c0 (X) (by have := HZ.out; omega)) (hR.out.c1 (X) (by have := HZ.out; omega))) (And.intro (hR.out.c0 (Y) (by have := HZ.out; omega)) (hR.out.c1 (Y) (by have := HZ.out; omega))))
                have k0 := QS.out.1.1
                have k1 := QS.out.1.2
                have k2 := QS.out.2.1
                have k3 := QS.out.2.2
                have f0 := hR.out.fz ((X) * 2)
                have f1 := hR.out.fz ((X) * 2 + 1)
                have f2 := hR.out.fz ((Y) * 2)
                have f3 := hR.out.fz ((Y) * 2 + 1)
                refine wp_region_free (fun w' => (w'.cell? ⟨g, (X) * 2, none⟩ = some (.int .i64 (d[X]!.1.1 : Nat)) ∧ w'.cell? ⟨g, (X) * 2 + 1, none⟩ = some (.int .i64 (d[X]!.1.2 : Nat))) ∧ (w'.cell? ⟨g, (Y) * 2, none⟩ = some (.int .i64 (d[Y]!.1.1 : Nat)) ∧ w'.cell? ⟨g, (Y) * 2 + 1, none⟩ = some (.int .i64 (d[Y]!.1.2 : Nat)))) [13, 15] (by kernel_rfl) QS.out (fun hSL => ?_)
                refine wpAnyFree_free 0 (v := ?_) rfl (by kernel_rfl) (by kernel_rfl) (by kernel_rfl) (fun _ _ _ h => h) (by rfl) (fun w' => ?_) ?_
                rotate_left
                · go_simp
                  all_goals rfl
                try simp only [Act.put]
                try simp only [List.setIfInBounds_toArray]
                try simp only [List.set_cons_succ, List.set_cons_zero]
                refine wpAnyFree_free 1 (v := ?_) rfl (by kernel_rfl) (by kernel_rfl) (by kernel_rfl) (fun _ _ _ h => h) (by rfl) (fun w' => ?_) ?_
                rotate_left
                · go_simp
                  all_goals rfl
                try simp only [Act.put]
                try simp only [List.setIfInBounds_toArray]
                try simp only [List.set_cons_succ, List.set_cons_zero]
                refine wpAnyFree_free 2 (v := ?_) rfl (by kernel_rfl) (by kernel_rfl) (by kernel_rfl) (fun _ _ _ h => h) (by rfl) (fun w' => ?_) ?_
                rotate_left
                · go_simp
                  all_goals rfl
                try simp only [Act.put]
                try simp only [List.setIfInBounds_toArray]
                try simp only [List.set_cons_succ, List.set_cons_zero]
                refine wpAnyFree_free 3 (v := ?_) rfl (by kernel_rfl) (by kernel_rfl) (by kernel_rfl) (fun _ _ _ h => h) (by rfl) (fun w' => ?_) ?_
                rotate_left
                · go_simp
                  all_goals rfl
                try simp only [Act.put]
                try simp only [List.setIfInBounds_toArray]
                try simp only [List.set_cons_succ, List.set_cons_zero]
                refine wpAnyFree_free 4 (v := ?_) rfl (by kernel_rfl) (by kernel_rfl) (by kernel_rfl) (fun _ _ _ h => h) (by rfl) (fun w' => ?_) ?_
                rotate_left
                · go_simp
                  all_goals rfl
                try simp only [Act.put]
                try simp only [List.setIfInBounds_toArray]
                try simp only [List.set_cons_succ, List.set_cons_zero]
                refine wpAnyFree_free 5 (v := ?_) rfl (by kernel_rfl) (by kernel_rfl) (by kernel_rfl) (fun _ _ _ h => h) (by rfl) (fun w' => ?_) ?_
                rotate_left
                · go_simp
                  all_goals rfl
                try simp only [Act.put]
                try simp only [List.setIfInBounds_toArray]
                try simp only [List.set_cons_succ, List.set_cons_zero]
                refine wpAnyFree_free 6 (v := ?_) rfl (by kernel_rfl) (by kernel_rfl) (by kernel_rfl) (fun _ _ _ h => h) (by rfl) (fun w' => ?_) ?_
                rotate_left
                · go_simp
                  all_goals rfl
                try simp only [Act.put]
                try simp only [List.setIfInBounds_toArray]
                try simp only [List.set_cons_succ, List.set_cons_zero]
                refine wpAnyFree_take 7 (v := ?_) rfl (by kernel_rfl) (by kernel_rfl) (by kernel_rfl) (by kernel_rfl) (by kernel_rfl) (fun _ _ _ h => h) hSL (by rfl) (fun w' hw' => ?_) ?_
                rotate_left
                · obtain ⟨⟨g0, g1⟩, g2, g3⟩ := hw'
                  go_simp
                  all_goals rfl
                try simp only [Act.put]
                try simp only [List.setIfInBounds_toArray]
                try simp only [List.set_cons_succ, List.set_cons_zero]
                refine wpAnyFree_free 8 (v := ?_) rfl (by kernel_rfl) (by kernel_rfl) (by kernel_rfl) (fun _ _ _ h => h) (by rfl) (fun w' => ?_) ?_
                rotate_left
                · go_simp
                  all_goals rfl
                try simp only [Act.put]
                try simp only [List.setIfInBounds_toArray]
                try simp only [List.set_cons_succ, List.set_cons_zero]
                refine wpAnyFree_free 9 (v := ?_) rfl (by kernel_rfl) (by kernel_rfl) (by kernel_rfl) (fun _ _ _ h => h) (by rfl) (fun w' => ?_) ?_
                rotate_left
                · go_simp
                  all_goals rfl
                try simp only [Act.put]
                try simp only [List.setIfInBounds_toArray]
                try simp only [List.set_cons_succ, List.set_cons_zero]
                refine wpAnyFree_free 10 (v := ?_) rfl (by kernel_rfl) (by kernel_rfl) (by kernel_rfl) (fun _ _ _ h => h) (by rfl) (fun w' => ?_) ?_
                rotate_left
                · go_simp
                  all_goals rfl
                try simp only [Act.put]
                try simp only [List.setIfInBounds_toArray]
                try simp only [List.set_cons_succ, List.set_cons_zero]
                refine wpAnyFree_take 11 (v := ?_) rfl (by kernel_rfl) (by kernel_rfl) (by kernel_rfl) (by kernel_rfl) (by kernel_rfl) (fun _ _ _ h => h) hSL (by rfl) (fun w' hw' => ?_) ?_
                rotate_left
                · obtain ⟨⟨g0, g1⟩, g2, g3⟩ := hw'
                  go_simp
                  all_goals rfl
                try simp only [Act.put]
                try simp only [List.setIfInBounds_toArray]
                try simp only [List.set_cons_succ, List.set_cons_zero]
                refine wpAnyFree_free 12 (v := ?_) rfl (by kernel_rfl) (by kernel_rfl) (by kernel_rfl) (fun _ _ _ h => h) (by rfl) (fun w' => ?_) ?_
                rotate_left
                · go_simp
                  all_goals rfl
                try simp only [Act.put]
                try simp only [List.setIfInBounds_toArray]
                try simp only [List.set_cons_succ, List.set_cons_zero]
                refine wpAnyFree_late 13 (by kernel_rfl) (by kernel_rfl) rfl (by rfl) (fun K hK => ?_)
                go_simp
                refine hK.out _ _ ?_
                clear hK K
                try simp only [Act.put]
                try simp only [List.setIfInBounds_toArray]
                try simp only [List.set_cons_succ, List.set_cons_zero]
                refine wpAnyFree_free 14 (v := ?_) rfl (by kernel_rfl) (by kernel_rfl) (by kernel_rfl) (fun _ _ _ h => h) (by rfl) (fun w' => ?_) ?_
                rotate_left
                · go_simp
                  all_goals rfl
                try simp only [Act.put]
                try simp only [List.setIfInBounds_toArray]
                try simp only [List.set_cons_succ, List.set_cons_zero]
                refine wpAnyFree_late 15 (by kernel_rfl) (by kernel_rfl) rfl (by rfl) (fun K hK => ?_)
                go_simp
                refine hK.out _ _ ?_
                clear hK K
                try simp only [Act.put]
                try simp only [List.setIfInBounds_toArray]
                try simp only [List.set_cons_succ, List.set_cons_zero]
                refine wpAnyFree_done (by kernel_rfl) ?_ _
                have R3 : Hid (RowQ w0 g (swp d (X) (Y)) (swpW wc2 g (X) (Y) d[Y]! d[X]!).drew) := Lib.hid ((hR.out.swap (i := X) (j := Y) (by have := HZ.out; omega) (by have := HZ.out; omega)).drew)
                clear e0 e1 k0 k1 k2 k3 f0 f1 f2 f3 hSL QS
                go_wp2_with fail
                go_roundg (Y - 1 + 1 - (X + 1))
                case measure => omega
                case rel => exact ⟨X + 1, Y - 1, swp d X Y, by omega, by omega, by omega, rfl, by go_num, by congr 1; omega, Lib.hid ((size_swp d _ _).trans HZ.out), HE2, R3⟩
end Go.Proofs.YtkklagdniaoghaaGreatDoor
