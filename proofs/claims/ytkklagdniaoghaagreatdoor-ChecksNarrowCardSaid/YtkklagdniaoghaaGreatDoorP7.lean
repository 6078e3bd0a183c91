/- The walk of the specification's interval. -/
import Derived.Test.YtkklagdniaoghaaGreatDoorP6
import Derived.Test.YtkklagdniaoghaaGreatDoorP7a
namespace Go.Proofs.YtkklagdniaoghaaGreatDoor
open Go.RowKit Go.Proofs.Rank Go.Sort Go.Proofs.MapEnt
open Go.Proofs.Frac (fr)

theorem ranks_small {ps : List (Int × Int)} {ds : List (List Int)} {I : Nat} {L : List (Nat × Nat)} (h : OkS ps ds) (hR : Ranks ps (ds.take I) L) : ∀ q ∈ L, q.1 ≤ 256000000 ∧ 0 < q.2 ∧ q.2 ≤ 256000000 := by
  intro q hq
  obtain ⟨d, hd, rfl⟩ := List.mem_map.1 (hR.2.mem_iff.1 hq)
  obtain ⟨h1, h2, h3⟩ := sc_small h d (h.dd d (List.mem_of_mem_take hd)).2.1
  exact ⟨h1, h3, h2⟩
theorem cmpP {x y : Nat × Nat} (hx : x.1 ≤ 256000000 ∧ 0 < x.2 ∧ x.2 ≤ 256000000) (hy : y.1 ≤ 256000000 ∧ 0 < y.2 ∧ y.2 ≤ 256000000) (w : World) :
    Calls Tryz.prog 16 #[.agg #[.int .i64 (x.1 : Nat), .int .i64 (x.2 : Nat)], .agg #[.int .i64 (y.1 : Nat), .int .i64 (y.2 : Nat)]] w fun e w' => e = .returned (.int .i64 (cmpQ x y)) ∧ w.Since w.heap.size w' := refCmp_says ⟨x, hx⟩ ⟨y, hy⟩ w
theorem put_take {ps : List (Int × Int)} {ds : List (List Int)} {I : Nat} {L : List (Nat × Nat)} (hlt : I < ds.length) (hR : Ranks ps (ds.take I) L) (k : Nat) (hk : k ≤ L.length) (h1 : ∀ (h : 0 < k), le (L[k - 1]'(by omega)) (sc ps ds[I])) (h2 : ∀ i (h : i < L.length), k ≤ i → le (sc ps ds[I]) L[i]) :
    Ranks ps (ds.take (I + 1)) (L.take k ++ sc ps ds[I] :: L.drop k) := by
  rw [List.take_succ_eq_append_getElem hlt]
  exact ranks_put hR _ hk h1 h2
theorem own_block {w : World} {base n : Nat} {G : Option Addr} {cap k : Nat} {xs : List Value} (h : w.ownsRow base 25 2 (.slice G n cap) n xs) {G2 : Option Addr} (hG : (if cap = k then G else Option.map (fun x => x.add (k * 2)) G) = G2) : ∀ ad, G2 = some ad → ad.block < w.heap.size := by
  intro ad e
  obtain ⟨h1, ⟨e1, h2⟩ | ⟨g, cap', cur, e1, hb, hr, hc, hc2⟩⟩ := id h
  · injection e1 with e1 e2 e3
    subst e1
    rw [← hG] at e
    split at e <;> cases e
  · injection e1 with e1 e2 e3
    have hg := (h.lt g (by rw [e1]; rfl)).2
    subst e1
    rw [← hG] at e
    split at e
    · cases e; exact hg
    · cases e; rw [block_add]; exact hg
set_option maxHeartbeats 3200000 in
set_option maxRecDepth 1000000 in
theorem refInterval_says (ps : List (Int × Int)) (ds : List (List Int)) (out : Int) (A D : Option Addr) (c k : Nat) (w : World) (hP : PIn w A c ps) (hD : DIn w D k ds) (hl : c ≤ 9223372036854775807) (hk : k ≤ 9223372036854775807) (hd : ∀ d ∈ ds, d.length ≤ 9223372036854775807)
    (ho1 : -9223372036854775808 ≤ out) (ho2 : out ≤ 9223372036854775807) :
    Calls Tryz.prog 13 #[.slice A ps.length c, .slice D ds.length k, .int .i64 out] w (IvlSay ps ds out w) := by
  obtain ⟨i25, hi25, hz20, hz21, hz22⟩ := info_parts info25
  have hp1 := hP.cap
  have hp2 := hD.cap
  have S0 := Lib.hid (since_alloc (since_alloc (World.Since.refl w.heap.size w) (.cells #[.int .i64 0, .int .i64 0] 25)) (.cells #[.int .i64 0, .int .i64 0] 25))
  have T0 := Lib.hid (twoB_new w)
  have KD := Lib.hid (sampled_says ps ds A D c k _ (hP.up S0.out) (hD.up S0.out) hl hk hd)
  have HP := Lib.hid hP
  have HD := Lib.hid hD
  have HE := Lib.hid (fun (n : Nat) (h : ivlE ps ds out = n) (h0 : n ≠ 0) (w' : World) (hs : w.Since w.heap.size w') => ivl_err h h0 hs)
  have HES := Lib.hid (ivlE_s (ps := ps) (ds := ds) (out := out))
  have HE1 := Lib.hid (ivlE_1 (ps := ps) (ds := ds) (out := out))
  have HE0 := Lib.hid (ivlE_0 (ps := ps) (ds := ds) (out := out))
  have HOK := Lib.hid (okS_of (ps := ps) (ds := ds))
  generalize sampE ps ds = E at *
  clear hP hD hd
  go_enter Tryz.func13, Tryz.ntmps13
  go_wp2_with fail
  refine KD.out.mono ?_
  rintro e w2 ⟨rfl, rfl⟩
  clear KD
  obtain ⟨w2, hw2⟩ : ∃ w2, w2 = (w.alloc (.cells #[.int .i64 0, .int .i64 0] 25)).alloc (.cells #[.int .i64 0, .int .i64 0] 25) := ⟨_, rfl⟩
  rw [← hw2] at S0 T0 ⊢
  clear hw2
  obtain ⟨k0, k1, k2, k3⟩ := T0.out.cells
  obtain ⟨f0, f1, f2, f3⟩ := T0.out.frozen
  by_cases hz : E = 0
  case neg =>
    have hz1 : ((E : Int) == 0) = false := by simp; omega
    have hz2 : ((E : Int) != 0) = true := by simp; omega
    have HF := Lib.hid (HE.out E (HES.out hz) hz)
    clear HE HES HE1 HE0 HOK hz
    go_wp2_with fail
    exact bodyPost_ret (v := .tuple #[.agg #[.int .i64 0, .int .i64 0], .agg #[.int .i64 0, .int .i64 0], .int .u8 E]) (by simp [results, Tryz.results13, go_sem, k0, k1, k2, k3]) rfl (HF.out _ ((((S0.out.setCell (Nat.le_refl _) _).setCell (Nat.le_refl _) _).setCell (Nat.le_succ _) _).setCell (Nat.le_succ _) _))
  case pos =>
    subst hz
    by_cases ho : out < 0
    · have HF := Lib.hid (HE.out 1 (HE1.out (by trivial) (.inl ho)) (by decide))
      clear HE HES HE1 HE0 HOK
      go_wp2_with fail
      exact bodyPost_ret (v := .tuple #[.agg #[.int .i64 0, .int .i64 0], .agg #[.int .i64 0, .int .i64 0], .int .u8 1]) (by simp [results, Tryz.results13, go_sem, k0, k1, k2, k3]) rfl (HF.out _ ((((S0.out.setCell (Nat.le_refl _) _).setCell (Nat.le_refl _) _).setCell (Nat.le_succ _) _).setCell (Nat.le_succ _) _))
    by_cases ho3 : 499 < out
    · have HF := Lib.hid (HE.out 1 (HE1.out (by trivial) (.inr ho3)) (by decide))
      clear HE HES HE1 HE0 HOK
      go_wp2_with fail
      exact bodyPost_ret (v := .tuple #[.agg #[.int .i64 0, .int .i64 0], .agg #[.int .i64 0, .int .i64 0], .int .u8 1]) (by simp [results, Tryz.results13, go_sem, k0, k1, k2, k3]) rfl (HF.out _ ((((S0.out.setCell (Nat.le_refl _) _).setCell (Nat.le_refl _) _).setCell (Nat.le_succ _) _).setCell (Nat.le_succ _) _))
    obtain ⟨O, rfl⟩ : ∃ O : Nat, out = O := ⟨out.toNat, by omega⟩
    have hE0 := Lib.hid (HE0.out (by trivial) (by omega))
    have hOK := Lib.hid (HOK.out (by trivial))
    have hn0 : 0 < ds.length := hOK.out.nd
    have hn1 : ds.length ≤ 1000 := hOK.out.ld
    clear HE HES HE1 HE0 HOK
    go_wp2_with fail
    clear k0 k1 k2 k3 f0 f1 f2 f3
    go_loopg [10, 11] ds.length (fun gk o i wr => ∃ (I : Nat) (L : List (Nat × Nat)), I ≤ ds.length ∧ gk = ds.length - I ∧ i = .int .i64 I ∧ Hid (Ranks ps (ds.take I) L ∧ L.length = I) ∧ Hid (wr.ownsRow (w.heap.size + 2) 25 2 o I (pC L)) ∧ Hid (TwoB w.heap.size wr) ∧ Hid (w.Since w.heap.size wr))
    case atStart => exact ⟨0, [], by omega, by omega, rfl, Lib.hid ⟨ranks_nil _, rfl⟩, Lib.hid (World.ownsRow_nil _ _ _ _), T0, S0⟩
    case round =>
      clear T0 S0
      obtain ⟨I, L, hI, rfl, rfl, hR, hO, hT, hS⟩ := hrel
      obtain ⟨G, cp, rfl, hIcp, hcpm, _⟩ := own_slice hO.out
      by_cases hlt : I < ds.length
      · obtain ⟨ad, R, kk, rfl, hab, c0, hIn⟩ := (HD.out.up hS.out).at_ I hlt
        have hltI : (I : Int) < (ds.length : Int) := by omega
        have KS := Lib.hid (refScore_says ps ds[I] A R c kk wr (HP.out.up hS.out) hIn (okQ_of hOK.out hlt) (by omega))
        have HPut := Lib.hid (put_take hlt hR.out.1)
        have hqs := Lib.hid (sc_small hOK.out ds[I] (hOK.out.dd _ (List.getElem_mem hlt)).2.1)
        generalize sc ps ds[I] = q at *
        generalize ds[I] = d at *
        obtain ⟨q1, q2⟩ := q
        unfold frV at KS
        simp only at KS
        have hsz := hS.out.size
        have hsz2 := hT.out.2.2
        clear hab hIn
        go_wp2_with fail
        refine KS.out.mono ?_
        rintro e w3 ⟨rfl, hs⟩
        have hO2 := Lib.hid (ownsRow_since hO.out hs)
        have hT2 := Lib.hid (hT.out.up hs)
        have hS2 := Lib.hid (since_two hS.out hs)
        have hsz := hS2.out.size
        have hsz2 := hT2.out.2.2
        have hs3 := Lib.hid hs
        clear hs KS hO hT hS
        obtain ⟨w4, hw4⟩ : ∃ w4, w4 = w3.alloc (.cells #[.int .i64 q1, .int .i64 q2] 25) := ⟨_, rfl⟩
        have B4 : Hid (w4.cell? ⟨w3.heap.size, 0, none⟩ = some (.int .i64 q1) ∧ w4.cell? ⟨w3.heap.size, 1, none⟩ = some (.int .i64 q2) ∧ w3.heap.size < w4.heap.size) := Lib.hid (by rw [hw4]; simp)
        have O4 : Hid (w4.ownsRow (w.heap.size + 2) 25 2 (.slice G I cp) I (pC L)) := Lib.hid (by rw [hw4]; exact hO2.out.alloc _)
        have T4 : Hid (TwoB w.heap.size w4) := Lib.hid (by rw [hw4]; exact hT2.out.up ((World.Since.refl _ _).alloc (Nat.le_refl _) _))
        have S4 : Hid (w.Since w.heap.size w4) := Lib.hid (by rw [hw4]; exact hS2.out.alloc hsz _)
        clear hO2 hT2 hS2
        have hLI := Lib.hid hR.out.2
        have hsm := Lib.hid (ranks_small hOK.out hR.out.1)
        go_wp2_with fail
        rw [← hw4]
        clear hw4
        go_loopg [13] I (fun gk at_ wr => ∃ J : Nat, J ≤ I ∧ gk = J ∧ at_ = .int .i64 J ∧ Hid (∀ i (h : i < L.length), J ≤ i → le (q1, q2) L[i]) ∧ Hid (w4.Since w4.heap.size wr))
        case atStart => exact ⟨I, Nat.le_refl _, rfl, rfl, Lib.hid (fun i h h2 => by have := hLI.out; omega), Lib.hid (World.Since.refl _ _)⟩
        case round =>
          obtain ⟨J, hJ, rfl, rfl, hGe, hS5⟩ := hrel
          rcases Nat.eq_zero_or_pos gk with hg0 | hg0
          · have hn0z : decide ((0 : Int) < (gk : Int)) = false := decide_eq_false (by omega)
            have ha0z : decide ((gk : Int) > 0) = false := decide_eq_false (by omega)
            have hn0 : ¬ (0 < gk) := by omega
            have hn0d : decide (0 < gk) = false := decide_eq_false hn0
            have HQ1 : Hid (∀ (h : 0 < gk ∧ gk - 1 < L.length), le (L[gk - 1]'h.2) (q1, q2)) := Lib.hid (fun h => absurd h.1 (by omega))
            clear hg0
            go_wp2_with fail
            go_quiet (fail)
            have S7 := Lib.hid (since_drewN hS5.out nq)
            clear hS5
            generalize wr.drewN nq = w7 at *
            go_wp2_with fail
            have hgI : gk ≤ I := by omega
            have hcp : gk ≤ cp := by omega
            obtain ⟨G2, hG2⟩ : ∃ G2 : Option Addr, (if cp = gk then G else Option.map (fun x : Addr => x.add (gk * 2)) G) = G2 := ⟨_, rfl⟩
            have HSr := Lib.hid (row_src O4.out gk hgI)
            have Sa : Hid (SrcIn w4 G (L.take gk)) := Lib.hid HSr.out.1
            have Sb : Hid (SrcIn w4 G2 (L.drop gk)) := Lib.hid (HSr.out.2 G2 hG2)
            clear HSr
            have HB2 : Hid (∀ ad, G2 = some ad → ad.block < w4.heap.size) := Lib.hid (own_block O4.out hG2)
            have QB := Lib.hid (And.intro ((S7.out.drew.cell (a := ⟨w3.heap.size, 0, none⟩) B4.out.2.2).trans B4.out.1) ((S7.out.drew.cell (a := ⟨w3.heap.size, 1, none⟩) B4.out.2.2).trans B4.out.2.1))
            have QS : Hid (∀ y, w7.Since w7.heap.size y → (fun w' => w'.cell? ⟨w3.heap.size, 0, none⟩ = some (.int .i64 (q1 : Nat)) ∧ w'.cell? ⟨w3.heap.size, 1, none⟩ = some (.int .i64 (q2 : Nat))) y) := Lib.hid (fun y hs => And.intro ((hs.cell (a := ⟨w3.heap.size, 0, none⟩) (by have := B4.out.2.2; have := S7.out.size; show w3.heap.size < _; omega)).trans ((S7.out.cell (a := ⟨w3.heap.size, 0, none⟩) B4.out.2.2).trans B4.out.1)) ((hs.cell (a := ⟨w3.heap.size, 1, none⟩) (by have := B4.out.2.2; have := S7.out.size; show w3.heap.size < _; omega)).trans ((S7.out.cell (a := ⟨w3.heap.size, 1, none⟩) B4.out.2.2).trans B4.out.2.1)))
            refine wp_region_free (fun w' => w'.cell? ⟨w3.heap.size, 0, none⟩ = some (.int .i64 (q1 : Nat)) ∧ w'.cell? ⟨w3.heap.size, 1, none⟩ = some (.int .i64 (q2 : Nat))) [] (by kernel_rfl) QB.out (fun hSL => ?_)
            refine wpAnyFree_free 1 (v := ?_) rfl (by kernel_rfl) (by kernel_rfl) (by kernel_rfl) (fun _ _ _ h => h) (by rfl) (fun w' => ?_) ?_
            rotate_left
            · go_simp
              all_goals rfl
            try simp only [Act.put]
            try simp only [List.setIfInBounds_toArray]
            try simp only [List.set_cons_succ, List.set_cons_zero]
            refine wpAnyFree_free 2 (v := ?_) rfl (by kernel_rfl) (by kernel_rfl) (by kernel_rfl) (fun _ _ _ h => h) (by rfl) (fun w' => ?_) ?_
            rotate_left
            · go_simp
              all_goals rfl
            try simp only [Act.put]
            try simp only [List.setIfInBounds_toArray]
            try simp only [List.set_cons_succ, List.set_cons_zero]
            refine wpAnyFree_free 3 (v := ?_) rfl (by kernel_rfl) (by kernel_rfl) (by kernel_rfl) (fun _ _ _ h => h) (by rfl) (fun w' => ?_) ?_
            rotate_left
            · go_simp
              all_goals rfl
            try simp only [Act.put]
            try simp only [List.setIfInBounds_toArray]
            try simp only [List.set_cons_succ, List.set_cons_zero]
            refine wpAnyFree_take 5 (v := ?_) rfl (by kernel_rfl) (by kernel_rfl) (by kernel_rfl) (by kernel_rfl) (by kernel_rfl) (fun _ _ _ h => h) hSL (by rfl) (fun w' hw' => ?_) ?_
            rotate_left
            · obtain ⟨g0, g1⟩ := hw'
              go_simp
              all_goals rfl
            try simp only [Act.put]
            try simp only [List.setIfInBounds_toArray]
            try simp only [List.set_cons_succ, List.set_cons_zero]
            refine wpAnyFree_free 8 (v := ?_) rfl (by kernel_rfl) (by kernel_rfl) (by kernel_rfl) (fun _ _ _ h => h) (by rfl) (fun w' => ?_) ?_
            rotate_left
            · go_simp
              all_goals rfl
            try simp only [Act.put]
            try simp only [List.setIfInBounds_toArray]
            try simp only [List.set_cons_succ, List.set_cons_zero]
            refine wpAnyFree_free 9 (v := ?_) rfl (by kernel_rfl) (by kernel_rfl) (by kernel_rfl) (fun _ _ _ h => h) (by rfl) (fun w' => ?_) ?_
            rotate_left
            · go_simp
              all_goals rfl
            try simp only [Act.put]
            try simp only [List.setIfInBounds_toArray]
            try simp only [List.set_cons_succ, List.set_cons_zero]
            refine wpAnyFree_free 10 (v := ?_) rfl (by kernel_rfl) (by kernel_rfl) (by kernel_rfl) (fun _ _ _ h => h) (by rfl) (fun w' => ?_) ?_
            rotate_left
            · go_simp
              all_goals rfl
            try simp only [Act.put]
            try simp only [List.setIfInBounds_toArray]
            try simp only [List.set_cons_succ, List.set_cons_zero]
            have Sa := Lib.hid (Sa.out.up S7.out.drew)
            have Sb := Lib.hid (Sb.out.up S7.out.drew)
            have la : Hid (gk = (L.take gk).length) := Lib.hid (by have := hLI.out; simp; omega)
            have lb : Hid (I - gk = (L.drop gk).length) := Lib.hid (by have := hLI.out; simp; omega)
            have lc : gk ≤ 1000 ∧ (L.take gk).length ≤ gk ∧ (L.drop gk).length ≤ 1000 := by have := la.out; have := lb.out; omega
            have hne : ∀ (y : World) (n : Nat) ad, SrcIn y (some ad) (L.take gk) → True := fun _ _ _ _ => trivial
            clear hne
            obtain ⟨wb, hwb⟩ : ∃ y, y = w7.drew := ⟨_, rfl⟩
            have SW : Hid (w7.Since w7.heap.size wb) := Lib.hid (by rw [hwb]; exact (World.Since.refl _ _).drew)
            rw [← hwb] at Sa Sb ⊢
            have lw2 : wb.heap.size ≤ w7.heap.size ∧ w7.heap.size ≤ wb.heap.size := by rw [hwb]; exact ⟨Nat.le_refl _, Nat.le_refl _⟩
            clear hwb hSL QB hG2
            refine wpAnyFree_call2 0 6 (by kernel_rfl) rfl rfl (by rfl) (by rfl) (fun K hK => ?_) (fun K hK => ?_)
            · go_simp
              refine hK.out _ _ (QS.out _ (SW.out.alloc SW.out.size _)) (fun hSL => ?_)
              clear hK K hSL
              try simp only [Act.put]
              try simp only [List.setIfInBounds_toArray]
              try simp only [List.set_cons_succ, List.set_cons_zero]
              obtain ⟨x0, hX⟩ : ∃ y, y = wb.alloc (.cells #[] 25) := ⟨_, rfl⟩
              have O0 : Hid (x0.ownsRow wb.heap.size 25 2 (.slice (some ⟨wb.heap.size, 0, none⟩) 0 0) 0 []) := Lib.hid (by rw [hX]; exact lit_q wb)
              have Ux0 : Hid (wb.Since wb.heap.size x0) := Lib.hid (by rw [hX]; exact (World.Since.refl _ _).alloc (Nat.le_refl _) _)
              have zx0 : wb.heap.size + 1 ≤ x0.heap.size ∧ x0.heap.size ≤ wb.heap.size + 1 := by rw [hX]; simp
              rw [← hX]
              clear hX
              have Sa0 := Lib.hid (Sa.out.up Ux0.out)
              have Sb0 := Lib.hid (Sb.out.up Ux0.out)
              have SX := Lib.hid (since_two SW.out Ux0.out)
              clear Sa Sb Ux0
              refine wpAnyFree_call2 4 6 (by kernel_rfl) rfl rfl (by rfl) (by rfl) (fun K hK => ?_) (fun K hK => ?_)
              · refine oper_append (.tmp 61) (.tmp 64) rfl rfl O0.out G cp (L.take gk) _ la.out rfl Sa0.out (by have := lc; (try simp only [List.length_cons, List.length_nil]); omega) (by omega) ?_
                intro v1 x1 hown hgrow
                have O1 := Lib.hid hown
                have G1 := Lib.hid hgrow
                have gzx1 := hgrow.size
                clear hown hgrow
                have SX1 : Hid (w7.Since w7.heap.size x1) := Lib.hid (since_grown SX.out SX.out.size G1.out (fun k e => by have := (O0.out.lt k e).1; omega))
                refine hK.out _ _ (QS.out _ (SX1.out)) (fun hSL => ?_)
                clear hK K hSL
                try simp only [Act.put]
                try simp only [List.setIfInBounds_toArray]
                try simp only [List.set_cons_succ, List.set_cons_zero]
                have Sb1 : Hid (SrcIn x1 G2 (L.drop gk)) := Lib.hid (Sb0.out.grown G1.out (fun ad e h => by have := HB2.out ad e; have := (O0.out.lt _ h.symm).1; have := S7.out.size; omega))
                clear Sa0 Sb0 O0 G1 SX
                refine wpAnyFree_call 6 (by kernel_rfl) rfl (by rfl) (fun K hK => ?_)
                go_simp
                refine hK.out _ _ (QS.out _ (SX1.out.alloc SX1.out.size _)) (fun hSL => ?_)
                clear hK K hSL
                try simp only [Act.put]
                try simp only [List.setIfInBounds_toArray]
                try simp only [List.set_cons_succ, List.set_cons_zero]
                obtain ⟨x2, hX⟩ : ∃ y, y = x1.alloc (.cells #[.int .i64 q1, .int .i64 q2] 25) := ⟨_, rfl⟩
                have Q1 : Hid (SrcIn x2 (some ⟨x1.heap.size, 0, none⟩) [(q1, q2)]) := Lib.hid (by rw [hX]; exact srcIn_one x1 q1 q2)
                have Ux2 : Hid (x1.Since x1.heap.size x2) := Lib.hid (by rw [hX]; exact (World.Since.refl _ _).alloc (Nat.le_refl _) _)
                have zx2 : x1.heap.size + 1 ≤ x2.heap.size ∧ x2.heap.size ≤ x1.heap.size + 1 := by rw [hX]; simp
                rw [← hX]
                clear hX
                have O1 := Lib.hid (ownsRow_since O1.out Ux2.out)
                have Sb2 := Lib.hid (Sb1.out.up Ux2.out)
                have SX2 := Lib.hid (since_two SX1.out Ux2.out)
                clear Sb1 SX1 Ux2
                refine wpAnyFree_call 7 (by kernel_rfl) rfl (by rfl) (fun K hK => ?_)
                refine oper_append (.tmp 65) (.tmp 67) rfl rfl O1.out (some ⟨x1.heap.size, 0, none⟩) 1 [(q1, q2)] _ rfl rfl Q1.out (by have := lc; (try simp only [List.length_cons, List.length_nil]); omega) (by have := SX2.out.size; omega) ?_
                intro v3 x3 hown hgrow
                have O3 := Lib.hid hown
                have G3 := Lib.hid hgrow
                have gzx3 := hgrow.size
                clear hown hgrow
                have SX3 : Hid (w7.Since w7.heap.size x3) := Lib.hid (since_grown SX2.out SX2.out.size G3.out (fun k e => by have := (O1.out.lt k e).1; omega))
                refine hK.out _ _ (QS.out _ (SX3.out)) (fun hSL => ?_)
                clear hK K hSL
                try simp only [Act.put]
                try simp only [List.setIfInBounds_toArray]
                try simp only [List.set_cons_succ, List.set_cons_zero]
                have Sb3 : Hid (SrcIn x3 G2 (L.drop gk)) := Lib.hid (Sb2.out.grown G3.out (fun ad e h => by have := HB2.out ad e; have := (O1.out.lt _ h.symm).1; have := S7.out.size; omega))
                clear O1 Q1 Sb2 SX2 G3
                refine wpAnyFree_call 11 (by kernel_rfl) rfl (by rfl) (fun K hK => ?_)
                refine oper_append (.tmp 68) (.tmp 71) rfl rfl O3.out G2 (cp - gk) (L.drop gk) _ lb.out rfl Sb3.out (by have := lc; (try simp only [List.length_cons, List.length_nil]); omega) (by have := SX3.out.size; omega) ?_
                intro v5 x5 hown hgrow
                have O5 := Lib.hid hown
                have G5 := Lib.hid hgrow
                have gzx5 := hgrow.size
                clear hown hgrow
                have SX : Hid (w7.Since w7.heap.size x5) := Lib.hid (since_grown SX3.out SX3.out.size G5.out (fun k e => by have := (O3.out.lt k e).1; omega))
                refine hK.out _ _ (QS.out _ (SX.out)) (fun hSL => ?_)
                clear hK K hSL
                try simp only [Act.put]
                try simp only [List.setIfInBounds_toArray]
                try simp only [List.set_cons_succ, List.set_cons_zero]
                clear O3 Sb3 SX3 G5
                have OF : Hid (x5.ownsRow (w.heap.size + 2) 25 2 v5 (I + 1) (pC (L.take gk ++ (q1, q2) :: L.drop gk))) := Lib.hid (by
                  have h := ownsRow_low O5.out (show w.heap.size + 2 ≤ wb.heap.size by have := T4.out.2.2; have := S7.out.size; omega)
                  have e1 : gk + 1 + (I - gk) = I + 1 := by omega
                  have e2 : [] ++ pC (L.take gk) ++ pC [(q1, q2)] ++ pC (L.drop gk) = pC (L.take gk ++ (q1, q2) :: L.drop gk) := by rw [List.nil_append, ← pC_add, ← pC_add, List.append_assoc]; rfl
                  simp only [Nat.zero_add, List.length_cons, List.length_nil, List.length_take, List.length_drop, hLI.out] at h
                  rw [Nat.min_eq_left hJ, e1, e2] at h
                  exact h)
                have SF : Hid (w.Since w.heap.size x5) := Lib.hid (since_two S4.out (since_two S7.out SX.out))
                have TF : Hid (TwoB w.heap.size x5) := Lib.hid (T4.out.up (since_two S7.out SX.out))
                clear O5
                refine wpAnyFree_call 12 (by kernel_rfl) rfl (by rfl) (fun K hK => ?_)
                go_simp
                refine hK.out _ _ (QS.out _ (SX.out)) (fun hSL => ?_)
                clear hK K hSL
                try simp only [Act.put]
                try simp only [List.setIfInBounds_toArray]
                try simp only [List.set_cons_succ, List.set_cons_zero]
                refine wpAnyFree_done (by kernel_rfl) ?_ _
                have RF := Lib.hid (HPut.out gk (by have := hLI.out; omega) (fun h => HQ1.out ⟨h, by have := hLI.out; omega⟩) hGe.out)
                have LF : Hid ((L.take gk ++ (q1, q2) :: L.drop gk).length = I + 1) := Lib.hid (by have := hLI.out; simp; omega)
                go_wp2_with fail
                go_roundg (ds.length - (I + 1))
                case measure => omega
                case rel => exact ⟨I + 1, _, by omega, rfl, by go_num, Lib.hid ⟨RF.out, LF.out⟩, OF, TF, SF⟩
              · go_simp
                refine hK.out _ _ (QS.out _ (SX.out.alloc SX.out.size _)) (fun hSL => ?_)
                clear hK K hSL
                try simp only [Act.put]
                try simp only [List.setIfInBounds_toArray]
                try simp only [List.set_cons_succ, List.set_cons_zero]
                obtain ⟨x1, hX⟩ : ∃ y, y = x0.alloc (.cells #[.int .i64 q1, .int .i64 q2] 25) := ⟨_, rfl⟩
                have Q1 : Hid (SrcIn x1 (some ⟨x0.heap.size, 0, none⟩) [(q1, q2)]) := Lib.hid (by rw [hX]; exact srcIn_one x0 q1 q2)
                have Ux1 : Hid (x0.Since x0.heap.size x1) := Lib.hid (by rw [hX]; exact (World.Since.refl _ _).alloc (Nat.le_refl _) _)
                have zx1 : x0.heap.size + 1 ≤ x1.heap.size ∧ x1.heap.size ≤ x0.heap.size + 1 := by rw [hX]; simp
                rw [← hX]
                clear hX
                have O0 := Lib.hid (ownsRow_since O0.out Ux1.out)
                have Sa1 := Lib.hid (Sa0.out.up Ux1.out)
                have Sb1 := Lib.hid (Sb0.out.up Ux1.out)
                have SX1 := Lib.hid (since_two SX.out Ux1.out)
                clear Sa0 Sb0 SX Ux1
                refine wpAnyFree_call 4 (by kernel_rfl) rfl (by rfl) (fun K hK => ?_)
                refine oper_append (.tmp 61) (.tmp 64) rfl rfl O0.out G cp (L.take gk) _ la.out rfl Sa1.out (by have := lc; (try simp only [List.length_cons, List.length_nil]); omega) (by omega) ?_
                intro v1 x2 hown hgrow
                have O1 := Lib.hid hown
                have G1 := Lib.hid hgrow
                have gzx2 := hgrow.size
                clear hown hgrow
                have SX2 : Hid (w7.Since w7.heap.size x2) := Lib.hid (since_grown SX1.out SX1.out.size G1.out (fun k e => by have := (O0.out.lt k e).1; omega))
                refine hK.out _ _ (QS.out _ (SX2.out)) (fun hSL => ?_)
                clear hK K hSL
                try simp only [Act.put]
                try simp only [List.setIfInBounds_toArray]
                try simp only [List.set_cons_succ, List.set_cons_zero]
                have Sb2 : Hid (SrcIn x2 G2 (L.drop gk)) := Lib.hid (Sb1.out.grown G1.out (fun ad e h => by have := HB2.out ad e; have := (O0.out.lt _ h.symm).1; have := S7.out.size; omega))
                have Q1 : Hid (SrcIn x2 (some ⟨x0.heap.size, 0, none⟩) [(q1, q2)]) := Lib.hid (Q1.out.grown G1.out (fun ad e h => by injection e with e; subst e; injection h with h; simp only at h; omega))
                clear Sa1 Sb1 O0 G1 SX1
                refine wpAnyFree_call 7 (by kernel_rfl) rfl (by rfl) (fun K hK => ?_)
                refine oper_append (.tmp 65) (.tmp 67) rfl rfl O1.out (some ⟨x0.heap.size, 0, none⟩) 1 [(q1, q2)] _ rfl rfl Q1.out (by have := lc; (try simp only [List.length_cons, List.length_nil]); omega) (by have := SX2.out.size; omega) ?_
                intro v3 x3 hown hgrow
                have O3 := Lib.hid hown
                have G3 := Lib.hid hgrow
                have gzx3 := hgrow.size
                clear hown hgrow
                have SX3 : Hid (w7.Since w7.heap.size x3) := Lib.hid (since_grown SX2.out SX2.out.size G3.out (fun k e => by have := (O1.out.lt k e).1; omega))
                refine hK.out _ _ (QS.out _ (SX3.out)) (fun hSL => ?_)
                clear hK K hSL
                try simp only [Act.put]
                try simp only [List.setIfInBounds_toArray]
                try simp only [List.set_cons_succ, List.set_cons_zero]
                have Sb3 : Hid (SrcIn x3 G2 (L.drop gk)) := Lib.hid (Sb2.out.grown G3.out (fun ad e h => by have := HB2.out ad e; have := (O1.out.lt _ h.symm).1; have := S7.out.size; omega))
                clear O1 Q1 Sb2 SX2 G3
                refine wpAnyFree_call 11 (by kernel_rfl) rfl (by rfl) (fun K hK => ?_)
                refine oper_append (.tmp 68) (.tmp 71) rfl rfl O3.out G2 (cp - gk) (L.drop gk) _ lb.out rfl Sb3.out (by have := lc; (try simp only [List.length_cons, List.length_nil]); omega) (by have := SX3.out.size; omega) ?_
                intro v5 x5 hown hgrow
                have O5 := Lib.hid hown
                have G5 := Lib.hid hgrow
                have gzx5 := hgrow.size
                clear hown hgrow
                have SX : Hid (w7.Since w7.heap.size x5) := Lib.hid (since_grown SX3.out SX3.out.size G5.out (fun k e => by have := (O3.out.lt k e).1; omega))
                refine hK.out _ _ (QS.out _ (SX.out)) (fun hSL => ?_)
                clear hK K hSL
                try simp only [Act.put]
                try simp only [List.setIfInBounds_toArray]
                try simp only [List.set_cons_succ, List.set_cons_zero]
                clear O3 Sb3 SX3 G5
                have OF : Hid (x5.ownsRow (w.heap.size + 2) 25 2 v5 (I + 1) (pC (L.take gk ++ (q1, q2) :: L.drop gk))) := Lib.hid (by
                  have h := ownsRow_low O5.out (show w.heap.size + 2 ≤ wb.heap.size by have := T4.out.2.2; have := S7.out.size; omega)
                  have e1 : gk + 1 + (I - gk) = I + 1 := by omega
                  have e2 : [] ++ pC (L.take gk) ++ pC [(q1, q2)] ++ pC (L.drop gk) = pC (L.take gk ++ (q1, q2) :: L.drop gk) := by rw [List.nil_append, ← pC_add, ← pC_add, List.append_assoc]; rfl
                  simp only [Nat.zero_add, List.length_cons, List.length_nil, List.length_take, List.length_drop, hLI.out] at h
                  rw [Nat.min_eq_left hJ, e1, e2] at h
                  exact h)
                have SF : Hid (w.Since w.heap.size x5) := Lib.hid (since_two S4.out (since_two S7.out SX.out))
                have TF : Hid (TwoB w.heap.size x5) := Lib.hid (T4.out.up (since_two S7.out SX.out))
                clear O5
                refine wpAnyFree_call 12 (by kernel_rfl) rfl (by rfl) (fun K hK => ?_)
                go_simp
                refine hK.out _ _ (QS.out _ (SX.out)) (fun hSL => ?_)
                clear hK K hSL
                try simp only [Act.put]
                try simp only [List.setIfInBounds_toArray]
                try simp only [List.set_cons_succ, List.set_cons_zero]
                refine wpAnyFree_done (by kernel_rfl) ?_ _
                have RF := Lib.hid (HPut.out gk (by have := hLI.out; omega) (fun h => HQ1.out ⟨h, by have := hLI.out; omega⟩) hGe.out)
                have LF : Hid ((L.take gk ++ (q1, q2) :: L.drop gk).length = I + 1) := Lib.hid (by have := hLI.out; simp; omega)
                go_wp2_with fail
                go_roundg (ds.length - (I + 1))
                case measure => omega
                case rel => exact ⟨I + 1, _, by omega, rfl, by go_num, Lib.hid ⟨RF.out, LF.out⟩, OF, TF, SF⟩
            · go_simp
              refine hK.out _ _ (QS.out _ (SW.out.alloc SW.out.size _)) (fun hSL => ?_)
              clear hK K hSL
              try simp only [Act.put]
              try simp only [List.setIfInBounds_toArray]
              try simp only [List.set_cons_succ, List.set_cons_zero]
              obtain ⟨x0, hX⟩ : ∃ y, y = wb.alloc (.cells #[.int .i64 q1, .int .i64 q2] 25) := ⟨_, rfl⟩
              have Q1 : Hid (SrcIn x0 (some ⟨wb.heap.size, 0, none⟩) [(q1, q2)]) := Lib.hid (by rw [hX]; exact srcIn_one wb q1 q2)
              have Ux0 : Hid (wb.Since wb.heap.size x0) := Lib.hid (by rw [hX]; exact (World.Since.refl _ _).alloc (Nat.le_refl _) _)
              have zx0 : wb.heap.size + 1 ≤ x0.heap.size ∧ x0.heap.size ≤ wb.heap.size + 1 := by rw [hX]; simp
              rw [← hX]
              clear hX
              have Sa0 := Lib.hid (Sa.out.up Ux0.out)
              have Sb0 := Lib.hid (Sb.out.up Ux0.out)
              have SX := Lib.hid (since_two SW.out Ux0.out)
              clear Sa Sb Ux0
              refine wpAnyFree_call 0 (by kernel_rfl) rfl (by rfl) (fun K hK => ?_)
              go_simp
              refine hK.out _ _ (QS.out _ (SX.out.alloc SX.out.size _)) (fun hSL => ?_)
              clear hK K hSL
              try simp only [Act.put]
              try simp only [List.setIfInBounds_toArray]
              try simp only [List.set_cons_succ, List.set_cons_zero]
              obtain ⟨x1, hX⟩ : ∃ y, y = x0.alloc (.cells #[] 25) := ⟨_, rfl⟩
              have O0 : Hid (x1.ownsRow x0.heap.size 25 2 (.slice (some ⟨x0.heap.size, 0, none⟩) 0 0) 0 []) := Lib.hid (by rw [hX]; exact lit_q x0)
              have Ux1 : Hid (x0.Since x0.heap.size x1) := Lib.hid (by rw [hX]; exact (World.Since.refl _ _).alloc (Nat.le_refl _) _)
              have zx1 : x0.heap.size + 1 ≤ x1.heap.size ∧ x1.heap.size ≤ x0.heap.size + 1 := by rw [hX]; simp
              rw [← hX]
              clear hX
              have Q1 := Lib.hid (Q1.out.up Ux1.out)
              have Sa1 := Lib.hid (Sa0.out.up Ux1.out)
              have Sb1 := Lib.hid (Sb0.out.up Ux1.out)
              have SX1 := Lib.hid (since_two SX.out Ux1.out)
              clear Sa0 Sb0 SX Ux1
              refine wpAnyFree_call 4 (by kernel_rfl) rfl (by rfl) (fun K hK => ?_)
              refine oper_append (.tmp 61) (.tmp 64) rfl rfl O0.out G cp (L.take gk) _ la.out rfl Sa1.out (by have := lc; (try simp only [List.length_cons, List.length_nil]); omega) (by omega) ?_
              intro v1 x2 hown hgrow
              have O1 := Lib.hid hown
              have G1 := Lib.hid hgrow
              have gzx2 := hgrow.size
              clear hown hgrow
              have SX2 : Hid (w7.Since w7.heap.size x2) := Lib.hid (since_grown SX1.out SX1.out.size G1.out (fun k e => by have := (O0.out.lt k e).1; omega))
              refine hK.out _ _ (QS.out _ (SX2.out)) (fun hSL => ?_)
              clear hK K hSL
              try simp only [Act.put]
              try simp only [List.setIfInBounds_toArray]
              try simp only [List.set_cons_succ, List.set_cons_zero]
              have Sb2 : Hid (SrcIn x2 G2 (L.drop gk)) := Lib.hid (Sb1.out.grown G1.out (fun ad e h => by have := HB2.out ad e; have := (O0.out.lt _ h.symm).1; have := S7.out.size; omega))
              have Q1 : Hid (SrcIn x2 (some ⟨wb.heap.size, 0, none⟩) [(q1, q2)]) := Lib.hid (Q1.out.grown G1.out (fun ad e h => by injection e with e; subst e; injection h with h; simp only at h; omega))
              clear Sa1 Sb1 O0 G1 SX1
              refine wpAnyFree_call 7 (by kernel_rfl) rfl (by rfl) (fun K hK => ?_)
              refine oper_append (.tmp 65) (.tmp 67) rfl rfl O1.out (some ⟨wb.heap.size, 0, none⟩) 1 [(q1, q2)] _ rfl rfl Q1.out (by have := lc; (try simp only [List.length_cons, List.length_nil]); omega) (by have := SX2.out.size; omega) ?_
              intro v3 x3 hown hgrow
              have O3 := Lib.hid hown
              have G3 := Lib.hid hgrow
              have gzx3 := hgrow.size
              clear hown hgrow
              have SX3 : Hid (w7.Since w7.heap.size x3) := Lib.hid (since_grown SX2.out SX2.out.size G3.out (fun k e => by have := (O1.out.lt k e).1; omega))
              refine hK.out _ _ (QS.out _ (SX3.out)) (fun hSL => ?_)
              clear hK K hSL
              try simp only [Act.put]
              try simp only [List.setIfInBounds_toArray]
              try simp only [List.set_cons_succ, List.set_cons_zero]
              have Sb3 : Hid (SrcIn x3 G2 (L.drop gk)) := Lib.hid (Sb2.out.grown G3.out (fun ad e h => by have := HB2.out ad e; have := (O1.out.lt _ h.symm).1; have := S7.out.size; omega))
              clear O1 Q1 Sb2 SX2 G3
              refine wpAnyFree_call 11 (by kernel_rfl) rfl (by rfl) (fun K hK => ?_)
              refine oper_append (.tmp 68) (.tmp 71) rfl rfl O3.out G2 (cp - gk) (L.drop gk) _ lb.out rfl Sb3.out (by have := lc; (try simp only [List.length_cons, List.length_nil]); omega) (by have := SX3.out.size; omega) ?_
              intro v5 x5 hown hgrow
              have O5 := Lib.hid hown
              have G5 := Lib.hid hgrow
              have gzx5 := hgrow.size
              clear hown hgrow
              have SX : Hid (w7.Since w7.heap.size x5) := Lib.hid (since_grown SX3.out SX3.out.size G5.out (fun k e => by have := (O3.out.lt k e).1; omega))
              refine hK.out _ _ (QS.out _ (SX.out)) (fun hSL => ?_)
              clear hK K hSL
              try simp only [Act.put]
              try simp only [List.setIfInBounds_toArray]
              try simp only [List.set_cons_succ, List.set_cons_zero]
              clear O3 Sb3 SX3 G5
              have OF : Hid (x5.ownsRow (w.heap.size + 2) 25 2 v5 (I + 1) (pC (L.take gk ++ (q1, q2) :: L.drop gk))) := Lib.hid (by
                have h := ownsRow_low O5.out (show w.heap.size + 2 ≤ x0.heap.size by have := T4.out.2.2; have := S7.out.size; omega)
                have e1 : gk + 1 + (I - gk) = I + 1 := by omega
                have e2 : [] ++ pC (L.take gk) ++ pC [(q1, q2)] ++ pC (L.drop gk) = pC (L.take gk ++ (q1, q2) :: L.drop gk) := by rw [List.nil_append, ← pC_add, ← pC_add, List.append_assoc]; rfl
                simp only [Nat.zero_add, List.length_cons, List.length_nil, List.length_take, List.length_drop, hLI.out] at h
                rw [Nat.min_eq_left hJ, e1, e2] at h
                exact h)
              have SF : Hid (w.Since w.heap.size x5) := Lib.hid (since_two S4.out (since_two S7.out SX.out))
              have TF : Hid (TwoB w.heap.size x5) := Lib.hid (T4.out.up (since_two S7.out SX.out))
              clear O5
              refine wpAnyFree_call 12 (by kernel_rfl) rfl (by rfl) (fun K hK => ?_)
              go_simp
              refine hK.out _ _ (QS.out _ (SX.out)) (fun hSL => ?_)
              clear hK K hSL
              try simp only [Act.put]
              try simp only [List.setIfInBounds_toArray]
              try simp only [List.set_cons_succ, List.set_cons_zero]
              refine wpAnyFree_done (by kernel_rfl) ?_ _
              have RF := Lib.hid (HPut.out gk (by have := hLI.out; omega) (fun h => HQ1.out ⟨h, by have := hLI.out; omega⟩) hGe.out)
              have LF : Hid ((L.take gk ++ (q1, q2) :: L.drop gk).length = I + 1) := Lib.hid (by have := hLI.out; simp; omega)
              go_wp2_with fail
              go_roundg (ds.length - (I + 1))
              case measure => omega
              case rel => exact ⟨I + 1, _, by omega, rfl, by go_num, Lib.hid ⟨RF.out, LF.out⟩, OF, TF, SF⟩
          · obtain ⟨J, hgJ⟩ : ∃ J, gk = J + 1 := ⟨gk - 1, by omega⟩
            have hJL : J < L.length := by have := hLI.out; omega
            obtain ⟨g, cp', e1, hg1, hg2, c1, c2⟩ := row_cells O4.out hJL
            obtain ⟨rfl, rfl⟩ : G = some ⟨g, 0, none⟩ ∧ cp = cp' := by injection e1 with a1 a2 a3; exact ⟨a1, a3⟩
            have hx := hsm.out _ (List.getElem_mem hJL)
            have KC := Lib.hid (fun wx => cmpP (x := L[J]) (y := (q1, q2)) hx ⟨hqs.out.1, hqs.out.2.2, hqs.out.2.1⟩ wx)
            have HCu := Lib.hid (fun wx (hs : w4.Since w4.heap.size wx) => And.intro (And.intro ((hs.cell (a := ⟨g, J * 2, none⟩) hg2).trans c1) ((hs.cell (a := ⟨g, J * 2 + 1, none⟩) hg2).trans c2)) (And.intro ((hs.cell (a := ⟨w3.heap.size, 0, none⟩) B4.out.2.2).trans B4.out.1) ((hs.cell (a := ⟨w3.heap.size, 1, none⟩) B4.out.2.2).trans B4.out.2.1)))
            have HLe : Hid (0 < cmpQ L[J] (q1, q2) ↔ ¬ le L[J] (q1, q2)) := Lib.hid (cmpQ_pos _ _)
            have HGe2 : Hid (le (q1, q2) L[J] → ∀ i (h : i < L.length), J ≤ i → le (q1, q2) L[i]) := Lib.hid (fun h0 i h h2 => by
              by_cases e : i = J
              · subst e; exact h0
              · exact hGe.out i h (by omega))
            have HTot := Lib.hid (le_total L[J] (q1, q2))
            have HQf : Hid (le L[J] (q1, q2) → ∀ (h : 0 < gk ∧ gk - 1 < L.length), le (L[gk - 1]'h.2) (q1, q2)) := Lib.hid (fun h0 h => by
              have e : gk - 1 = J := by omega
              simp only [e]
              exact h0)
            generalize cmpQ L[J] (q1, q2) = cc at *
            generalize hy : L[J] = y at *
            obtain ⟨y1, y2⟩ := y
            simp only at KC HCu
            have z0 : (gk : Int) - 1 = (J : Int) := by omega
            have z1b : IntKind.i64.wrap (J : Int) = (J : Int) := IntWalk.i64_in _ (by omega)
            have z2 : IntKind.i64.wrap ((gk : Int) - 1) = (J : Int) := by rw [z0]; exact z1b
            have hn0z : decide ((0 : Int) < (gk : Int)) = true := decide_eq_true (by omega)
            have ha0z : decide ((gk : Int) > 0) = true := decide_eq_true (by omega)
            have hn0 : 0 < gk := by omega
            have hn0d : decide (0 < gk) = true := decide_eq_true hn0
            have y1b : decide (J < I) = true := by simp; omega
            have hJI : J < I := by omega
            have HY := Lib.hid hy
            have HgJ := Lib.hid hgJ
            clear hy c1 c2 e1 hx hgJ hg0
            have Q5 := Lib.hid (HCu.out _ hS5.out.drew)
            by_cases hc : 0 < cc
            · have hcb : decide (0 < cc) = true := decide_eq_true hc
              go_wp2_with fail
              go_region_held3 (fun w' => (w'.cell? ⟨g, J * 2, none⟩ = some (.int .i64 (y1 : Nat)) ∧ w'.cell? ⟨g, J * 2 + 1, none⟩ = some (.int .i64 (y2 : Nat))) ∧ (w'.cell? ⟨w3.heap.size, 0, none⟩ = some (.int .i64 (q1 : Nat)) ∧ w'.cell? ⟨w3.heap.size, 1, none⟩ = some (.int .i64 (q2 : Nat))))
                (first
                  | exact Q5.out
                  | exact Q6.out)
                (first
                  | (go_at_call 16; refine (KC.out _).mono ?_; rintro e w6 ⟨rfl, hs⟩; have S6 := Lib.hid (since_two hS5.out.drew hs); have Q6 := Lib.hid (HCu.out _ S6.out); clear hs))
              go_wp2_with fail
              go_roundg J
              case measure => have := HgJ.out; omega
              case rel => exact ⟨J, by omega, rfl, by go_num, Lib.hid (HGe2.out (HTot.out.resolve_left (HLe.out.1 hc))), S6⟩
            · have HQ1 := Lib.hid (HQf.out (Decidable.of_not_not (fun h => hc (HLe.out.2 h))))
              have hcb : decide (0 < cc) = false := decide_eq_false hc
              have hcc : cc ≤ 0 := by omega
              go_wp2_with fail
              go_region_held3 (fun w' => (w'.cell? ⟨g, J * 2, none⟩ = some (.int .i64 (y1 : Nat)) ∧ w'.cell? ⟨g, J * 2 + 1, none⟩ = some (.int .i64 (y2 : Nat))) ∧ (w'.cell? ⟨w3.heap.size, 0, none⟩ = some (.int .i64 (q1 : Nat)) ∧ w'.cell? ⟨w3.heap.size, 1, none⟩ = some (.int .i64 (q2 : Nat))))
                (first
                  | exact Q5.out
                  | exact Q6.out)
                (first
                  | (go_at_call 16; refine (KC.out _).mono ?_; rintro e w6 ⟨rfl, hs⟩; have S6 := Lib.hid (since_two hS5.out.drew hs); have Q6 := Lib.hid (HCu.out _ S6.out); clear hs))
              clear HQf HLe HGe2 HTot HY HCu KC Q5 Q6 hS5
              have S7 := Lib.hid S6.out
              clear S6
              obtain ⟨w7, rfl⟩ : ∃ y, y = w6 := ⟨_, rfl⟩
              go_wp2_with fail
              obtain ⟨G, hG⟩ : ∃ G : Option Addr, G = some ⟨g, 0, none⟩ := ⟨_, rfl⟩
              rw [← hG] at O4 ⊢
              clear hG
              have hgI : gk ≤ I := by omega
              have hcp : gk ≤ cp := by omega
              obtain ⟨G2, hG2⟩ : ∃ G2 : Option Addr, (if cp = gk then G else Option.map (fun x : Addr => x.add (gk * 2)) G) = G2 := ⟨_, rfl⟩
              have HSr := Lib.hid (row_src O4.out gk hgI)
              have Sa : Hid (SrcIn w4 G (L.take gk)) := Lib.hid HSr.out.1
              have Sb : Hid (SrcIn w4 G2 (L.drop gk)) := Lib.hid (HSr.out.2 G2 hG2)
              clear HSr
              have HB2 : Hid (∀ ad, G2 = some ad → ad.block < w4.heap.size) := Lib.hid (own_block O4.out hG2)
              have QB := Lib.hid (And.intro ((S7.out.drew.cell (a := ⟨w3.heap.size, 0, none⟩) B4.out.2.2).trans B4.out.1) ((S7.out.drew.cell (a := ⟨w3.heap.size, 1, none⟩) B4.out.2.2).trans B4.out.2.1))
              have QS : Hid (∀ y, w7.Since w7.heap.size y → (fun w' => w'.cell? ⟨w3.heap.size, 0, none⟩ = some (.int .i64 (q1 : Nat)) ∧ w'.cell? ⟨w3.heap.size, 1, none⟩ = some (.int .i64 (q2 : Nat))) y) := Lib.hid (fun y hs => And.intro ((hs.cell (a := ⟨w3.heap.size, 0, none⟩) (by have := B4.out.2.2; have := S7.out.size; show w3.heap.size < _; omega)).trans ((S7.out.cell (a := ⟨w3.heap.size, 0, none⟩) B4.out.2.2).trans B4.out.1)) ((hs.cell (a := ⟨w3.heap.size, 1, none⟩) (by have := B4.out.2.2; have := S7.out.size; show w3.heap.size < _; omega)).trans ((S7.out.cell (a := ⟨w3.heap.size, 1, none⟩) B4.out.2.2).trans B4.out.2.1)))
              refine wp_region_free (fun w' => w'.cell? ⟨w3.heap.size, 0, none⟩ = some (.int .i64 (q1 : Nat)) ∧ w'.cell? ⟨w3.heap.size, 1, none⟩ = some (.int .i64 (q2 : Nat))) [] (by kernel_rfl) QB.out (fun hSL => ?_)
              refine wpAnyFree_free 1 (v := ?_) rfl (by kernel_rfl) (by kernel_rfl) (by kernel_rfl) (fun _ _ _ h => h) (by rfl) (fun w' => ?_) ?_
              rotate_left
              · go_simp
                all_goals rfl
              try simp only [Act.put]
              try simp only [List.setIfInBounds_toArray]
              try simp only [List.set_cons_succ, List.set_cons_zero]
              refine wpAnyFree_free 2 (v := ?_) rfl (by kernel_rfl) (by kernel_rfl) (by kernel_rfl) (fun _ _ _ h => h) (by rfl) (fun w' => ?_) ?_
              rotate_left
              · go_simp
                all_goals rfl
              try simp only [Act.put]
              try simp only [List.setIfInBounds_toArray]
              try simp only [List.set_cons_succ, List.set_cons_zero]
              refine wpAnyFree_free 3 (v := ?_) rfl (by kernel_rfl) (by kernel_rfl) (by kernel_rfl) (fun _ _ _ h => h) (by rfl) (fun w' => ?_) ?_
              rotate_left
              · go_simp
                all_goals rfl
              try simp only [Act.put]
              try simp only [List.setIfInBounds_toArray]
              try simp only [List.set_cons_succ, List.set_cons_zero]
              refine wpAnyFree_take 5 (v := ?_) rfl (by kernel_rfl) (by kernel_rfl) (by kernel_rfl) (by kernel_rfl) (by kernel_rfl) (fun _ _ _ h => h) hSL (by rfl) (fun w' hw' => ?_) ?_
              rotate_left
              · obtain ⟨g0, g1⟩ := hw'
                go_simp
                all_goals rfl
              try simp only [Act.put]
              try simp only [List.setIfInBounds_toArray]
              try simp only [List.set_cons_succ, List.set_cons_zero]
              refine wpAnyFree_free 8 (v := ?_) rfl (by kernel_rfl) (by kernel_rfl) (by kernel_rfl) (fun _ _ _ h => h) (by rfl) (fun w' => ?_) ?_
              rotate_left
              · go_simp
                all_goals rfl
              try simp only [Act.put]
              try simp only [List.setIfInBounds_toArray]
              try simp only [List.set_cons_succ, List.set_cons_zero]
              refine wpAnyFree_free 9 (v := ?_) rfl (by kernel_rfl) (by kernel_rfl) (by kernel_rfl) (fun _ _ _ h => h) (by rfl) (fun w' => ?_) ?_
              rotate_left
              · go_simp
                all_goals rfl
              try simp only [Act.put]
              try simp only [List.setIfInBounds_toArray]
              try simp only [List.set_cons_succ, List.set_cons_zero]
              refine wpAnyFree_free 10 (v := ?_) rfl (by kernel_rfl) (by kernel_rfl) (by kernel_rfl) (fun _ _ _ h => h) (by rfl) (fun w' => ?_) ?_
              rotate_left
              · go_simp
                all_goals rfl
              try simp only [Act.put]
              try simp only [List.setIfInBounds_toArray]
              try simp only [List.set_cons_succ, List.set_cons_zero]
              have Sa := Lib.hid (Sa.out.up S7.out.drew)
              have Sb := Lib.hid (Sb.out.up S7.out.drew)
              have la : Hid (gk = (L.take gk).length) := Lib.hid (by have := hLI.out; simp; omega)
              have lb : Hid (I - gk = (L.drop gk).length) := Lib.hid (by have := hLI.out; simp; omega)
              have lc : gk ≤ 1000 ∧ (L.take gk).length ≤ gk ∧ (L.drop gk).length ≤ 1000 := by have := la.out; have := lb.out; omega
              have hne : ∀ (y : World) (n : Nat) ad, SrcIn y (some ad) (L.take gk) → True := fun _ _ _ _ => trivial
              clear hne
              obtain ⟨wb, hwb⟩ : ∃ y, y = w7.drew := ⟨_, rfl⟩
              have SW : Hid (w7.Since w7.heap.size wb) := Lib.hid (by rw [hwb]; exact (World.Since.refl _ _).drew)
              rw [← hwb] at Sa Sb ⊢
              have lw2 : wb.heap.size ≤ w7.heap.size ∧ w7.heap.size ≤ wb.heap.size := by rw [hwb]; exact ⟨Nat.le_refl _, Nat.le_refl _⟩
              clear hwb hSL QB hG2
              refine wpAnyFree_call2 0 6 (by kernel_rfl) rfl rfl (by rfl) (by rfl) (fun K hK => ?_) (fun K hK => ?_)
              · go_simp
                refine hK.out _ _ (QS.out _ (SW.out.alloc SW.out.size _)) (fun hSL => ?_)
                clear hK K hSL
                try simp only [Act.put]
                try simp only [List.setIfInBounds_toArray]
                try simp only [List.set_cons_succ, List.set_cons_zero]
                obtain ⟨x0, hX⟩ : ∃ y, y = wb.alloc (.cells #[] 25) := ⟨_, rfl⟩
                have O0 : Hid (x0.ownsRow wb.heap.size 25 2 (.slice (some ⟨wb.heap.size, 0, none⟩) 0 0) 0 []) := Lib.hid (by rw [hX]; exact lit_q wb)
                have Ux0 : Hid (wb.Since wb.heap.size x0) := Lib.hid (by rw [hX]; exact (World.Since.refl _ _).alloc (Nat.le_refl _) _)
                have zx0 : wb.heap.size + 1 ≤ x0.heap.size ∧ x0.heap.size ≤ wb.heap.size + 1 := by rw [hX]; simp
                rw [← hX]
                clear hX
                have Sa0 := Lib.hid (Sa.out.up Ux0.out)
                have Sb0 := Lib.hid (Sb.out.up Ux0.out)
                have SX := Lib.hid (since_two SW.out Ux0.out)
                clear Sa Sb Ux0
                refine wpAnyFree_call2 4 6 (by kernel_rfl) rfl rfl (by rfl) (by rfl) (fun K hK => ?_) (fun K hK => ?_)
                · refine oper_append (.tmp 61) (.tmp 64) rfl rfl O0.out G cp (L.take gk) _ la.out rfl Sa0.out (by have := lc; (try simp only [List.length_cons, List.length_nil]); omega) (by omega) ?_
                  intro v1 x1 hown hgrow
                  have O1 := Lib.hid hown
                  have G1 := Lib.hid hgrow
                  have gzx1 := hgrow.size
                  clear hown hgrow
                  have SX1 : Hid (w7.Since w7.heap.size x1) := Lib.hid (since_grown SX.out SX.out.size G1.out (fun k e => by have := (O0.out.lt k e).1; omega))
                  refine hK.out _ _ (QS.out _ (SX1.out)) (fun hSL => ?_)
                  clear hK K hSL
                  try simp only [Act.put]
                  try simp only [List.setIfInBounds_toArray]
                  try simp only [List.set_cons_succ, List.set_cons_zero]
                  have Sb1 : Hid (SrcIn x1 G2 (L.drop gk)) := Lib.hid (Sb0.out.grown G1.out (fun ad e h => by have := HB2.out ad e; have := (O0.out.lt _ h.symm).1; have := S7.out.size; omega))
                  clear Sa0 Sb0 O0 G1 SX
                  refine wpAnyFree_call 6 (by kernel_rfl) rfl (by rfl) (fun K hK => ?_)
                  go_simp
                  refine hK.out _ _ (QS.out _ (SX1.out.alloc SX1.out.size _)) (fun hSL => ?_)
                  clear hK K hSL
                  try simp only [Act.put]
                  try simp only [List.setIfInBounds_toArray]
                  try simp only [List.set_cons_succ, List.set_cons_zero]
                  obtain ⟨x2, hX⟩ : ∃ y, y = x1.alloc (.cells #[.int .i64 q1, .int .i64 q2] 25) := ⟨_, rfl⟩
                  have Q1 : Hid (SrcIn x2 (some ⟨x1.heap.size, 0, none⟩) [(q1, q2)]) := Lib.hid (by rw [hX]; exact srcIn_one x1 q1 q2)
                  have Ux2 : Hid (x1.Since x1.heap.size x2) := Lib.hid (by rw [hX]; exact (World.Since.refl _ _).alloc (Nat.le_refl _) _)
                  have zx2 : x1.heap.size + 1 ≤ x2.heap.size ∧ x2.heap.size ≤ x1.heap.size + 1 := by rw [hX]; simp
                  rw [← hX]
                  clear hX
                  have O1 := Lib.hid (ownsRow_since O1.out Ux2.out)
                  have Sb2 := Lib.hid (Sb1.out.up Ux2.out)
                  have SX2 := Lib.hid (since_two SX1.out Ux2.out)
                  clear Sb1 SX1 Ux2
                  refine wpAnyFree_call 7 (by kernel_rfl) rfl (by rfl) (fun K hK => ?_)
                  refine oper_append (.tmp 65) (.tmp 67) rfl rfl O1.out (some ⟨x1.heap.size, 0, none⟩) 1 [(q1, q2)] _ rfl rfl Q1.out (by have := lc; (try simp only [List.length_cons, List.length_nil]); omega) (by have := SX2.out.size; omega) ?_
                  intro v3 x3 hown hgrow
                  have O3 := Lib.hid hown
                  have G3 := Lib.hid hgrow
                  have gzx3 := hgrow.size
                  clear hown hgrow
                  have SX3 : Hid (w7.Since w7.heap.size x3) := Lib.hid (since_grown SX2.out SX2.out.size G3.out (fun k e => by have := (O1.out.lt k e).1; omega))
                  refine hK.out _ _ (QS.out _ (SX3.out)) (fun hSL => ?_)
                  clear hK K hSL
                  try simp only [Act.put]
                  try simp only [List.setIfInBounds_toArray]
                  try simp only [List.set_cons_succ, List.set_cons_zero]
                  have Sb3 : Hid (SrcIn x3 G2 (L.drop gk)) := Lib.hid (Sb2.out.grown G3.out (fun ad e h => by have := HB2.out ad e; have := (O1.out.lt _ h.symm).1; have := S7.out.size; omega))
                  clear O1 Q1 Sb2 SX2 G3
                  refine wpAnyFree_call 11 (by kernel_rfl) rfl (by rfl) (fun K hK => ?_)
                  refine oper_append (.tmp 68) (.tmp 71) rfl rfl O3.out G2 (cp - gk) (L.drop gk) _ lb.out rfl Sb3.out (by have := lc; (try simp only [List.length_cons, List.length_nil]); omega) (by have := SX3.out.size; omega) ?_
                  intro v5 x5 hown hgrow
                  have O5 := Lib.hid hown
                  have G5 := Lib.hid hgrow
                  have gzx5 := hgrow.size
                  clear hown hgrow
                  have SX : Hid (w7.Since w7.heap.size x5) := Lib.hid (since_grown SX3.out SX3.out.size G5.out (fun k e => by have := (O3.out.lt k e).1; omega))
                  refine hK.out _ _ (QS.out _ (SX.out)) (fun hSL => ?_)
                  clear hK K hSL
                  try simp only [Act.put]
                  try simp only [List.setIfInBounds_toArray]
                  try simp only [List.set_cons_succ, List.set_cons_zero]
                  clear O3 Sb3 SX3 G5
                  have OF : Hid (x5.ownsRow (w.heap.size + 2) 25 2 v5 (I + 1) (pC (L.take gk ++ (q1, q2) :: L.drop gk))) := Lib.hid (by
                    have h := ownsRow_low O5.out (show w.heap.size + 2 ≤ wb.heap.size by have := T4.out.2.2; have := S7.out.size; omega)
                    have e1 : gk + 1 + (I - gk) = I + 1 := by omega
                    have e2 : [] ++ pC (L.take gk) ++ pC [(q1, q2)] ++ pC (L.drop gk) = pC (L.take gk ++ (q1, q2) :: L.drop gk) := by rw [List.nil_append, ← pC_add, ← pC_add, List.append_assoc]; rfl
                    simp only [Nat.zero_add, List.length_cons, List.length_nil, List.length_take, List.length_drop, hLI.out] at h
                    rw [Nat.min_eq_left hJ, e1, e2] at h
                    exact h)
                  have SF : Hid (w.Since w.heap.size x5) := Lib.hid (since_two S4.out (since_two S7.out SX.out))
                  have TF : Hid (TwoB w.heap.size x5) := Lib.hid (T4.out.up (since_two S7.out SX.out))
                  clear O5
                  refine wpAnyFree_call 12 (by kernel_rfl) rfl (by rfl) (fun K hK => ?_)
                  go_simp
                  refine hK.out _ _ (QS.out _ (SX.out)) (fun hSL => ?_)
                  clear hK K hSL
                  try simp only [Act.put]
                  try simp only [List.setIfInBounds_toArray]
                  try simp only [List.set_cons_succ, List.set_cons_zero]
                  refine wpAnyFree_done (by kernel_rfl) ?_ _
                  have RF := Lib.hid (HPut.out gk (by have := hLI.out; omega) (fun h => HQ1.out ⟨h, by have := hLI.out; omega⟩) hGe.out)
                  have LF : Hid ((L.take gk ++ (q1, q2) :: L.drop gk).length = I + 1) := Lib.hid (by have := hLI.out; simp; omega)
                  go_wp2_with fail
                  go_roundg (ds.length - (I + 1))
                  case measure => omega
                  case rel => exact ⟨I + 1, _, by omega, rfl, by go_num, Lib.hid ⟨RF.out, LF.out⟩, OF, TF, SF⟩
                · go_simp
                  refine hK.out _ _ (QS.out _ (SX.out.alloc SX.out.size _)) (fun hSL => ?_)
                  clear hK K hSL
                  try simp only [Act.put]
                  try simp only [List.setIfInBounds_toArray]
                  try simp only [List.set_cons_succ, List.set_cons_zero]
                  obtain ⟨x1, hX⟩ : ∃ y, y = x0.alloc (.cells #[.int .i64 q1, .int .i64 q2] 25) := ⟨_, rfl⟩
                  have Q1 : Hid (SrcIn x1 (some ⟨x0.heap.size, 0, none⟩) [(q1, q2)]) := Lib.hid (by rw [hX]; exact srcIn_one x0 q1 q2)
                  have Ux1 : Hid (x0.Since x0.heap.size x1) := Lib.hid (by rw [hX]; exact (World.Since.refl _ _).alloc (Nat.le_refl _) _)
                  have zx1 : x0.heap.size + 1 ≤ x1.heap.size ∧ x1.heap.size ≤ x0.heap.size + 1 := by rw [hX]; simp
                  rw [← hX]
                  clear hX
                  have O0 := Lib.hid (ownsRow_since O0.out Ux1.out)
                  have Sa1 := Lib.hid (Sa0.out.up Ux1.out)
                  have Sb1 := Lib.hid (Sb0.out.up Ux1.out)
                  have SX1 := Lib.hid (since_two SX.out Ux1.out)
                  clear Sa0 Sb0 SX Ux1
                  refine wpAnyFree_call 4 (by kernel_rfl) rfl (by rfl) (fun K hK => ?_)
                  refine oper_append (.tmp 61) (.tmp 64) rfl rfl O0.out G cp (L.take gk) _ la.out rfl Sa1.out (by have := lc; (try simp only [List.length_cons, List.length_nil]); omega) (by omega) ?_
                  intro v1 x2 hown hgrow
                  have O1 := Lib.hid hown
                  have G1 := Lib.hid hgrow
                  have gzx2 := hgrow.size
                  clear hown hgrow
                  have SX2 : Hid (w7.Since w7.heap.size x2) := Lib.hid (since_grown SX1.out SX1.out.size G1.out (fun k e => by have := (O0.out.lt k e).1; omega))
                  refine hK.out _ _ (QS.out _ (SX2.out)) (fun hSL => ?_)
                  clear hK K hSL
                  try simp only [Act.put]
                  try simp only [List.setIfInBounds_toArray]
                  try simp only [List.set_cons_succ, List.set_cons_zero]
                  have Sb2 : Hid (SrcIn x2 G2 (L.drop gk)) := Lib.hid (Sb1.out.grown G1.out (fun ad e h => by have := HB2.out ad e; have := (O0.out.lt _ h.symm).1; have := S7.out.size; omega))
                  have Q1 : Hid (SrcIn x2 (some ⟨x0.heap.size, 0, none⟩) [(q1, q2)]) := Lib.hid (Q1.out.grown G1.out (fun ad e h => by injection e with e; subst e; injection h with h; simp only at h; omega))
                  clear Sa1 Sb1 O0 G1 SX1
                  refine wpAnyFree_call 7 (by kernel_rfl) rfl (by rfl) (fun K hK => ?_)
                  refine oper_append (.tmp 65) (.tmp 67) rfl rfl O1.out (some ⟨x0.heap.size, 0, none⟩) 1 [(q1, q2)] _ rfl rfl Q1.out (by have := lc; (try simp only [List.length_cons, List.length_nil]); omega) (by have := SX2.out.size; omega) ?_
                  intro v3 x3 hown hgrow
                  have O3 := Lib.hid hown
                  have G3 := Lib.hid hgrow
                  have gzx3 := hgrow.size
                  clear hown hgrow
                  have SX3 : Hid (w7.Since w7.heap.size x3) := Lib.hid (since_grown SX2.out SX2.out.size G3.out (fun k e => by have := (O1.out.lt k e).1; omega))
                  refine hK.out _ _ (QS.out _ (SX3.out)) (fun hSL => ?_)
                  clear hK K hSL
                  try simp only [Act.put]
                  try simp only [List.setIfInBounds_toArray]
                  try simp only [List.set_cons_succ, List.set_cons_zero]
                  have Sb3 : Hid (SrcIn x3 G2 (L.drop gk)) := Lib.hid (Sb2.out.grown G3.out (fun ad e h => by have := HB2.out ad e; have := (O1.out.lt _ h.symm).1; have := S7.out.size; omega))
                  clear O1 Q1 Sb2 SX2 G3
                  refine wpAnyFree_call 11 (by kernel_rfl) rfl (by rfl) (fun K hK => ?_)
                  refine oper_append (.tmp 68) (.tmp 71) rfl rfl O3.out G2 (cp - gk) (L.drop gk) _ lb.out rfl Sb3.out (by have := lc; (try simp only [List.length_cons, List.length_nil]); omega) (by have := SX3.out.size; omega) ?_
                  intro v5 x5 hown hgrow
                  have O5 := Lib.hid hown
                  have G5 := Lib.hid hgrow
                  have gzx5 := hgrow.size
                  clear hown hgrow
                  have SX : Hid (w7.Since w7.heap.size x5) := Lib.hid (since_grown SX3.out SX3.out.size G5.out (fun k e => by have := (O3.out.lt k e).1; omega))
                  refine hK.out _ _ (QS.out _ (SX.out)) (fun hSL => ?_)
                  clear hK K hSL
                  try simp only [Act.put]
                  try simp only [List.setIfInBounds_toArray]
                  try simp only [List.set_cons_succ, List.set_cons_zero]
                  clear O3 Sb3 SX3 G5
                  have OF : Hid (x5.ownsRow (w.heap.size + 2) 25 2 v5 (I + 1) (pC (L.take gk ++ (q1, q2) :: L.drop gk))) := Lib.hid (by
                    have h := ownsRow_low O5.out (show w.heap.size + 2 ≤ wb.heap.size by have := T4.out.2.2; have := S7.out.size; omega)
                    have e1 : gk + 1 + (I - gk) = I + 1 := by omega
                    have e2 : [] ++ pC (L.take gk) ++ pC [(q1, q2)] ++ pC (L.drop gk) = pC (L.take gk ++ (q1, q2) :: L.drop gk) := by rw [List.nil_append, ← pC_add, ← pC_add, List.append_assoc]; rfl
                    simp only [Nat.zero_add, List.length_cons, List.length_nil, List.length_take, List.length_drop, hLI.out] at h
                    rw [Nat.min_eq_left hJ, e1, e2] at h
                    exact h)
                  have SF : Hid (w.Since w.heap.size x5) := Lib.hid (since_two S4.out (since_two S7.out SX.out))
                  have TF : Hid (TwoB w.heap.size x5) := Lib.hid (T4.out.up (since_two S7.out SX.out))
                  clear O5
                  refine wpAnyFree_call 12 (by kernel_rfl) rfl (by rfl) (fun K hK => ?_)
                  go_simp
                  refine hK.out _ _ (QS.out _ (SX.out)) (fun hSL => ?_)
                  clear hK K hSL
                  try simp only [Act.put]
                  try simp only [List.setIfInBounds_toArray]
                  try simp only [List.set_cons_succ, List.set_cons_zero]
                  refine wpAnyFree_done (by kernel_rfl) ?_ _
                  have RF := Lib.hid (HPut.out gk (by have := hLI.out; omega) (fun h => HQ1.out ⟨h, by have := hLI.out; omega⟩) hGe.out)
                  have LF : Hid ((L.take gk ++ (q1, q2) :: L.drop gk).length = I + 1) := Lib.hid (by have := hLI.out; simp; omega)
                  go_wp2_with fail
                  go_roundg (ds.length - (I + 1))
                  case measure => omega
                  case rel => exact ⟨I + 1, _, by omega, rfl, by go_num, Lib.hid ⟨RF.out, LF.out⟩, OF, TF, SF⟩
              · go_simp
                refine hK.out _ _ (QS.out _ (SW.out.alloc SW.out.size _)) (fun hSL => ?_)
                clear hK K hSL
                try simp only [Act.put]
                try simp only [List.setIfInBounds_toArray]
                try simp only [List.set_cons_succ, List.set_cons_zero]
                obtain ⟨x0, hX⟩ : ∃ y, y = wb.alloc (.cells #[.int .i64 q1, .int .i64 q2] 25) := ⟨_, rfl⟩
                have Q1 : Hid (SrcIn x0 (some ⟨wb.heap.size, 0, none⟩) [(q1, q2)]) := Lib.hid (by rw [hX]; exact srcIn_one wb q1 q2)
                have Ux0 : Hid (wb.Since wb.heap.size x0) := Lib.hid (by rw [hX]; exact (World.Since.refl _ _).alloc (Nat.le_refl _) _)
                have zx0 : wb.heap.size + 1 ≤ x0.heap.size ∧ x0.heap.size ≤ wb.heap.size + 1 := by rw [hX]; simp
                rw [← hX]
                clear hX
                have Sa0 := Lib.hid (Sa.out.up Ux0.out)
                have Sb0 := Lib.hid (Sb.out.up Ux0.out)
                have SX := Lib.hid (since_two SW.out Ux0.out)
                clear Sa Sb Ux0
                refine wpAnyFree_call 0 (by kernel_rfl) rfl (by rfl) (fun K hK => ?_)
                go_simp
                refine hK.out _ _ (QS.out _ (SX.out.alloc SX.out.size _)) (fun hSL => ?_)
                clear hK K hSL
                try simp only [Act.put]
                try simp only [List.setIfInBounds_toArray]
                try simp only [List.set_cons_succ, List.set_cons_zero]
                obtain ⟨x1, hX⟩ : ∃ y, y = x0.alloc (.cells #[] 25) := ⟨_, rfl⟩
                have O0 : Hid (x1.ownsRow x0.heap.size 25 2 (.slice (some ⟨x0.heap.size, 0, none⟩) 0 0) 0 []) := Lib.hid (by rw [hX]; exact lit_q x0)
                have Ux1 : Hid (x0.Since x0.heap.size x1) := Lib.hid (by rw [hX]; exact (World.Since.refl _ _).alloc (Nat.le_refl _) _)
                have zx1 : x0.heap.size + 1 ≤ x1.heap.size ∧ x1.heap.size ≤ x0.heap.size + 1 := by rw [hX]; simp
                rw [← hX]
                clear hX
                have Q1 := Lib.hid (Q1.out.up Ux1.out)
                have Sa1 := Lib.hid (Sa0.out.up Ux1.out)
                have Sb1 := Lib.hid (Sb0.out.up Ux1.out)
                have SX1 := Lib.hid (since_two SX.out Ux1.out)
                clear Sa0 Sb0 SX Ux1
                refine wpAnyFree_call 4 (by kernel_rfl) rfl (by rfl) (fun K hK => ?_)
                refine oper_append (.tmp 61) (.tmp 64) rfl rfl O0.out G cp (L.take gk) _ la.out rfl Sa1.out (by have := lc; (try simp only [List.length_cons, List.length_nil]); omega) (by omega) ?_
                intro v1 x2 hown hgrow
                have O1 := Lib.hid hown
                have G1 := Lib.hid hgrow
                have gzx2 := hgrow.size
                clear hown hgrow
                have SX2 : Hid (w7.Since w7.heap.size x2) := Lib.hid (since_grown SX1.out SX1.out.size G1.out (fun k e => by have := (O0.out.lt k e).1; omega))
                refine hK.out _ _ (QS.out _ (SX2.out)) (fun hSL => ?_)
                clear hK K hSL
                try simp only [Act.put]
                try simp only [List.setIfInBounds_toArray]
                try simp only [List.set_cons_succ, List.set_cons_zero]
                have Sb2 : Hid (SrcIn x2 G2 (L.drop gk)) := Lib.hid (Sb1.out.grown G1.out (fun ad e h => by have := HB2.out ad e; have := (O0.out.lt _ h.symm).1; have := S7.out.size; omega))
                have Q1 : Hid (SrcIn x2 (some ⟨wb.heap.size, 0, none⟩) [(q1, q2)]) := Lib.hid (Q1.out.grown G1.out (fun ad e h => by injection e with e; subst e; injection h with h; simp only at h; omega))
                clear Sa1 Sb1 O0 G1 SX1
                refine wpAnyFree_call 7 (by kernel_rfl) rfl (by rfl) (fun K hK => ?_)
                refine oper_append (.tmp 65) (.tmp 67) rfl rfl O1.out (some ⟨wb.heap.size, 0, none⟩) 1 [(q1, q2)] _ rfl rfl Q1.out (by have := lc; (try simp only [List.length_cons, List.length_nil]); omega) (by have := SX2.out.size; omega) ?_
                intro v3 x3 hown hgrow
                have O3 := Lib.hid hown
                have G3 := Lib.hid hgrow
                have gzx3 := hgrow.size
                clear hown hgrow
                have SX3 : Hid (w7.Since w7.heap.size x3) := Lib.hid (since_grown SX2.out SX2.out.size G3.out (fun k e => by have := (O1.out.lt k e).1; omega))
                refine hK.out _ _ (QS.out _ (SX3.out)) (fun hSL => ?_)
                clear hK K hSL
                try simp only [Act.put]
                try simp only [List.setIfInBounds_toArray]
                try simp only [List.set_cons_succ, List.set_cons_zero]
                have Sb3 : Hid (SrcIn x3 G2 (L.drop gk)) := Lib.hid (Sb2.out.grown G3.out (fun ad e h => by have := HB2.out ad e; have := (O1.out.lt _ h.symm).1; have := S7.out.size; omega))
                clear O1 Q1 Sb2 SX2 G3
                refine wpAnyFree_call 11 (by kernel_rfl) rfl (by rfl) (fun K hK => ?_)
                refine oper_append (.tmp 68) (.tmp 71) rfl rfl O3.out G2 (cp - gk) (L.drop gk) _ lb.out rfl Sb3.out (by have := lc; (try simp only [List.length_cons, List.length_nil]); omega) (by have := SX3.out.size; omega) ?_
                intro v5 x5 hown hgrow
                have O5 := Lib.hid hown
                have G5 := Lib.hid hgrow
                have gzx5 := hgrow.size
                clear hown hgrow
                have SX : Hid (w7.Since w7.heap.size x5) := Lib.hid (since_grown SX3.out SX3.out.size G5.out (fun k e => by have := (O3.out.lt k e).1; omega))
                refine hK.out _ _ (QS.out _ (SX.out)) (fun hSL => ?_)
                clear hK K hSL
                try simp only [Act.put]
                try simp only [List.setIfInBounds_toArray]
                try simp only [List.set_cons_succ, List.set_cons_zero]
                clear O3 Sb3 SX3 G5
                have OF : Hid (x5.ownsRow (w.heap.size + 2) 25 2 v5 (I + 1) (pC (L.take gk ++ (q1, q2) :: L.drop gk))) := Lib.hid (by
                  have h := ownsRow_low O5.out (show w.heap.size + 2 ≤ x0.heap.size by have := T4.out.2.2; have := S7.out.size; omega)
                  have e1 : gk + 1 + (I - gk) = I + 1 := by omega
                  have e2 : [] ++ pC (L.take gk) ++ pC [(q1, q2)] ++ pC (L.drop gk) = pC (L.take gk ++ (q1, q2) :: L.drop gk) := by rw [List.nil_append, ← pC_add, ← pC_add, List.append_assoc]; rfl
                  simp only [Nat.zero_add, List.length_cons, List.length_nil, List.length_take, List.length_drop, hLI.out] at h
                  rw [Nat.min_eq_left hJ, e1, e2] at h
                  exact h)
                have SF : Hid (w.Since w.heap.size x5) := Lib.hid (since_two S4.out (since_two S7.out SX.out))
                have TF : Hid (TwoB w.heap.size x5) := Lib.hid (T4.out.up (since_two S7.out SX.out))
                clear O5
                refine wpAnyFree_call 12 (by kernel_rfl) rfl (by rfl) (fun K hK => ?_)
                go_simp
                refine hK.out _ _ (QS.out _ (SX.out)) (fun hSL => ?_)
                clear hK K hSL
                try simp only [Act.put]
                try simp only [List.setIfInBounds_toArray]
                try simp only [List.set_cons_succ, List.set_cons_zero]
                refine wpAnyFree_done (by kernel_rfl) ?_ _
                have RF := Lib.hid (HPut.out gk (by have := hLI.out; omega) (fun h => HQ1.out ⟨h, by have := hLI.out; omega⟩) hGe.out)
                have LF : Hid ((L.take gk ++ (q1, q2) :: L.drop gk).length = I + 1) := Lib.hid (by have := hLI.out; simp; omega)
                go_wp2_with fail
                go_roundg (ds.length - (I + 1))
                case measure => omega
                case rel => exact ⟨I + 1, _, by omega, rfl, by go_num, Lib.hid ⟨RF.out, LF.out⟩, OF, TF, SF⟩
      · obtain rfl : I = ds.length := by omega
        obtain ⟨M, hM⟩ : ∃ M, M = ds.length * O := ⟨_, rfl⟩
        have hMb : M ≤ 500000 := by rw [hM]; exact Nat.le_trans (Nat.mul_le_mul hn1 (show O ≤ 500 by omega)) (by decide)
        have hMi : (ds.length : Int) * (O : Int) = (M : Int) := by rw [hM]; simp
        have hpl : Hid (place ds.length O = M / 1000 ∧ 2 * place ds.length O < ds.length) := Lib.hid ⟨by rw [hM]; rfl, place_half hn0 (by omega)⟩
        obtain ⟨K, hK⟩ : ∃ K, K = M / 1000 := ⟨_, rfl⟩
        have hKi : (M : Int) / 1000 = (K : Int) := by omega
        have hK2 : 2 * K < ds.length := by have := hpl.out; omega
        have hpl2 : Hid (place ds.length O = K) := Lib.hid (by rw [hK]; exact hpl.out.1)
        clear hM hpl
        obtain ⟨J, hJ⟩ : ∃ J, J = ds.length - 1 - K := ⟨_, rfl⟩
        have hJi : (ds.length : Int) - 1 - (K : Int) = (J : Int) := by omega
        have hJ2 : J < ds.length := by omega
        have hK3 : K < ds.length := by omega
        have hRk := Lib.hid (show Ranks ps ds L by have := hR.out.1; rwa [List.take_length] at this)
        have hLl := hR.out.2
        obtain ⟨g, cp', e1, hg1, hg2, b0, b1⟩ := row_cells hO.out (show K < L.length by omega)
        obtain ⟨g', cp2, e2, _, _, b2, b3⟩ := row_cells hO.out (show J < L.length by omega)
        obtain ⟨rfl, rfl⟩ : G = some ⟨g, 0, none⟩ ∧ cp = cp' := by injection e1 with a1 a2 a3; exact ⟨a1, a3⟩
        obtain rfl : g = g' := by injection e2 with a1 a2 a3; injection a1 with a1; injection a1
        have HL : Hid (L.getD K (0, 0) = L[K]'(by omega)) := Lib.hid (by simp [List.getD, show K < L.length by omega])
        have HH : Hid (L.getD J (0, 0) = L[J]'(by omega)) := Lib.hid (by simp [List.getD, show J < L.length by omega])
        have HJ : Hid (J = ds.length - 1 - K) := Lib.hid hJ
        generalize L[K]'(by omega) = x at *
        generalize L[J]'(by omega) = y at *
        obtain ⟨x1, x2⟩ := x
        obtain ⟨y1, y2⟩ := y
        simp only at b0 b1 b2 b3
        clear hJ hK e1 e2 hR hLl
        obtain ⟨k0, k1, k2, k3⟩ := hT.out.cells
        obtain ⟨f0, f1, f2, f3⟩ := hT.out.frozen
        go_wp2_with fail
        go_region
        go_wp2_with fail
        exact bodyPost_ret (v := .tuple #[.agg #[.int .i64 x1, .int .i64 x2], .agg #[.int .i64 y1, .int .i64 y2], .int .u8 0]) (by simp [results, Tryz.results13, go_sem, k0, k1, k2, k3]) rfl
          ⟨(x1, x2), (y1, y2), by rw [hE0.out]; rfl, ((((hS.out.setCell (Nat.le_refl _) _).setCell (Nat.le_refl _) _).setCell (Nat.le_succ _) _).setCell (Nat.le_succ _) _).drew, fun h => absurd hE0.out h, fun _ => ⟨_, hRk.out, by rw [Int.toNat_natCast, hpl2.out]; exact HL.out.symm, by rw [Int.toNat_natCast, hpl2.out, ← HJ.out]; exact HH.out.symm⟩⟩
end Go.Proofs.YtkklagdniaoghaaGreatDoor
