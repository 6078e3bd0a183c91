/- The walks of a draw's score and of comparing two scores, on both sides. The walks of the specification's score of a draw, and of its comparison. The walks of Better, on both sides. The walk of the specification's Better. -/
import Derived.Test.YtkklagdniaoghaaGreatDoorPA
import Derived.Test.YtkklagdniaoghaaGreatDoorK2
import Derived.Test.YtkklagdniaoghaaGreatDoorI3
import Derived.OwnWalk
namespace Go.Proofs.YtkklagdniaoghaaGreatDoor
open Go.RowKit Go.Proofs.Rank
open Go.Proofs.Frac (fr)

/-- Parts that are good, and a draw among them. -/
structure OkQ (ps : List (Int × Int)) (d : List Int) : Prop where
  pp : ∀ p ∈ ps, 0 ≤ p.1 ∧ p.1 ≤ 1000000 ∧ 0 ≤ p.2 ∧ p.2 ≤ 1000000
  ld : d.length ≤ 256
  dd : ∀ x ∈ d, 0 ≤ x ∧ x < (ps.length : Int)
theorem OkQ.at_ {ps : List (Int × Int)} {d : List Int} (h : OkQ ps d) {I : Nat} (hI : I < d.length) : ∃ (n : Nat) (hn : n < ps.length) (u v : Nat), d[I] = n ∧ ps[n].1 = u ∧ ps[n].2 = v ∧ u ≤ 1000000 ∧ v ≤ 1000000 ∧ pN ps d[I] = u ∧ pD ps d[I] = v := by
  obtain ⟨x0, x1⟩ := h.dd _ (List.getElem_mem hI)
  have hn : d[I].toNat < ps.length := by omega
  obtain ⟨a, b, c, e⟩ := h.pp _ (List.getElem_mem hn)
  refine ⟨d[I].toNat, hn, ps[d[I].toNat].1.toNat, ps[d[I].toNat].2.toNat, by omega, by omega, by omega, by omega, by omega, ?_, ?_⟩
  · unfold pN; rw [getD_at hn]
  · unfold pD; rw [getD_at hn]
theorem OkQ.sum {ps : List (Int × Int)} {d : List Int} (h : OkQ ps d) (I : Nat) (hI : I ≤ d.length) : sumN (pN ps) (d.take I) ≤ I * 1000000 ∧ sumN (pD ps) (d.take I) ≤ I * 1000000 := by
  induction I with
  | zero => simp [sumN]
  | succ I ih =>
    obtain ⟨h1, h2⟩ := ih (by omega)
    have hI' : I < d.length := by omega
    obtain ⟨n, hn, u, v, _, _, _, hu, hv, e1, e2⟩ := h.at_ hI'
    rw [sumN_take _ _ hI', sumN_take _ _ hI', e1, e2]
    omega
set_option maxHeartbeats 3200000 in
set_option maxRecDepth 1000000 in
theorem score_says (ps : List (Int × Int)) (d : List Int) (A R : Option Addr) (c k : Nat) (w : World) (hP : PIn w A c ps) (hD : IIn w R k d) (hQ : OkQ ps d) (hl : ps.length ≤ 9223372036854775807) :
    Calls Tryz.prog 35 #[.slice A ps.length c, .slice R d.length k] w fun e w' => e = .returned (frV (sc ps d)) ∧ w.Since w.heap.size w' := by
  have S0 := Lib.hid (since_alloc (World.Since.refl w.heap.size w) (.cells #[.int .i64 0, .int .i64 0] 25))
  have HP := Lib.hid (hP.up S0.out)
  have HD := Lib.hid (hD.up S0.out)
  have HQ := Lib.hid hQ
  have hld := hQ.ld
  have C0 : Hid (((w.alloc (.cells #[.int .i64 0, .int .i64 0] 25)).cell? ⟨w.heap.size, 0, none⟩ = some (.int .i64 0) ∧ (w.alloc (.cells #[.int .i64 0, .int .i64 0] 25)).cell? ⟨w.heap.size, 1, none⟩ = some (.int .i64 0)) ∧ ((w.alloc (.cells #[.int .i64 0, .int .i64 0] 25)).frozen? ⟨w.heap.size, 0, none⟩ = false ∧ (w.alloc (.cells #[.int .i64 0, .int .i64 0] 25)).frozen? ⟨w.heap.size, 1, none⟩ = false) ∧ w.heap.size < (w.alloc (.cells #[.int .i64 0, .int .i64 0] 25)).heap.size) := Lib.hid ⟨⟨by simp, by simp⟩, ⟨by simp, by simp⟩, by simp⟩
  have HS : Hid (sc ps d = fr (sumN (pN ps) d) (sumN (pD ps) d)) := Lib.hid rfl
  generalize sc ps d = q at *
  obtain ⟨q1, q2⟩ := q
  unfold frV
  clear hP hD hQ
  go_enter Tryz.func35, Tryz.ntmps35
  go_wp2_with fail
  generalize (w.alloc (.cells #[.int .i64 0, .int .i64 0] 25)) = w1 at *
  go_loop [5, 6, 11] (fun x y i => ∃ I N D : Nat, I ≤ d.length ∧ i = .int .i64 I ∧ x = .int .i64 N ∧ y = .int .i64 D ∧ N ≤ I * 1000000 ∧ D ≤ I * 1000000 ∧ Hid (N = sumN (pN ps) (d.take I) ∧ D = sumN (pD ps) (d.take I))) (fun _ _ i => d.length - (intOf i).toNat)
  case atStart => exact ⟨0, 0, 0, by omega, rfl, rfl, rfl, by omega, by omega, Lib.hid ⟨rfl, rfl⟩⟩
  case round =>
    obtain ⟨I, N, D, hI, rfl, rfl, rfl, hN, hDn, hT⟩ := hrel
    by_cases hlt : I < d.length
    · obtain ⟨n, hn, u, v, e1, e2, e3, hu, hv, e4, e5⟩ := HQ.out.at_ hlt
      obtain ⟨ad, rfl, hab, c0⟩ := HD.out.at_ I hlt
      obtain ⟨bd, rfl, hbb, c1, c2⟩ := HP.out.at_ n hn
      have HT : Hid (N + u = sumN (pN ps) (d.take (I + 1)) ∧ D + v = sumN (pD ps) (d.take (I + 1))) := Lib.hid (by
        rw [sumN_take _ _ hlt, sumN_take _ _ hlt, e4, e5, ← hT.out.1, ← hT.out.2]
        exact ⟨rfl, rfl⟩)
      rw [e1] at c0
      rw [e2] at c1
      rw [e3] at c2
      have hltI : (I : Int) < (d.length : Int) := by omega
      have hnI : (n : Int) < (ps.length : Int) := by omega
      clear e1 e2 e3 e4 e5 hT hab hbb
      go_wp2_with fail
      go_round
      case measure => simp [intOf]; omega
      case rel => exact ⟨I + 1, N + u, D + v, by omega, by go_num, by go_num, by go_num, by omega, by omega, HT⟩
    · obtain rfl : I = d.length := by omega
      have HF : Hid (fr N D = (q1, q2)) := Lib.hid (by
        have h := hT.out
        rw [List.take_length] at h
        rw [HS.out, h.1, h.2])
      clear hT HS
      have KO := Lib.hid (fun wx => over_says N D wx (by omega) (by omega))
      rw [HF.out] at KO
      unfold frV at KO
      clear HF
      go_wp2_with fail
      refine (KO.out _).mono ?_
      rintro e w2 ⟨rfl, hs⟩
      have h0 := C0.out
      have k0 : w2.cell? ⟨w.heap.size, 0, none⟩ = some (.int .i64 0) := (hs.cell h0.2.2).trans h0.1.1
      have k1 : w2.cell? ⟨w.heap.size, 1, none⟩ = some (.int .i64 0) := (hs.cell h0.2.2).trans h0.1.2
      have f0 : w2.frozen? ⟨w.heap.size, 0, none⟩ = false := (hs.frozen h0.2.2).trans h0.2.1.1
      have f1 : w2.frozen? ⟨w.heap.size, 1, none⟩ = false := (hs.frozen h0.2.2).trans h0.2.1.2
      have S2 := Lib.hid (since_two S0.out hs)
      clear hs h0 KO C0 S0
      go_wp2_with fail
      exact bodyPost_ret (v := .agg #[.int .i64 q1, .int .i64 q2]) (by simp [results, Tryz.results35, go_sem, k0, k1]) rfl ⟨rfl, (S2.out.setCell (Nat.le_refl _) _).setCell (Nat.le_refl _) _⟩
end Go.Proofs.YtkklagdniaoghaaGreatDoor
namespace Go.Proofs.YtkklagdniaoghaaGreatDoor
open Go.RowKit Go.Proofs.Rank
open Go.Proofs.Frac (fr)

set_option maxHeartbeats 3200000 in
set_option maxRecDepth 1000000 in
theorem refScore_says (ps : List (Int × Int)) (d : List Int) (A R : Option Addr) (c k : Nat) (w : World) (hP : PIn w A c ps) (hD : IIn w R k d) (hQ : OkQ ps d) (hl : ps.length ≤ 9223372036854775807) :
    Calls Tryz.prog 17 #[.slice A ps.length c, .slice R d.length k] w fun e w' => e = .returned (frV (sc ps d)) ∧ w.Since w.heap.size w' := by
  have S0 := Lib.hid (since_alloc (World.Since.refl w.heap.size w) (.cells #[.int .i64 0, .int .i64 0] 25))
  have HP := Lib.hid (hP.up S0.out)
  have HD := Lib.hid (hD.up S0.out)
  have HQ := Lib.hid hQ
  have hld := hQ.ld
  have C0 : Hid (((w.alloc (.cells #[.int .i64 0, .int .i64 0] 25)).cell? ⟨w.heap.size, 0, none⟩ = some (.int .i64 0) ∧ (w.alloc (.cells #[.int .i64 0, .int .i64 0] 25)).cell? ⟨w.heap.size, 1, none⟩ = some (.int .i64 0)) ∧ ((w.alloc (.cells #[.int .i64 0, .int .i64 0] 25)).frozen? ⟨w.heap.size, 0, none⟩ = false ∧ (w.alloc (.cells #[.int .i64 0, .int .i64 0] 25)).frozen? ⟨w.heap.size, 1, none⟩ = false) ∧ w.heap.size < (w.alloc (.cells #[.int .i64 0, .int .i64 0] 25)).heap.size) := Lib.hid ⟨⟨by simp, by simp⟩, ⟨by simp, by simp⟩, by simp⟩
  have HS : Hid (sc ps d = fr (sumN (pN ps) d) (sumN (pD ps) d)) := Lib.hid rfl
  generalize sc ps d = q at *
  obtain ⟨q1, q2⟩ := q
  unfold frV
  clear hP hD hQ
  go_enter Tryz.func17, Tryz.ntmps17
  go_wp2_with fail
  generalize (w.alloc (.cells #[.int .i64 0, .int .i64 0] 25)) = w1 at *
  go_loop [5, 6, 7] (fun x y i => ∃ I N D : Nat, I ≤ d.length ∧ i = .int .i64 I ∧ x = .int .i64 N ∧ y = .int .i64 D ∧ N ≤ I * 1000000 ∧ D ≤ I * 1000000 ∧ Hid (N = sumN (pN ps) (d.take I) ∧ D = sumN (pD ps) (d.take I))) (fun _ _ i => d.length - (intOf i).toNat)
  case atStart => exact ⟨0, 0, 0, by omega, rfl, rfl, rfl, by omega, by omega, Lib.hid ⟨rfl, rfl⟩⟩
  case round =>
    obtain ⟨I, N, D, hI, rfl, rfl, rfl, hN, hDn, hT⟩ := hrel
    by_cases hlt : I < d.length
    · obtain ⟨n, hn, u, v, e1, e2, e3, hu, hv, e4, e5⟩ := HQ.out.at_ hlt
      obtain ⟨ad, rfl, hab, c0⟩ := HD.out.at_ I hlt
      obtain ⟨bd, rfl, hbb, c1, c2⟩ := HP.out.at_ n hn
      have HT : Hid (N + u = sumN (pN ps) (d.take (I + 1)) ∧ D + v = sumN (pD ps) (d.take (I + 1))) := Lib.hid (by
        rw [sumN_take _ _ hlt, sumN_take _ _ hlt, e4, e5, ← hT.out.1, ← hT.out.2]
        exact ⟨rfl, rfl⟩)
      rw [e1] at c0
      rw [e2] at c1
      rw [e3] at c2
      have hltI : (I : Int) < (d.length : Int) := by omega
      have hnI : (n : Int) < (ps.length : Int) := by omega
      clear e1 e2 e3 e4 e5 hT hab hbb
      go_wp2_with fail
      go_round
      case measure => simp [intOf]; omega
      case rel => exact ⟨I + 1, N + u, D + v, by omega, by go_num, by go_num, by go_num, by omega, by omega, HT⟩
    · obtain rfl : I = d.length := by omega
      have HF : Hid (fr N D = (q1, q2)) := Lib.hid (by
        have h := hT.out
        rw [List.take_length] at h
        rw [HS.out, h.1, h.2])
      clear hT HS
      have KO := Lib.hid (fun wx => quot_says N D wx (by omega) (by omega))
      rw [HF.out] at KO
      unfold frV at KO
      clear HF
      go_wp2_with fail
      refine (KO.out _).mono ?_
      rintro e w2 ⟨rfl, hs⟩
      have h0 := C0.out
      have k0 : w2.cell? ⟨w.heap.size, 0, none⟩ = some (.int .i64 0) := (hs.cell h0.2.2).trans h0.1.1
      have k1 : w2.cell? ⟨w.heap.size, 1, none⟩ = some (.int .i64 0) := (hs.cell h0.2.2).trans h0.1.2
      have f0 : w2.frozen? ⟨w.heap.size, 0, none⟩ = false := (hs.frozen h0.2.2).trans h0.2.1.1
      have f1 : w2.frozen? ⟨w.heap.size, 1, none⟩ = false := (hs.frozen h0.2.2).trans h0.2.1.2
      have S2 := Lib.hid (since_two S0.out hs)
      clear hs h0 KO C0 S0
      go_wp2_with fail
      exact bodyPost_ret (v := .agg #[.int .i64 q1, .int .i64 q2]) (by simp [results, Tryz.results17, go_sem, k0, k1]) rfl ⟨rfl, (S2.out.setCell (Nat.le_refl _) _).setCell (Nat.le_refl _) _⟩
set_option maxHeartbeats 1600000 in
set_option maxRecDepth 100000 in
theorem refCmp_says (x y : Qs) (w : World) : Calls Tryz.prog 16 #[qV x, qV y] w fun e w' => e = .returned (.int .i64 (cmpQ x.1 y.1)) ∧ w.Since w.heap.size w' := by
  obtain ⟨⟨a1, a2⟩, ha1, _, ha2⟩ := x
  obtain ⟨⟨b1, b2⟩, hb1, _, hb2⟩ := y
  simp only at ha1 ha2 hb1 hb2
  obtain ⟨ex, hx⟩ := wrap_cross ha1 hb2
  obtain ⟨ey, hy⟩ := wrap_cross hb1 ha2
  have HF : Hid (cmpQ (a1, a2) (b1, b2) = if a1 * b2 < b1 * a2 then -1 else if b1 * a2 < a1 * b2 then 1 else 0) := Lib.hid rfl
  unfold qV
  simp only
  rw [HF.out]
  clear HF
  generalize a1 * b2 = p at *
  generalize b1 * a2 = q at *
  have S0 : Hid (∀ n, w.Since w.heap.size (((w.alloc (.cells #[.int .i64 a1, .int .i64 a2] 25)).alloc (.cells #[.int .i64 b1, .int .i64 b2] 25)).drewN n)) := Lib.hid (fun n => by
    have h := ((World.Since.refl w.heap.size w).alloc (Nat.le_refl _) (.cells #[.int .i64 a1, .int .i64 a2] 25)).alloc (by simp) (.cells #[.int .i64 b1, .int .i64 b2] 25)
    exact ⟨h.os, h.tape, h.output, h.size, h.block⟩)
  by_cases h1 : p < q
  · rw [if_pos h1]
    have h1i : (p : Int) < (q : Int) := by omega
    go_enter Tryz.func16, Tryz.ntmps16
    go_wp2_with fail
    go_quiet (fail)
    go_wp2_with fail
    go_ret
    exact ⟨rfl, S0.out _⟩
  · rw [if_neg h1]
    have h1i : ¬ (p : Int) < (q : Int) := by omega
    by_cases h2 : q < p
    · rw [if_pos h2]
      have h2i : (q : Int) < (p : Int) := by omega
      go_enter Tryz.func16, Tryz.ntmps16
      go_wp2_with fail
      go_quiet (fail)
      go_wp2_with fail
      go_ret
      exact ⟨rfl, S0.out _⟩
    · rw [if_neg h2]
      have h2i : ¬ (q : Int) < (p : Int) := by omega
      go_enter Tryz.func16, Tryz.ntmps16
      go_wp2_with fail
      go_quiet (fail)
      go_wp2_with fail
      go_ret
      exact ⟨rfl, S0.out _⟩
end Go.Proofs.YtkklagdniaoghaaGreatDoor
namespace Go.Proofs.YtkklagdniaoghaaGreatDoor
open Go.RowKit Go.Proofs.Rank Go.Sort
open Go.Proofs.Frac (fr)

/-- What both say. -/
def BetSay (a b : List (Int × Int)) (ds : List (List Int)) (w : World) (e : Ending) (w' : World) : Prop :=
  e = .returned (.tuple #[.int .i64 (if betE a b ds = 0 then more a b ds else 0 : Nat), .int .i64 (if betE a b ds = 0 then more b a ds else 0 : Nat), .int .u8 (betE a b ds : Nat)]) ∧ w.Since w.heap.size w'
theorem more_take (a b : List (Int × Int)) (ds : List (List Int)) {I : Nat} (h : I < ds.length) : more a b (ds.take (I + 1)) = more a b (ds.take I) + (if 0 < cmpQ (sc a ds[I]) (sc b ds[I]) then 1 else 0) := by
  unfold more
  rw [List.take_succ_eq_append_getElem h, List.countP_append]
  simp [List.countP_cons]
theorem more_le (a b : List (Int × Int)) (ds : List (List Int)) : more a b ds ≤ ds.length := List.countP_le_length
theorem betE_1 {a b : List (Int × Int)} {ds : List (List Int)} (h : sampE a ds ≠ 0) : betE a b ds = sampE a ds := by unfold betE; rw [if_pos h]
theorem betE_2 {a b : List (Int × Int)} {ds : List (List Int)} (h : sampE a ds = 0) (h2 : sampE b ds ≠ 0) : betE a b ds = sampE b ds := by unfold betE; rw [if_neg (by omega), if_pos h2]
theorem betE_3 {a b : List (Int × Int)} {ds : List (List Int)} (h : sampE a ds = 0) (h2 : sampE b ds = 0) (h3 : a.length ≠ b.length) : betE a b ds = 1 := by unfold betE; rw [if_neg (by omega), if_neg (by omega), if_pos h3]
theorem betE_0 {a b : List (Int × Int)} {ds : List (List Int)} (h : sampE a ds = 0) (h2 : sampE b ds = 0) (h3 : a.length = b.length) : betE a b ds = 0 := by unfold betE; rw [if_neg (by omega), if_neg (by omega), if_neg (by omega)]
theorem bet_err {a b : List (Int × Int)} {ds : List (List Int)} {w w' : World} {n : Nat} (hn : betE a b ds = n) (hn0 : n ≠ 0) (hs : w.Since w.heap.size w') :
    BetSay a b ds w (.returned (.tuple #[.int .i64 0, .int .i64 0, .int .u8 (n : Nat)])) w' := by
  refine ⟨?_, hs⟩
  rw [hn, if_neg hn0, if_neg hn0]
  rfl
theorem bet_ok {a b : List (Int × Int)} {ds : List (List Int)} {w w' : World} {M L : Nat} (hn : betE a b ds = 0) (hM : M = more a b ds) (hL : L = more b a ds) (hs : w.Since w.heap.size w') :
    BetSay a b ds w (.returned (.tuple #[.int .i64 (M : Nat), .int .i64 (L : Nat), .int .u8 0])) w' := by
  refine ⟨?_, hs⟩
  rw [hn, if_pos rfl, if_pos rfl, hM, hL]
  rfl
theorem qV_mk {ps : List (Int × Int)} {ds : List (List Int)} (h : OkS ps ds) {i : Nat} (hi : i < ds.length) : qV (mkQ (sc ps ds[i])) = frV (sc ps ds[i]) := by
  obtain ⟨h1, h2, h3⟩ := sc_small h ds[i] (h.dd _ (List.getElem_mem hi)).2.1
  unfold qV frV
  rw [mkQ_val ⟨h1, h3, h2⟩]
theorem sc_mk' {ps : List (Int × Int)} {ds : List (List Int)} (h : OkS ps ds) {i : Nat} (hi : i < ds.length) : (mkQ (sc ps ds[i])).1 = sc ps ds[i] := by
  obtain ⟨h1, h2, h3⟩ := sc_small h ds[i] (h.dd _ (List.getElem_mem hi)).2.1
  exact mkQ_val ⟨h1, h3, h2⟩
theorem okQ_of' {ps : List (Int × Int)} {ds : List (List Int)} (h : OkS ps ds) {i : Nat} (hi : i < ds.length) : OkQ ps ds[i] := ⟨h.pp, (h.dd _ (List.getElem_mem hi)).2.1, (h.dd _ (List.getElem_mem hi)).2.2⟩
theorem cmpS {a b : List (Int × Int)} {ds : List (List Int)} (ha : OkS a ds) (hb : OkS b ds) {i : Nat} (hi : i < ds.length) (w : World) :
    Calls Tryz.prog 37 #[.agg #[], frV (sc a ds[i]), frV (sc b ds[i])] w fun e w' => e = .returned (.int .i64 (cmpQ (sc a ds[i]) (sc b ds[i]))) ∧ w.Since w.heap.size w' := by
  have h := cmp_says (mkQ (sc a ds[i])) (mkQ (sc b ds[i])) w
  rw [qV_mk ha hi, qV_mk hb hi, sc_mk' ha hi, sc_mk' hb hi] at h
  exact h
theorem refCmpS {a b : List (Int × Int)} {ds : List (List Int)} (ha : OkS a ds) (hb : OkS b ds) {i : Nat} (hi : i < ds.length) (w : World) :
    Calls Tryz.prog 16 #[frV (sc a ds[i]), frV (sc b ds[i])] w fun e w' => e = .returned (.int .i64 (cmpQ (sc a ds[i]) (sc b ds[i]))) ∧ w.Since w.heap.size w' := by
  have h := refCmp_says (mkQ (sc a ds[i])) (mkQ (sc b ds[i])) w
  rw [qV_mk ha hi, qV_mk hb hi, sc_mk' ha hi, sc_mk' hb hi] at h
  exact h
set_option maxHeartbeats 1600000 in
set_option maxRecDepth 1000000 in
theorem better_says (a b : List (Int × Int)) (ds : List (List Int)) (A B D : Option Addr) (c cb k : Nat) (w : World) (hA : PIn w A c a) (hB : PIn w B cb b) (hD : DIn w D k ds) (hl : c ≤ 9223372036854775807) (hlb : cb ≤ 9223372036854775807) (hk : k ≤ 9223372036854775807) (hd : ∀ d ∈ ds, d.length ≤ 9223372036854775807) :
    Calls Tryz.prog 14 #[.slice A a.length c, .slice B b.length cb, .slice D ds.length k] w (BetSay a b ds w) := by
  have hp1 := hA.cap
  have hp2 := hD.cap
  have hp3 := hB.cap
  have K1 := Lib.hid (drawn_says a ds A D c k w hA hD hl hk hd)
  have K2 := Lib.hid (fun wx (hs : w.Since w.heap.size wx) => drawn_says b ds B D cb k wx (hB.up hs) (hD.up hs) hlb hk hd)
  have HA := Lib.hid hA
  have HB := Lib.hid hB
  have HD := Lib.hid hD
  have HE := Lib.hid (fun n h h0 h1 => bet_err (a := a) (b := b) (ds := ds) (w := w) (n := n) (w' := h1) h h0)
  have E1 := Lib.hid (betE_1 (a := a) (b := b) (ds := ds))
  have E2 := Lib.hid (betE_2 (a := a) (b := b) (ds := ds))
  have E3 := Lib.hid (betE_3 (a := a) (b := b) (ds := ds))
  have E0 := Lib.hid (betE_0 (a := a) (b := b) (ds := ds))
  have O1 := Lib.hid (okS_of (ps := a) (ds := ds))
  have O2 := Lib.hid (okS_of (ps := b) (ds := ds))
  unfold SampSay at K1 K2
  generalize sampE a ds = X at *
  generalize sampE b ds = Y at *
  clear hA hB hD hd
  go_enter Tryz.func14, Tryz.ntmps14
  go_wp2_with fail
  refine K1.out.mono ?_
  rintro e w1 ⟨rfl, hs⟩
  have S1 := Lib.hid hs
  clear hs K1
  by_cases hx : X = 0
  case neg =>
    have hz1 : ((X : Int) == 0) = false := by simp; omega
    have hz2 : ((X : Int) != 0) = true := by simp; omega
    have HF := Lib.hid (HE.out X (E1.out hx) hx w1 S1.out)
    clear HE E1 E2 E3 E0 O1 O2 hx
    go_wp2_with fail
    go_ret3
    exact HF.out
  subst hx
  go_wp2_with fail
  refine (K2.out _ S1.out).mono ?_
  rintro e w2 ⟨rfl, hs⟩
  have S2 := Lib.hid (since_two S1.out hs)
  clear hs K2 S1
  by_cases hy : Y = 0
  case neg =>
    have hz1 : ((Y : Int) == 0) = false := by simp; omega
    have hz2 : ((Y : Int) != 0) = true := by simp; omega
    have HF := Lib.hid (HE.out Y (E2.out (by trivial) hy) hy w2 S2.out)
    clear HE E1 E2 E3 E0 O1 O2 hy
    go_wp2_with fail
    go_ret3
    exact HF.out
  subst hy
  by_cases hlen : a.length = b.length
  case neg =>
    have hz1 : ((a.length : Int) == (b.length : Int)) = false := by simp; omega
    have hz2 : ((a.length : Int) != (b.length : Int)) = true := by simp; omega
    have HF := Lib.hid (HE.out 1 (E3.out (by trivial) (by trivial) hlen) (by decide) w2 S2.out)
    clear HE E1 E2 E3 E0 O1 O2 hlen
    go_wp2_with fail
    go_ret3
    exact HF.out
  have HZ := Lib.hid (E0.out (by trivial) (by trivial) hlen)
  have oA := Lib.hid (O1.out (by trivial))
  have oB := Lib.hid (O2.out (by trivial))
  have hz1 : ((a.length : Int) == (b.length : Int)) = true := by simp; omega
  have hz2 : ((a.length : Int) != (b.length : Int)) = false := by simp; omega
  clear HE E1 E2 E3 E0 O1 O2 hlen
  have hdl := oA.out.ld
  go_wp2_with fail
  go_loopg [6, 7, 32] ds.length (fun gk m l i wr => ∃ I M L : Nat, I ≤ ds.length ∧ M ≤ I ∧ L ≤ I ∧ gk = ds.length - I ∧ i = .int .i64 I ∧ m = .int .i64 M ∧ l = .int .i64 L ∧ Hid (M = more a b (ds.take I) ∧ L = more b a (ds.take I)) ∧ Hid (w.Since w.heap.size wr))
  case atStart => exact ⟨0, 0, 0, by omega, by omega, by omega, by omega, rfl, rfl, rfl, Lib.hid ⟨rfl, rfl⟩, S2⟩
  case round =>
    clear S2
    obtain ⟨I, M, L, hI, hM, hL, rfl, rfl, rfl, rfl, hT, hS⟩ := hrel
    by_cases hlt : I < ds.length
    · obtain ⟨ad, R, kk, rfl, hab, c0, hIn⟩ := (HD.out.up hS.out).at_ I hlt
      have hltI : (I : Int) < (ds.length : Int) := by omega
      have KA := Lib.hid (fun wx (hs : wr.Since wr.heap.size wx) => score_says a ds[I] A R c kk wx ((HA.out.up hS.out).up hs) (hIn.up hs) (okQ_of' oA.out hlt) (by omega))
      have KB := Lib.hid (fun wx (hs : wr.Since wr.heap.size wx) => score_says b ds[I] B R cb kk wx ((HB.out.up hS.out).up hs) (hIn.up hs) (okQ_of' oB.out hlt) (by omega))
      have KC := Lib.hid (fun wx => cmpS oA.out oB.out hlt wx)
      have HM := Lib.hid (more_take a b ds hlt)
      have HL := Lib.hid (more_take b a ds hlt)
      rw [cmpQ_swap (sc a ds[I])] at HL
      have h3 := cmpQ_cases (sc a ds[I]) (sc b ds[I])
      generalize cmpQ (sc a ds[I]) (sc b ds[I]) = q at *
      generalize sc a ds[I] = x at *
      generalize sc b ds[I] = y at *
      generalize ds[I] = d at *
      obtain ⟨x1, x2⟩ := x
      obtain ⟨y1, y2⟩ := y
      unfold frV at KA KB KC
      simp only at KA KB KC
      clear hab hIn
      go_wp2_with fail
      refine (KA.out _ (World.Since.refl _ _)).mono ?_
      rintro e w3 ⟨rfl, hs⟩
      have S3 := Lib.hid hs
      clear hs KA
      go_wp2_with fail
      refine (KB.out _ S3.out).mono ?_
      rintro e w4 ⟨rfl, hs⟩
      have S4 := Lib.hid (since_two S3.out hs)
      clear hs KB S3
      go_wp2_with fail
      refine (KC.out _).mono ?_
      rintro e w5 ⟨rfl, hs⟩
      have S5 := Lib.hid (since_two hS.out (since_two S4.out hs))
      clear hs KC S4 c0
      rcases h3 with rfl | rfl | rfl
      · have HM2 : Hid (M = more a b (ds.take (I + 1)) ∧ L + 1 = more b a (ds.take (I + 1))) := Lib.hid (by rw [HM.out, HL.out, ← hT.out.1, ← hT.out.2]; exact ⟨rfl, rfl⟩)
        clear HM HL hT
        go_wp2_with fail
        go_roundg (ds.length - (I + 1))
        case measure => omega
        case rel => exact ⟨I + 1, M, L + 1, by omega, by omega, by omega, rfl, by go_num, rfl, by go_num, HM2, S5⟩
      · have HM2 : Hid (M = more a b (ds.take (I + 1)) ∧ L = more b a (ds.take (I + 1))) := Lib.hid (by rw [HM.out, HL.out, ← hT.out.1, ← hT.out.2]; exact ⟨rfl, rfl⟩)
        clear HM HL hT
        go_wp2_with fail
        go_roundg (ds.length - (I + 1))
        case measure => omega
        case rel => exact ⟨I + 1, M, L, by omega, by omega, by omega, rfl, by go_num, rfl, rfl, HM2, S5⟩
      · have HM2 : Hid (M + 1 = more a b (ds.take (I + 1)) ∧ L = more b a (ds.take (I + 1))) := Lib.hid (by rw [HM.out, HL.out, ← hT.out.1, ← hT.out.2]; exact ⟨rfl, rfl⟩)
        clear HM HL hT
        go_wp2_with fail
        go_roundg (ds.length - (I + 1))
        case measure => omega
        case rel => exact ⟨I + 1, M + 1, L, by omega, by omega, by omega, rfl, by go_num, by go_num, rfl, HM2, S5⟩
    · obtain rfl : I = ds.length := by omega
      have HF := Lib.hid (bet_ok (M := M) (L := L) HZ.out (by rw [hT.out.1, List.take_length]) (by rw [hT.out.2, List.take_length]) hS.out)
      clear hT
      go_wp2_with fail
      go_ret3
      exact HF.out
end Go.Proofs.YtkklagdniaoghaaGreatDoor
namespace Go.Proofs.YtkklagdniaoghaaGreatDoor
open Go.RowKit Go.Proofs.Rank Go.Sort
open Go.Proofs.Frac (fr)

set_option maxHeartbeats 1600000 in
set_option maxRecDepth 1000000 in
theorem refBetter_says (a b : List (Int × Int)) (ds : List (List Int)) (A B D : Option Addr) (c cb k : Nat) (w : World) (hA : PIn w A c a) (hB : PIn w B cb b) (hD : DIn w D k ds) (hl : c ≤ 9223372036854775807) (hlb : cb ≤ 9223372036854775807) (hk : k ≤ 9223372036854775807) (hd : ∀ d ∈ ds, d.length ≤ 9223372036854775807) :
    Calls Tryz.prog 15 #[.slice A a.length c, .slice B b.length cb, .slice D ds.length k] w (BetSay a b ds w) := by
  have hp1 := hA.cap
  have hp2 := hD.cap
  have hp3 := hB.cap
  have K1 := Lib.hid (sampled_says a ds A D c k w hA hD hl hk hd)
  have K2 := Lib.hid (sampled_says b ds B D cb k w hB hD hlb hk hd)
  have HA := Lib.hid hA
  have HB := Lib.hid hB
  have HD := Lib.hid hD
  have HE := Lib.hid (fun n h h0 => bet_err (a := a) (b := b) (ds := ds) (w := w) (n := n) (w' := w) h h0 (World.Since.refl _ _))
  have E1 := Lib.hid (betE_1 (a := a) (b := b) (ds := ds))
  have E2 := Lib.hid (betE_2 (a := a) (b := b) (ds := ds))
  have E3 := Lib.hid (betE_3 (a := a) (b := b) (ds := ds))
  have E0 := Lib.hid (betE_0 (a := a) (b := b) (ds := ds))
  have O1 := Lib.hid (okS_of (ps := a) (ds := ds))
  have O2 := Lib.hid (okS_of (ps := b) (ds := ds))
  generalize sampE a ds = X at *
  generalize sampE b ds = Y at *
  clear hA hB hD hd
  go_enter Tryz.func15, Tryz.ntmps15
  go_wp2_with fail
  refine K1.out.mono ?_
  rintro e w1 ⟨rfl, rfl⟩
  clear K1
  by_cases hx : X = 0
  case neg =>
    have hz1 : ((X : Int) == 0) = false := by simp; omega
    have hz2 : ((X : Int) != 0) = true := by simp; omega
    have HF := Lib.hid (HE.out X (E1.out hx) hx)
    clear HE E1 E2 E3 E0 O1 O2 hx K2
    go_wp2_with fail
    go_ret3
    exact HF.out
  subst hx
  go_wp2_with fail
  refine K2.out.mono ?_
  rintro e w2 ⟨rfl, rfl⟩
  clear K2
  by_cases hy : Y = 0
  case neg =>
    have hz1 : ((Y : Int) == 0) = false := by simp; omega
    have hz2 : ((Y : Int) != 0) = true := by simp; omega
    have HF := Lib.hid (HE.out Y (E2.out (by trivial) hy) hy)
    clear HE E1 E2 E3 E0 O1 O2 hy
    go_wp2_with fail
    go_ret3
    exact HF.out
  subst hy
  by_cases hlen : a.length = b.length
  case neg =>
    have hz1 : ((a.length : Int) == (b.length : Int)) = false := by simp; omega
    have hz2 : ((a.length : Int) != (b.length : Int)) = true := by simp; omega
    have HF := Lib.hid (HE.out 1 (E3.out (by trivial) (by trivial) hlen) (by decide))
    clear HE E1 E2 E3 E0 O1 O2 hlen
    go_wp2_with fail
    go_ret3
    exact HF.out
  have HZ := Lib.hid (E0.out (by trivial) (by trivial) hlen)
  have oA := Lib.hid (O1.out (by trivial))
  have oB := Lib.hid (O2.out (by trivial))
  have hz1 : ((a.length : Int) == (b.length : Int)) = true := by simp; omega
  have hz2 : ((a.length : Int) != (b.length : Int)) = false := by simp; omega
  clear HE E1 E2 E3 E0 O1 O2 hlen
  have hdl := oA.out.ld
  go_wp2_with fail
  go_loopg [10, 11, 12] ds.length (fun gk m l i wr => ∃ I M L : Nat, I ≤ ds.length ∧ M ≤ I ∧ L ≤ I ∧ gk = ds.length - I ∧ i = .int .i64 I ∧ m = .int .i64 M ∧ l = .int .i64 L ∧ Hid (M = more a b (ds.take I) ∧ L = more b a (ds.take I)) ∧ Hid (w.Since w.heap.size wr))
  case atStart => exact ⟨0, 0, 0, by omega, by omega, by omega, by omega, rfl, rfl, rfl, Lib.hid ⟨rfl, rfl⟩, Lib.hid (World.Since.refl _ _)⟩
  case round =>
    obtain ⟨I, M, L, hI, hM, hL, rfl, rfl, rfl, rfl, hT, hS⟩ := hrel
    by_cases hlt : I < ds.length
    · obtain ⟨ad, R, kk, rfl, hab, c0, hIn⟩ := (HD.out.up hS.out.drew).at_ I hlt
      have hltI : (I : Int) < (ds.length : Int) := by omega
      have KA := Lib.hid (refScore_says a ds[I] A R c kk wr.drew (HA.out.up hS.out.drew) hIn (okQ_of' oA.out hlt) (by omega))
      have KB := Lib.hid (fun wx (hs : wr.drew.Since wr.drew.heap.size wx) => refScore_says b ds[I] B R cb kk wx ((HB.out.up hS.out.drew).up hs) (hIn.up hs) (okQ_of' oB.out hlt) (by omega))
      have KC := Lib.hid (fun wx => refCmpS oA.out oB.out hlt wx)
      have CU := Lib.hid (fun wx (hs : wr.drew.Since wr.drew.heap.size wx) => (hs.cell (a := ad.add I) (by rw [block_add]; exact hab)).trans c0)
      have HM := Lib.hid (more_take a b ds hlt)
      have HL := Lib.hid (more_take b a ds hlt)
      rw [cmpQ_swap (sc a ds[I])] at HL
      have h3 := cmpQ_cases (sc a ds[I]) (sc b ds[I])
      generalize cmpQ (sc a ds[I]) (sc b ds[I]) = q at *
      generalize sc a ds[I] = x at *
      generalize sc b ds[I] = y at *
      generalize ds[I] = d at *
      obtain ⟨x1, x2⟩ := x
      obtain ⟨y1, y2⟩ := y
      unfold frV at KA KB KC
      simp only at KA KB KC
      have C1 := Lib.hid c0
      clear hab hIn c0
      go_wp2_with fail
      go_region_held3 (fun w' => w'.cell? (ad.add I) = some (.slice R d.length kk))
        (first
          | exact C1.out
          | exact C3.out
          | exact C4.out
          | exact C5.out)
        (first
          | (go_at_call 16; refine (KC.out _).mono ?_; rintro e w5 ⟨rfl, hs⟩; have S5 := Lib.hid (since_two hS.out.drew (since_two S4.out hs)); have C5 := Lib.hid (CU.out _ (since_two S4.out hs)); clear hs KC)
          | (go_at_call 17; refine KA.out.mono ?_; rintro e w3 ⟨rfl, hs⟩; have S3 := Lib.hid hs; have C3 := Lib.hid (CU.out _ hs); clear hs KA)
          | (go_at_call 17; refine (KB.out _ S3.out).mono ?_; rintro e w4 ⟨rfl, hs⟩; have S4 := Lib.hid (since_two S3.out hs); have C4 := Lib.hid (CU.out _ S4.out); clear hs KB))
      rcases h3 with rfl | rfl | rfl
      · have HM2 : Hid (M = more a b (ds.take (I + 1)) ∧ L + 1 = more b a (ds.take (I + 1))) := Lib.hid (by rw [HM.out, HL.out, ← hT.out.1, ← hT.out.2]; exact ⟨rfl, rfl⟩)
        clear HM HL hT
        go_wp2_with fail
        go_roundg (ds.length - (I + 1))
        case measure => omega
        case rel => exact ⟨I + 1, M, L + 1, by omega, by omega, by omega, rfl, by go_num, rfl, by go_num, HM2, S5⟩
      · have HM2 : Hid (M = more a b (ds.take (I + 1)) ∧ L = more b a (ds.take (I + 1))) := Lib.hid (by rw [HM.out, HL.out, ← hT.out.1, ← hT.out.2]; exact ⟨rfl, rfl⟩)
        clear HM HL hT
        go_wp2_with fail
        go_roundg (ds.length - (I + 1))
        case measure => omega
        case rel => exact ⟨I + 1, M, L, by omega, by omega, by omega, rfl, by go_num, rfl, rfl, HM2, S5⟩
      · have HM2 : Hid (M + 1 = more a b (ds.take (I + 1)) ∧ L = more b a (ds.take (I + 1))) := Lib.hid (by rw [HM.out, HL.out, ← hT.out.1, ← hT.out.2]; exact ⟨rfl, rfl⟩)
        clear HM HL hT
        go_wp2_with fail
        go_roundg (ds.length - (I + 1))
        case measure => omega
        case rel => exact ⟨I + 1, M + 1, L, by omega, by omega, by omega, rfl, by go_num, by go_num, rfl, HM2, S5⟩
    · obtain rfl : I = ds.length := by omega
      have HF := Lib.hid (bet_ok (M := M) (L := L) HZ.out (by rw [hT.out.1, List.take_length]) (by rw [hT.out.2, List.take_length]) hS.out)
      clear hT
      go_wp2_with fail
      go_ret3
      exact HF.out
end Go.Proofs.YtkklagdniaoghaaGreatDoor
