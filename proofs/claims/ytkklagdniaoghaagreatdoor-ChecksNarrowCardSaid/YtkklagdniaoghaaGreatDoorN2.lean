/- The law ChecksNarrow, walked. -/
import Derived.Test.YtkklagdniaoghaaGreatDoorN1
import Derived.Test.YtkklagdniaoghaaGreatDoorN2a
import Derived.Deep.Cut
namespace Go.Proofs.YtkklagdniaoghaaGreatDoor
open Go.RowKit Go.Proofs.Rank Go.Sort Go.Proofs.MapEnt
open Go.Proofs.Frac (fr)

/-- A box that holds a quotient. -/
structure BoxAt (B : Nat) (q : Nat × Nat) (w : World) : Prop where
  c0 : w.cell? ⟨B, 0, none⟩ = some (.int .i64 (q.1 : Nat))
  c1 : w.cell? ⟨B, 1, none⟩ = some (.int .i64 (q.2 : Nat))
  lt : B < w.heap.size
theorem BoxAt.up {B : Nat} {q : Nat × Nat} {w w' : World} (h : BoxAt B q w) (hs : w.Since w.heap.size w') : BoxAt B q w' :=
  ⟨(hs.cell (a := ⟨B, 0, none⟩) h.lt).trans h.c0, (hs.cell (a := ⟨B, 1, none⟩) h.lt).trans h.c1, Nat.lt_of_lt_of_le h.lt hs.size⟩
theorem box_one (w : World) (a b : Nat) : BoxAt w.heap.size (a, b) (w.alloc (.cells #[.int .i64 (a : Nat), .int .i64 (b : Nat)] 25)) := ⟨by simp, by simp, by simp⟩
theorem box_two (w : World) (a b c d : Nat) : BoxAt w.heap.size (a, b) ((w.alloc (.cells #[.int .i64 (a : Nat), .int .i64 (b : Nat)] 25)).alloc (.cells #[.int .i64 (c : Nat), .int .i64 (d : Nat)] 25)) ∧
    BoxAt (w.heap.size + 1) (c, d) ((w.alloc (.cells #[.int .i64 (a : Nat), .int .i64 (b : Nat)] 25)).alloc (.cells #[.int .i64 (c : Nat), .int .i64 (d : Nat)] 25)) := by
  have e1 : (w.alloc (.cells #[.int .i64 (a : Nat), .int .i64 (b : Nat)] 25)).heap.size = w.heap.size + 1 := by simp
  refine ⟨(box_one w a b).up ((World.Since.refl _ _).alloc (Nat.le_refl _) _), ?_⟩
  have := box_one (w.alloc (.cells #[.int .i64 (a : Nat), .int .i64 (b : Nat)] 25)) c d
  rwa [e1] at this
theorem ivl_ok {ps : List (Int × Int)} {ds : List (List Int)} {out : Int} (h : ivlE ps ds out = 0) : sampE ps ds = 0 ∧ 0 ≤ out ∧ out ≤ 499 := by
  unfold ivlE at h
  split at h
  · rename_i h1; exact absurd h h1
  · rename_i h1
    split at h
    · cases h
    · omega
theorem ivl_of {ps : List (Int × Int)} {ds : List (List Int)} {M : Nat} (h : sampE ps ds = 0) (hM : M ≤ 499) : ivlE ps ds (M : Int) = 0 := ivlE_0 h (by omega)
theorem info3n : (Tryz.prog.info? 3).map (fun i => (i.zero, i.size, i.bytes)) = some (some (.int .i64 0), 1, 8) := by kernel_rfl
/-- A row of numbers, of its own, is a list of numbers. -/
theorem nums_of {w : World} {base n : Nat} {v : Value} {l : List Int} (h : w.ownsRow base 3 1 v n (l.map fun x => .int .i64 x)) (hr : ∀ x ∈ l, -9223372036854775808 ≤ x ∧ x ≤ 9223372036854775807) :
    ∃ G cap, v = .slice G l.length cap ∧ cap ≤ 9223372036854775807 ∧ IIn w G cap l := by
  have hn : n = l.length := by have := h.1; simp at this; omega
  subst hn
  obtain ⟨h1, ⟨rfl, h2⟩ | ⟨g, cap, cur, rfl, hb, hr2, h3, h4, _⟩⟩ := id h
  · exact ⟨none, 0, by rw [h2], by omega, ⟨fun i hi => by omega, by omega, hr⟩⟩
  · refine ⟨some ⟨g, 0, none⟩, cap, rfl, by unfold maxLen at h4; omega, ⟨fun i hi => ⟨⟨g, 0, none⟩, rfl, (h.lt g rfl).2, ?_⟩, h3, hr⟩⟩
    rw [h.cells (g := g) rfl i (.int .i64 l[i]) (by simp [hi])]
theorem once_rng {n : Nat} (hn : n ≤ 256) : ∀ x ∈ onceL n n, -9223372036854775808 ≤ x ∧ x ≤ 9223372036854775807 := fun x hx => by
  have := onceL_mem hx
  omega
/-- One list, three times over. -/
theorem three_in {w : World} {G : Option Addr} {cap : Nat} {l : List Int} (h : IIn w G cap l) :
    DIn (w.alloc (.cells #[.slice G l.length cap, .slice G l.length cap, .slice G l.length cap] 32)) (some ⟨w.heap.size, 0, none⟩) 3 [l, l, l] := by
  have hu := h.up ((World.Since.refl w.heap.size w).alloc (Nat.le_refl _) (.cells #[.slice G l.length cap, .slice G l.length cap, .slice G l.length cap] 32))
  refine ⟨fun i hi => ⟨_, G, cap, rfl, by simp, ?_, ?_⟩, by simp⟩
  · match i, hi with
    | 0, _ => simp [Addr.add]
    | 1, _ => simp [Addr.add]
    | 2, _ => simp [Addr.add]
  · match i, hi with
    | 0, _ => exact hu
    | 1, _ => exact hu
    | 2, _ => exact hu
set_option maxHeartbeats 6400000 in
set_option maxRecDepth 1000000 in
theorem law_narrow (a b : List (Int × Int)) (ds : List (List Int)) (out mor : Int) (A B D : Option Addr) (c cb k : Nat) (w : World) (hA : PIn w A c a) (hB : PIn w B cb b) (hD : DIn w D k ds) (hl : c ≤ 9223372036854775807) (hlb : cb ≤ 9223372036854775807) (hk : k ≤ 9223372036854775807) (hd : ∀ d ∈ ds, d.length ≤ 9223372036854775807)
    (ho1 : -9223372036854775808 ≤ out) (ho2 : out ≤ 9223372036854775807) (hm1 : -9223372036854775808 ≤ mor) (hm2 : mor ≤ 9223372036854775807) :
    Calls Tryz.prog 5 #[.slice A a.length c, .slice B b.length cb, .slice D ds.length k, .int .i64 out, .int .i64 mor] w fun e w' => e = .returned (.bool true) ∧ w.Since w.heap.size w' := by
  obtain ⟨i3, hi3, hz30, hz31, hz32⟩ := info_parts info3n
  have hac := hA.cap
  have hdc := hD.cap
  have K1 := Lib.hid (busy_says a.length ds A D c k w hD hk hA.cap hl hd)
  have K2 := Lib.hid (busy_says b.length ds B D cb k w hD hk hB.cap hlb hd)
  have KS := Lib.hid says_true
  have HN := Lib.hid (busy_no (n := a.length) (ds := ds))
  have K3 := Lib.hid (fun (o : Int) (h1 : -9223372036854775808 ≤ o) (h2 : o ≤ 9223372036854775807) (wx : World) (hs : w.Since w.heap.size wx) h => interval_says a ds o A D c k wx (hA.up hs) (hD.up hs) hl hk hd h1 h2 h)
  have HA := Lib.hid hA
  have HB := Lib.hid hB
  have HD := Lib.hid hD
  have HL := Lib.hid hd
  unfold IvlSay at K3
  clear hA hB hD hd
  generalize busyF a.length ds = f1 at *
  generalize busyF b.length ds = f2 at *
  go_enter Tryz.func5, Tryz.ntmps5
  go_wp2_with fail
  refine K1.out.mono ?_
  rintro e w1 ⟨rfl, rfl⟩
  clear K1
  cases f1
  case true =>
    clear HN K2 K3
    go_wp2_with fail
    refine (KS.out _).mono ?_
    rintro e w2 ⟨rfl, hs⟩
    have S2 := Lib.hid hs
    clear hs
    go_wp2_with fail
    go_ret
    exact ret_tt S2.out
  have H40 := Lib.hid (HN.out (by trivial))
  clear HN
  go_wp2_with fail
  refine K2.out.mono ?_
  rintro e w1 ⟨rfl, rfl⟩
  clear K2
  cases f2
  case true =>
    clear K3
    go_wp2_with fail
    refine (KS.out _).mono ?_
    rintro e w2 ⟨rfl, hs⟩
    have S2 := Lib.hid hs
    clear hs
    go_wp2_with fail
    go_ret
    exact ret_tt S2.out
  go_wp2_with fail
  refine (K3.out out ho1 ho2 _ (World.Since.refl _ _) H40.out).mono ?_
  rintro e w2 ⟨lo, hi, rfl, hs, hx, hy⟩
  have S2 := Lib.hid hs
  by_cases hz : ivlE a ds out = 0
  case neg =>
    obtain ⟨rfl, rfl⟩ := hx hz
    have hz1 : ((ivlE a ds out : Int) == 0) = false := by simp; omega
    have hz2 : ((ivlE a ds out : Int) != 0) = true := by simp; omega
    generalize ivlE a ds out = E at *
    have S3 := Lib.hid (since_alloc (since_alloc S2.out (.cells #[.int .i64 0, .int .i64 0] 25)) (.cells #[.int .i64 0, .int .i64 0] 25))
    clear hs hx hy K3 hz
    unfold frV
    simp only
    go_wp2_with fail
    refine (KS.out _).mono ?_
    rintro e w4 ⟨rfl, hs⟩
    have S4 := Lib.hid (since_two S3.out hs)
    clear hs
    go_wp2_with fail
    go_ret
    exact ret_tt S4.out
  obtain ⟨hsE, ho0, ho499⟩ := ivl_ok hz
  obtain ⟨O, rfl⟩ : ∃ O : Nat, out = O := ⟨out.toNat, by omega⟩
  have hOK := okS_of hsE
  have HE := Lib.hid hsE
  have N0 : Hid (Nar a ds O lo hi) := Lib.hid ⟨by simpa using hy hz, hOK, by omega⟩
  rw [hz]
  have hOk := Lib.hid hOK
  have hn0 : 0 < ds.length := hOK.nd
  have hn40 : ds.length ≤ 40 := by have := H40.out; have := hOK.ld; omega
  have ha0 : 0 < a.length := hOK.np
  have ha256 : a.length ≤ 256 := hOK.lp
  have hsm := Lib.hid N0.out.small
  have hord := N0.out.order
  obtain ⟨lo1, lo2⟩ := lo
  obtain ⟨hi1, hi2⟩ := hi
  have KQ := Lib.hid (fun wx => cmpP (x := (lo1, lo2)) (y := (hi1, hi2)) hsm.out.1 hsm.out.2 wx)
  simp only at KQ
  generalize cmpQ (lo1, lo2) (hi1, hi2) = c0 at *
  have hc0 : ¬ 0 < c0 := by omega
  have BT := Lib.hid (box_two w2 lo1 lo2 hi1 hi2)
  have S3 := Lib.hid (since_alloc (since_alloc S2.out (.cells #[.int .i64 (lo1 : Nat), .int .i64 (lo2 : Nat)] 25)) (.cells #[.int .i64 (hi1 : Nat), .int .i64 (hi2 : Nat)] 25))
  clear hs hx hy hsE hz hOK
  unfold frV
  simp only
  go_wp2_with fail
  obtain ⟨x3, hx3⟩ : ∃ y, y = (w2.alloc (.cells #[.int .i64 (lo1 : Nat), .int .i64 (lo2 : Nat)] 25)).alloc (.cells #[.int .i64 (hi1 : Nat), .int .i64 (hi2 : Nat)] 25) := ⟨_, rfl⟩
  rw [← hx3] at BT S3 ⊢
  clear hx3 S2
  refine (KQ.out _).mono ?_
  rintro e w4 ⟨rfl, hs⟩
  have B11 := Lib.hid (BT.out.1.up hs)
  have B12 := Lib.hid (BT.out.2.up hs)
  have S4 := Lib.hid (since_two S3.out hs)
  clear hs BT S3 KQ
  generalize w2.heap.size = bb at *
  go_wp2_with fail
  go_loopg [14, 15] ds.length (fun gk n i wr => ∃ I N : Nat, I ≤ ds.length ∧ N ≤ I ∧ gk = ds.length - I ∧ i = .int .i64 I ∧ n = .int .i64 N ∧ Hid (N = inC a (lo1, lo2) (hi1, hi2) (ds.take I)) ∧ Hid (BoxAt bb (lo1, lo2) wr) ∧ Hid (BoxAt (bb + 1) (hi1, hi2) wr) ∧ Hid (w.Since w.heap.size wr))
  case atStart => exact ⟨0, 0, by omega, by omega, by omega, rfl, rfl, Lib.hid rfl, B11, B12, S4⟩
  case round =>
    clear B11 B12 S4
    obtain ⟨I, N, hI, hN, rfl, rfl, rfl, hT, hB1, hB2, hS⟩ := hrel
    by_cases hlt : I < ds.length
    · obtain ⟨ad, R, kk, rfl, hab, c1, hIn⟩ := (HD.out.up hS.out).at_ I hlt
      have hltI : (I : Int) < (ds.length : Int) := by omega
      have KA := Lib.hid (refScore_says a ds[I] A R c kk wr (HA.out.up hS.out) hIn (okQ_of hOk.out hlt) (by omega))
      have hsx := sc_sm hOk.out hlt
      have K16 := Lib.hid (fun wx => cmpP (x := (lo1, lo2)) (y := sc a ds[I]) hsm.out.1 hsx wx)
      have K17 := Lib.hid (fun wx => cmpP (x := sc a ds[I]) (y := (hi1, hi2)) hsx hsm.out.2 wx)
      have HC := Lib.hid (inC_take a (lo1, lo2) (hi1, hi2) ds hlt)
      generalize cmpQ (lo1, lo2) (sc a ds[I]) = q1 at *
      generalize cmpQ (sc a ds[I]) (hi1, hi2) = q2 at *
      generalize sc a ds[I] = x at *
      generalize ds[I] = d at *
      obtain ⟨x1, x2⟩ := x
      unfold frV at KA
      simp only at KA K16 K17
      clear hab hIn hsx
      go_wp2_with fail
      refine KA.out.mono ?_
      rintro e w5 ⟨rfl, hs⟩
      have bx := Lib.hid (box_one w5 x1 x2)
      have hal := Lib.hid ((World.Since.refl w5.heap.size w5).alloc (Nat.le_refl _) (.cells #[.int .i64 (x1 : Nat), .int .i64 (x2 : Nat)] 25))
      have hB1 := Lib.hid ((hB1.out.up hs).up hal.out)
      have hB2 := Lib.hid ((hB2.out.up hs).up hal.out)
      have hS := Lib.hid (since_two (since_two hS.out hs) hal.out)
      clear hs KA hal c1
      have e10 := hB1.out.c0
      have e11 := hB1.out.c1
      have e20 := hB2.out.c0
      have e21 := hB2.out.c1
      simp only at e10 e11 e20 e21
      go_wp2_with fail
      obtain ⟨w6, hw6⟩ : ∃ y, y = w5.alloc (.cells #[.int .i64 (x1 : Nat), .int .i64 (x2 : Nat)] 25) := ⟨_, rfl⟩
      rw [← hw6] at bx hB1 hB2 hS ⊢
      clear hw6 e10 e11 e20 e21
      generalize w5.heap.size = bx5 at *
      refine (K16.out _).mono ?_
      rintro e w7 ⟨rfl, hs⟩
      have bx := Lib.hid (bx.out.up hs)
      have hB1 := Lib.hid (hB1.out.up hs)
      have hB2 := Lib.hid (hB2.out.up hs)
      have hS := Lib.hid (since_two hS.out hs)
      clear hs K16
      have e10 := bx.out.c0
      have e11 := bx.out.c1
      have e20 := hB2.out.c0
      have e21 := hB2.out.c1
      simp only at e10 e11 e20 e21
      by_cases h1 : q1 ≤ 0
      · have h1b : decide (q1 ≤ 0) = true := decide_eq_true h1
        go_wp2_with fail
        refine (K17.out _).mono ?_
        rintro e w8 ⟨rfl, hs⟩
        have hB1 := Lib.hid (hB1.out.up hs)
        have hB2 := Lib.hid (hB2.out.up hs)
        have hS := Lib.hid (since_two hS.out hs)
        clear hs K17 e10 e11 e20 e21
        by_cases h2 : q2 ≤ 0
        · have h2b : decide (q2 ≤ 0) = true := decide_eq_true h2
          have HT2 : Hid (N + 1 = inC a (lo1, lo2) (hi1, hi2) (ds.take (I + 1))) := Lib.hid (by rw [HC.out, if_pos ⟨h1, h2⟩, ← hT.out])
          clear HC hT
          go_wp2_with fail
          go_roundg (ds.length - (I + 1))
          case measure => omega
          case rel => exact ⟨I + 1, N + 1, by omega, by omega, rfl, by go_num, by go_num, HT2, hB1, hB2, hS⟩
        · have h2b : decide (q2 ≤ 0) = false := decide_eq_false h2
          have HT2 : Hid (N = inC a (lo1, lo2) (hi1, hi2) (ds.take (I + 1))) := Lib.hid (by rw [HC.out, if_neg (fun h => h2 h.2), ← hT.out]; rfl)
          clear HC hT
          go_wp2_with fail
          go_roundg (ds.length - (I + 1))
          case measure => omega
          case rel => exact ⟨I + 1, N, by omega, by omega, rfl, by go_num, rfl, HT2, hB1, hB2, hS⟩
      · have h1b : decide (q1 ≤ 0) = false := decide_eq_false h1
        have HT2 : Hid (N = inC a (lo1, lo2) (hi1, hi2) (ds.take (I + 1))) := Lib.hid (by rw [HC.out, if_neg (fun h => h1 h.1), ← hT.out]; rfl)
        clear HC hT
        go_wp2_with fail
        go_roundg (ds.length - (I + 1))
        case measure => omega
        case rel => exact ⟨I + 1, N, by omega, by omega, rfl, by go_num, rfl, HT2, hB1, hB2, hS⟩
    · obtain rfl : I = ds.length := by omega
      have hin := N0.out.inside
      rw [show inC a (lo1, lo2) (hi1, hi2) ds = N by have := hT.out; rw [List.take_length] at this; exact this.symm] at hin
      obtain ⟨M, hM⟩ : ∃ M, M = ds.length * O := ⟨_, rfl⟩
      have hMb : M ≤ 20000 := by rw [hM]; exact Nat.le_trans (Nat.mul_le_mul hn40 (show O ≤ 500 by omega)) (by decide)
      have hMi : (ds.length : Int) * (O : Int) = (M : Int) := by rw [hM]; simp
      obtain ⟨K, hK⟩ : ∃ K, K = M / 1000 := ⟨_, rfl⟩
      have hKi : (M : Int) / 1000 = (K : Int) := by omega
      have hpl : place ds.length O = K := by rw [hK, hM]; rfl
      rw [hpl] at hin
      have hlt2 : ¬ ((N : Int) < (ds.length : Int) - 2 * (K : Int)) := by omega
      have hKb : K ≤ 20 := by omega
      clear hT hM hK hpl hin
      have hT0 := Lib.hid hB1.out
      have hT1 := Lib.hid hB2.out
      go_upto_region 17 with fail
      go_cut [107] from 101 (fun v wx => v = .bool (decide ((O : Int) ≤ mor) && decide (mor ≤ 499)) ∧ wx = wr)
      case first =>
        by_cases g1 : (O : Int) ≤ mor
        · by_cases g2 : mor ≤ 499
          · have hb : Hid ((decide ((O : Int) ≤ mor) && decide (mor ≤ 499)) = true) := Lib.hid (by simp [g1, g2])
            go_wp2_with fail
            go_meet
            case rel => exact ⟨by rw [hb.out], rfl⟩
          · have hb : Hid ((decide ((O : Int) ≤ mor) && decide (mor ≤ 499)) = false) := Lib.hid (by simp [g2])
            go_wp2_with fail
            go_meet
            case rel => exact ⟨by rw [hb.out], rfl⟩
        · have hb : Hid ((decide ((O : Int) ≤ mor) && decide (mor ≤ 499)) = false) := Lib.hid (by simp [g1])
          go_wp2_with fail
          go_meet
          case rel => exact ⟨by rw [hb.out], rfl⟩
      case rest =>
        obtain ⟨rfl, rfl⟩ := hcut
        go_upto_if 107 with fail
        go_cut [17, 18, 19] from 101 (fun _ _ _ wx => Hid (w.Since w.heap.size wx))
        case first =>
          cases hm : (decide ((O : Int) ≤ mor) && decide (mor ≤ 499))
          · go_wp2_with fail
            go_meet
            case rel => exact hS
          · rw [Bool.and_eq_true, decide_eq_true_eq, decide_eq_true_eq] at hm
            obtain ⟨g1, g2⟩ := hm
            obtain ⟨Q, rfl⟩ : ∃ Q : Nat, mor = Q := ⟨mor.toNat, by omega⟩
            have hz := ivl_of HE.out (show Q ≤ 499 by omega)
            have KI := Lib.hid (K3.out (Q : Int) hm1 hm2 _ hS.out H40.out)
            rw [hz] at KI
            have HNr := Lib.hid (fun lo' hi' (h : ∃ L, Ranks a ds L ∧ lo' = L.getD (place ds.length (Q : Int).toNat) (0, 0) ∧ hi' = L.getD (ds.length - 1 - place ds.length (Q : Int).toNat) (0, 0)) => N0.out.more (O := O) (M := Q) (lo' := lo') (hi' := hi') ⟨by simpa using h, hOk.out, by omega⟩ (by omega))
            have HSm := Lib.hid (fun lo' hi' (h : ∃ L, Ranks a ds L ∧ lo' = L.getD (place ds.length (Q : Int).toNat) (0, 0) ∧ hi' = L.getD (ds.length - 1 - place ds.length (Q : Int).toNat) (0, 0)) => Nar.small (a := a) (ds := ds) (O := Q) (lo := lo') (hi := hi') ⟨by simpa using h, hOk.out, by omega⟩)
            clear hz
            go_wp2_with fail
            refine KI.out.mono ?_
            rintro e w5 ⟨lo', hi', rfl, hs, hx, hy⟩
            have hy := hy (by trivial)
            have hord2 := HNr.out lo' hi' hy
            have hsm2 := HSm.out lo' hi' hy
            have K16 := Lib.hid (fun wx => cmpP (x := (lo1, lo2)) (y := lo') hsm.out.1 hsm2.1 wx)
            have K17 := Lib.hid (fun wx => cmpP (x := hi') (y := (hi1, hi2)) hsm2.2 hsm.out.2 wx)
            generalize cmpQ (lo1, lo2) lo' = q1 at *
            generalize cmpQ hi' (hi1, hi2) = q2 at *
            have g3 : ¬ 0 < q1 := by omega
            have g4 : ¬ 0 < q2 := by omega
            obtain ⟨l1, l2⟩ := lo'
            obtain ⟨h1, h2⟩ := hi'
            unfold frV
            simp only at K16 K17 ⊢
            have bt := Lib.hid (box_two w5 l1 l2 h1 h2)
            have hal := Lib.hid (((World.Since.refl w5.heap.size w5).alloc (Nat.le_refl _) (.cells #[.int .i64 (l1 : Nat), .int .i64 (l2 : Nat)] 25)).alloc (by simp) (.cells #[.int .i64 (h1 : Nat), .int .i64 (h2 : Nat)] 25))
            have hB1 := Lib.hid ((hB1.out.up hs).up hal.out)
            have hB2 := Lib.hid ((hB2.out.up hs).up hal.out)
            have hS := Lib.hid (since_two (since_two hS.out hs) hal.out)
            clear hs hx hy hord2 hsm2 KI HNr HSm hal
            have e10 := hB1.out.c0
            have e11 := hB1.out.c1
            have e20 := bt.out.1.c0
            have e21 := bt.out.1.c1
            simp only at e10 e11 e20 e21
            go_wp2_with fail
            obtain ⟨w6, hw6⟩ : ∃ y, y = (w5.alloc (.cells #[.int .i64 (l1 : Nat), .int .i64 (l2 : Nat)] 25)).alloc (.cells #[.int .i64 (h1 : Nat), .int .i64 (h2 : Nat)] 25) := ⟨_, rfl⟩
            rw [← hw6] at bt hB1 hB2 hS ⊢
            clear hw6 e10 e11 e20 e21
            refine (K16.out _).mono ?_
            rintro e w7 ⟨rfl, hs⟩
            have e10 := (bt.out.2.up hs).c0
            have e11 := (bt.out.2.up hs).c1
            have e20 := (hB2.out.up hs).c0
            have e21 := (hB2.out.up hs).c1
            simp only at e10 e11 e20 e21
            have hS := Lib.hid (since_two hS.out hs)
            clear hs K16 bt
            go_wp2_with fail
            refine (K17.out _).mono ?_
            rintro e w8 ⟨rfl, hs⟩
            have hS := Lib.hid (since_two hS.out hs)
            clear hs K17 e10 e11 e20 e21
            go_wp2_with fail
            go_meet
            case rel => exact hS
        case rest =>
          have S6 := hcut
          clear hcut hB1 hB2 hT0 hT1 hS
          go_wp2_with fail
          go_loopg [20, 21] a.length (fun gk o i wr => ∃ I : Nat, I ≤ a.length ∧ gk = a.length - I ∧ i = .int .i64 I ∧ Hid (wr.ownsRow w.heap.size 3 1 o I ((onceL a.length I).map fun x => .int .i64 x)) ∧ Hid (w.Since w.heap.size wr))
          case atStart => exact ⟨0, by omega, by omega, rfl, Lib.hid (World.ownsRow_nil _ _ _ _), S6⟩
          case round =>
            clear S6
            obtain ⟨I, hI, rfl, rfl, hO, hS⟩ := hrel
            by_cases hlt : I < a.length
            · have hltI : (I : Int) < (a.length : Int) := by omega
              obtain ⟨J, hJ⟩ : ∃ J, J = a.length - 1 - I := ⟨_, rfl⟩
              have hJi : (a.length : Int) - 1 - (I : Int) = (J : Int) := by omega
              have HJ : Hid ((a.length : Int) - 1 - (I : Int) = (J : Int)) := Lib.hid hJi
              have hJb : J ≤ 256 := by omega
              clear hJ
              have hsz := hS.out.size
              go_wp2_with (first | (at_builtin; refine wpList_append_own _ rfl _ _ 32 rfl w.heap.size 3 i3 (.int .i64 0) 1 8 Tryz.underlying32 hi3 hz30 hz31 hz32 rfl (by decide) _ I _ rfl (hO.out.alloc _) ⟨wr.heap.size, 0, none⟩ 1 1 [.int .i64 J] rfl rfl ?c1 ?c2 ?c3 ?c4 ?c5 ?_))
              case c1 =>
                intro j u hj
                match j, hj with
                | 0, hj => simp at hj; subst hj; simp [Addr.add]
              case c2 => intro u hu; simp at hu; subst hu; rfl
              case c3 => unfold maxLen; omega
              case c4 => omega
              case c5 => simp; omega
              intro v' w1 hown' hgrow _
              have S1 := Lib.hid (since_grown (hS.out.alloc hsz _) (by simp; omega) hgrow (fun k e => (hO.out.lt k e).1))
              have O1 : Hid (w1.ownsRow w.heap.size 3 1 v' (I + 1) ((onceL a.length (I + 1)).map fun x => .int .i64 x)) := Lib.hid (by rw [onceL_succ, List.map_append, HJ.out]; exact hown')
              clear hown' hgrow hO hS
              go_wp2_with fail
              go_roundg (a.length - (I + 1))
              case measure => omega
              case rel => exact ⟨I + 1, by omega, rfl, by go_num, O1, S1⟩
            · obtain rfl : I = a.length := by omega
              obtain ⟨G, cap, rfl, hcap, hIn⟩ := nums_of hO.out (once_rng ha256)
              have h3 := three_in hIn
              have hss := Lib.hid (since_alloc hS.out (.cells #[.slice G (onceL a.length a.length).length cap, .slice G (onceL a.length a.length).length cap, .slice G (onceL a.length a.length).length cap] 32))
              have KI := Lib.hid (interval_says a [onceL a.length a.length, onceL a.length a.length, onceL a.length a.length] O A _ c 3 _ (HA.out.up hss.out) h3 hl (by decide) (fun d hd => by
                have e : d = onceL a.length a.length := by simpa using hd
                rw [e, onceL_len]; omega) ho1 ho2 (.inl (by simp)))
              have hz := once_ivl hOk.out O (by omega)
              unfold IvlSay at KI
              rw [hz] at KI
              have h1s := Lib.hid (fun l h hL => once_one (a := a) (O := O) (lo := l) (hi := h) (by omega) hL)
              have KSc := Lib.hid (fun wx (hs : wr.Since wr.heap.size wx) => refScore_says a (onceL a.length a.length) A G c cap wx ((HA.out.up hS.out).up hs) (hIn.up hs) (once_ok hOk.out) (by omega))
              have ea : Hid (wr.Since wr.heap.size (wr.alloc (.cells #[.slice G (onceL a.length a.length).length cap, .slice G (onceL a.length a.length).length cap, .slice G (onceL a.length a.length).length cap] 32))) := Lib.hid ((World.Since.refl _ _).alloc (Nat.le_refl _) _)
              rw [onceL_len] at KI KSc hss ea
              simp only [List.length_cons, List.length_nil, Nat.zero_add, Int.toNat_natCast] at KI
              generalize sc a (onceL a.length a.length) = s at *
              obtain ⟨s1, s2⟩ := s
              unfold frV at KSc
              simp only at KSc
              clear h3 hz hIn hO
              rw [onceL_len]
              go_wp2_with fail
              refine KI.out.mono ?_
              rintro e w7 ⟨lo', hi', rfl, hs, _, hy⟩
              obtain ⟨rfl, rfl⟩ := h1s.out lo' hi' (hy (by trivial))
              have bt := Lib.hid (box_two w7 s1 s2 s1 s2)
              have hal := Lib.hid (((World.Since.refl w7.heap.size w7).alloc (Nat.le_refl _) (.cells #[.int .i64 (s1 : Nat), .int .i64 (s2 : Nat)] 25)).alloc (by simp) (.cells #[.int .i64 (s1 : Nat), .int .i64 (s2 : Nat)] 25))
              have S8 := Lib.hid (since_two (since_two ea.out hs) hal.out)
              have SW := Lib.hid (since_two hS.out S8.out)
              clear hs hy KI h1s hss ea hal hS
              unfold frV
              simp only
              go_upto_region 27 with fail
              obtain ⟨w8, hw8⟩ : ∃ y, y = (w7.alloc (.cells #[.int .i64 (s1 : Nat), .int .i64 (s2 : Nat)] 25)).alloc (.cells #[.int .i64 (s1 : Nat), .int .i64 (s2 : Nat)] 25) := ⟨_, rfl⟩
              rw [← hw8] at bt S8 SW ⊢
              clear hw8
              generalize w7.heap.size = b7 at *
              have HQ := Lib.hid (fun wx (hs : w8.Since w8.heap.size wx) => And.intro (And.intro (bt.out.1.up hs).c0 (bt.out.1.up hs).c1) (And.intro (bt.out.2.up hs).c0 (bt.out.2.up hs).c1))
              simp only at HQ
              have Q0 := Lib.hid (HQ.out _ (World.Since.refl _ _).drew)
              have KX := Lib.hid (KSc.out w8.drew S8.out.drew)
              clear KSc bt
              go_region_held3 (fun w' => (w'.cell? ⟨b7, 0, none⟩ = some (.int .i64 (s1 : Nat)) ∧ w'.cell? ⟨b7, 1, none⟩ = some (.int .i64 (s2 : Nat))) ∧ (w'.cell? ⟨b7 + 1, 0, none⟩ = some (.int .i64 (s1 : Nat)) ∧ w'.cell? ⟨b7 + 1, 1, none⟩ = some (.int .i64 (s2 : Nat))))
                (first
                  | exact Q0.out
                  | exact Q9.out)
                (first
                  | (go_at_call 17; refine KX.out.mono ?_; rintro e w9 ⟨rfl, hs⟩; have S9 := Lib.hid (since_two SW.out.drew hs); have Q9 := Lib.hid (HQ.out _ (since_two (World.Since.refl _ _).drew hs)); clear hs))
              clear Q0 Q9 KX HQ
              have KB1 := Lib.hid (fun wx (hs : w.Since w.heap.size wx) => better_says a b ds A B D c cb k wx (HA.out.up hs) (HB.out.up hs) (HD.out.up hs) hl hlb hk HL.out)
              have KB2 := Lib.hid (fun wx (hs : w.Since w.heap.size wx) => better_says b a ds B A D cb c k wx (HB.out.up hs) (HA.out.up hs) (HD.out.up hs) hlb hl hk HL.out)
              have KB3 := Lib.hid (fun wx (hs : w.Since w.heap.size wx) => better_says a a ds A A D c c k wx (HA.out.up hs) (HA.out.up hs) (HD.out.up hs) hl hl hk HL.out)
              have hbo := bet_both (b := b) HE.out
              have hse := bet_self HE.out
              have hms := more_self a ds
              have hmb := more_both a b ds
              unfold BetSay at KB1 KB2 KB3
              rw [hse, hms] at KB3
              simp only [if_true] at KB3
              by_cases e1 : betE a b ds = 0
              · have e2 : betE b a ds = 0 := Decidable.of_not_not (fun h => hbo.2 h e1)
                rw [e1] at KB1
                rw [e2] at KB2
                simp only [if_true] at KB1 KB2
                generalize more a b ds = X at *
                generalize more b a ds = Y at *
                have hXY : (X : Int) + (Y : Int) ≤ (ds.length : Int) := by omega
                clear hbo hse hms hmb e1 e2
                go_wp2_with fail
                refine (KB1.out _ S9.out).mono ?_
                rintro e w10 ⟨rfl, hs⟩
                have T1 := Lib.hid (since_two S9.out hs)
                clear hs KB1
                go_wp2_with fail
                refine (KB2.out _ T1.out).mono ?_
                rintro e w11 ⟨rfl, hs⟩
                have T2 := Lib.hid (since_two T1.out hs)
                clear hs KB2
                go_wp2_with fail
                refine (KB3.out _ T2.out).mono ?_
                rintro e w12 ⟨rfl, hs⟩
                have T3 := Lib.hid (since_two T2.out hs)
                clear hs KB3
                go_wp2_with fail
                refine (KS.out _).mono ?_
                rintro e w13 ⟨rfl, hs⟩
                have T4 := Lib.hid (since_two T3.out hs)
                clear hs
                go_wp2_with fail
                go_ret
                exact ret_tt T4.out
              · have e2 := hbo.1 e1
                have hz1 : ((betE a b ds : Int) == 0) = false := by simp; omega
                have hz2 : ((betE a b ds : Int) != 0) = true := by simp; omega
                have hz3 : ((betE b a ds : Int) == 0) = false := by simp; omega
                have hz4 : ((betE b a ds : Int) != 0) = true := by simp; omega
                rw [if_neg e1, if_neg e1] at KB1
                rw [if_neg e2, if_neg e2] at KB2
                generalize betE a b ds = E1 at *
                generalize betE b a ds = E2 at *
                clear hbo hse hms hmb e1 e2 KB3
                go_wp2_with fail
                refine (KB1.out _ S9.out).mono ?_
                rintro e w10 ⟨rfl, hs⟩
                have T1 := Lib.hid (since_two S9.out hs)
                clear hs KB1
                go_wp2_with fail
                refine (KB2.out _ T1.out).mono ?_
                rintro e w11 ⟨rfl, hs⟩
                have T2 := Lib.hid (since_two T1.out hs)
                clear hs KB2
                go_wp2_with fail
                refine (KS.out _).mono ?_
                rintro e w13 ⟨rfl, hs⟩
                have T4 := Lib.hid (since_two T2.out hs)
                clear hs
                go_wp2_with fail
                go_ret
                exact ret_tt T4.out
end Go.Proofs.YtkklagdniaoghaaGreatDoor
