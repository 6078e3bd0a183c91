/- The walks of the sort: pdqsort whole, at most 49 elements. -/
import Derived.Test.YtkklagdniaoghaaGreatDoorK9
import Derived.Test.YtkklagdniaoghaaGreatDoorKA
import Derived.Test.YtkklagdniaoghaaGreatDoorK7
import Derived.Test.YtkklagdniaoghaaGreatDoorK8
import Derived.Sort.Walk13a
import Derived.Sort.AssemblyPlain
import Derived.Deep.Cut
namespace Go.Proofs.YtkklagdniaoghaaGreatDoor
open Go.RowKit Go.Proofs.Rank Go.Sort

theorem eighthQ {x y p q : Nat} (h1 : q ≤ p) (h2 : y ≤ x) : decide (((x : Int) - (y : Int)) / 8 ≤ (p : Int) - (q : Int)) = decide (p - q ≥ (x - y) / 8) :=
  decide_eq_decide.2 ⟨fun h => by omega, fun h => by omega⟩
theorem hintN_one {h : Hint} : (((hintN h : Nat) : Int) == 1) = decide (h = .increasing) := by cases h <;> rfl
theorem never_dec {d : Array Qs} {a b : Nat} (h8 : 8 ≤ b - a) (h50 : ¬ 50 ≤ b - a) (hb : b ≤ d.size) : (choosePivot ltQ d a b).2 ≠ .decreasing := by
  rw [pivot_mid h8 h50]
  have hm1 := median_in (d := d) (s := 0) (a := a + (b - a) / 4 * 1) (b := a + (b - a) / 4 * 2) (c := a + (b - a) / 4 * 3) (m := d.size) (by omega) (by omega) (by omega)
  simp only
  split
  · exact fun h => by cases h
  · rw [if_neg (by omega)]
    exact fun h => by cases h
/-- What a round of pdqsort comes to, told of plain letters. -/
structure Round (dk : Array Qs) (a b lim : Nat) (wb wp : Bool) (d : Array Qs) (pv L1 : Nat) : Prop where
  left : ∀ mid ap d4, partition ltQ d a b pv = (mid, ap, d4) → (decide (a > 0) && !ltQ d[a - 1]! d[pv]!) = false → a ≤ mid → mid < b → mid - a < b - mid → pdq ltQ dk a b lim wb wp = pdq ltQ (pdq ltQ d4 a mid L1 true true) (mid + 1) b L1 (decide (mid - a ≥ (b - a) / 8)) ap
  right : ∀ mid ap d4, partition ltQ d a b pv = (mid, ap, d4) → (decide (a > 0) && !ltQ d[a - 1]! d[pv]!) = false → a ≤ mid → mid < b → ¬ mid - a < b - mid → pdq ltQ dk a b lim wb wp = pdq ltQ (pdq ltQ d4 (mid + 1) b L1 true true) a mid L1 (decide (b - mid ≥ (b - a) / 8)) ap
  eq : ∀ mid d4, partitionEqual ltQ d a b pv = (mid, d4) → (decide (a > 0) && !ltQ d[a - 1]! d[pv]!) = true → a < mid → mid ≤ b → pdq ltQ dk a b lim wb wp = pdq ltQ d4 mid b L1 wb wp
theorem round_of {dk : Array Qs} {a b lim : Nat} {wb wp : Bool} (h : ¬ b - a ≤ 12) (h0 : ¬ lim = 0) (h1 : (rd ltQ dk a b lim wb wp).pi.2 = false) : Round dk a b lim wb wp (rd ltQ dk a b lim wb wp).pi.1 (rd ltQ dk a b lim wb wp).pivot (rd ltQ dk a b lim wb wp).lim where
  left mid ap d4 hx h2 h3 h4 h5 := by
    have e := pdq_left h h0 h1 h2 (by rw [hx]; exact ⟨h3, h4⟩) (by rw [hx]; exact h5)
    rw [hx] at e
    exact e
  right mid ap d4 hx h2 h3 h4 h5 := by
    have e := pdq_right h h0 h1 h2 (by rw [hx]; exact ⟨h3, h4⟩) (by rw [hx]; exact h5)
    rw [hx] at e
    exact e
  eq mid d4 hx h2 h3 h4 := by
    have e := pdq_eq h h0 h1 h2 (by rw [hx]; exact ⟨h3, h4⟩)
    rw [hx] at e
    exact e
set_option maxHeartbeats 12800000 in
set_option maxRecDepth 1000000 in
theorem pdq_says (g cap m : Nat) (w0 : World) (hsz : m < 50) : ∀ (N a b limit : Nat) (e : Array Qs) (w : World), b - a < N → e.size = m → RowQ w0 g e w → a ≤ b → b ≤ m → limit ≤ 1000 → Below ltQ a b e →
    Calls Tryz.prog 55 #[.slice (some ⟨g, 0, none⟩) m cap, .int .i64 a, .int .i64 b, .int .i64 limit, cmpV] w (SortSay w0 g (pdq ltQ e a b limit true true)) := by
  intro N
  induction N with
  | zero => intro _ _ _ _ _ h; exact absurd h (Nat.not_lt_zero _)
  | succ N ih =>
    intro a b limit e w hN he h hab hb hlimit hBel0
    obtain ⟨E, hE⟩ : ∃ E, E = pdq ltQ e a b limit true true := ⟨_, rfl⟩
    rw [← hE]
    have HS0 : Hid (e.size = m ∧ Below ltQ a b e) := Lib.hid ⟨he, hBel0⟩
    have HR0 := Lib.hid h
    have HA0 : Hid (pdq ltQ e a b limit true true = E) := Lib.hid hE.symm
    have IH := Lib.hid ih
    clear hE he hBel0 h ih
    unfold cmpV
    go_enter Tryz.func55, Tryz.ntmps55
    go_wp2_with fail
    go_loopg [1, 2, 3, 10, 11] (b - a) (fun kx s1 s2 s3 s8 s9 wr => ∃ (a' b' lim : Nat) (wb wp : Bool) (dk : Array Qs), s1 = .int .i64 a' ∧ s2 = .int .i64 b' ∧ s3 = .int .i64 lim ∧ s8 = .bool wb ∧ s9 = .bool wp ∧
      a' ≤ b' ∧ b' ≤ m ∧ b' - a' ≤ kx ∧ kx ≤ b - a ∧ lim ≤ limit ∧ Hid (dk.size = m ∧ Below ltQ a' b' dk) ∧ Hid (RowQ w0 g dk wr) ∧ Hid (pdq ltQ dk a' b' lim wb wp = E))
    case atStart => exact ⟨a, b, limit, true, true, e, rfl, rfl, rfl, rfl, rfl, hab, hb, Nat.le_refl _, Nat.le_refl _, Nat.le_refl _, HS0, HR0, HA0⟩
    case round =>
      clear HS0 HR0 HA0
      obtain ⟨a', b', lim, wb, wp, dk, rfl, rfl, rfl, rfl, rfl, hab', hb', hkx, hkN, hlim, HS, HR, HA⟩ := hrel
      by_cases h12 : b' - a' ≤ 12
      · have h12z : (b' : Int) - (a' : Int) ≤ 12 := by omega
        have KI := Lib.hid (insertion_says dk a' b' g cap w0 wr HR.out hab' (by have := HS.out.1; omega) (by have := HS.out.1; omega))
        rw [HS.out.1] at KI
        unfold SortSay at KI
        unfold cmpV at KI
        go_wp2_with (go_at_call 83; refine KI.out.mono ?_; rintro e w1 ⟨rfl, hw1⟩)
        (try simp only [Exit.inBlock, Exit.then]); refine bodyPost_ret (results_none rfl _ _ _) rfl ?_
        refine ⟨rfl, ?_⟩
        rw [← HA.out, pdq_small h12]
        exact hw1
      · have h12z : ¬ ((b' : Int) - (a' : Int) ≤ 12) := by omega
        by_cases hl0 : lim = 0
        · subst hl0
          have KI := Lib.hid (heapSort_says dk a' b' g cap w0 wr HR.out (by omega) (by have := HS.out.1; omega) (by have := HS.out.1; omega))
          rw [HS.out.1] at KI
          unfold SortSay at KI
          unfold cmpV at KI
          go_wp2_with (go_at_call 84; refine KI.out.mono ?_; rintro e w1 ⟨rfl, hw1⟩)
          (try simp only [Exit.inBlock, Exit.then]); refine bodyPost_ret (results_none rfl _ _ _) rfl ?_
          refine ⟨rfl, ?_⟩
          rw [← HA.out, pdq_heap h12 rfl]
          exact hw1
        · have hl0z : ¬ ((lim : Int) = 0) := by omega
          obtain ⟨s1, B1, hc1, s2, B2, hpv, s3, B3⟩ := rd_facts (lt := ltQ) (limit := lim) (wb := wb) (wp := wp) swoQ partialInsertionSort_holds reverseRange_holds (show a' < b' by omega) (show b' ≤ dk.size by have := HS.out.1; omega) HS.out.2
          have hnd : (rd ltQ dk a' b' lim wb wp).c.2 ≠ .decreasing := never_dec (d := (rd ltQ dk a' b' lim wb wp).d1) (by omega) (by omega) (by have := HS.out.1; have := s1; omega)
          obtain ⟨e2, epv, eht⟩ := rd_not hnd
          have HZ1 : Hid ((rd ltQ dk a' b' lim wb wp).d1.size = m) := Lib.hid (s1.trans HS.out.1)
          have HRo := Lib.hid (fun h => round_of (dk := dk) (wp := wp) (wb := wb) h12 hl0 h)
          have HDn := Lib.hid (fun h => pdq_done (lt := ltQ) (d := dk) (a := a') (b := b') (limit := lim) (wb := wb) (wp := wp) h12 hl0 h)
          have HP1 := Lib.hid (fun h => rd_pi_yes (lt := ltQ) (d := dk) (a := a') (b := b') (limit := lim) (wb := wb) (wp := wp) h)
          have HP0 := Lib.hid (fun h => rd_pi_no (lt := ltQ) (d := dk) (a := a') (b := b') (limit := lim) (wb := wb) (wp := wp) h)
          have HF : Hid (∀ wb', wb = wb' → (rd ltQ dk a' b' lim wb wp).d1 = (if !wb' then breakPatterns dk a' b' else dk) ∧ (rd ltQ dk a' b' lim wb wp).lim = (if !wb' then lim - 1 else lim)) := Lib.hid (fun wb' e => by subst e; exact ⟨rfl, rfl⟩)
          have HC : Hid ((rd ltQ dk a' b' lim wb wp).c = choosePivot ltQ (rd ltQ dk a' b' lim wb wp).d1 a' b') := Lib.hid rfl
          have hL1 : (rd ltQ dk a' b' lim wb wp).lim ≤ lim := rd_lim_le
          have HB : Hid (Below ltQ a' b' (rd ltQ dk a' b' lim wb wp).pi.1) := Lib.hid B3
          have HZ : Hid ((rd ltQ dk a' b' lim wb wp).pi.1.size = m) := Lib.hid (s3.trans HS.out.1)
          clear s1 s2 s3 B1 B2 B3
          rw [e2] at HP1 HP0
          rw [epv] at hpv HRo
          rw [eht] at HP1 HP0
          clear e2 epv eht
          generalize (rd ltQ dk a' b' lim wb wp) = R at *
          obtain ⟨d1, L1, ⟨pv, hint⟩, d2, pivot, hint2, d, q⟩ := R
          simp only at *
          clear hc1
          obtain ⟨pv1, pv2⟩ := hpv
          go_upto_if 39 with fail
          go_cut [3] from 21 (fun s3 wc => s3 = .int .i64 L1 ∧ Hid (RowQ w0 g d1 wc))
          case first =>
            cases wb
            · obtain ⟨f1, f2⟩ := HF.out false rfl
              simp only [Bool.not_false, if_true] at f1 f2
              have KI := Lib.hid (break_says dk a' b' g cap m w0 wr HR.out HS.out.1 hab' hb' (by omega))
              rw [← f1] at KI
              unfold SortSay at KI
              unfold cmpV at KI
              clear f1
              go_wp2_with (go_at_call 85; refine KI.out.mono ?_; rintro e w1 ⟨rfl, hw1⟩)
              go_meet
              case rel =>
                refine ⟨?_, Lib.hid hw1⟩
                rw [f2]
                show Value.int .i64 ((lim : Int) - 1) = Value.int .i64 ((lim - 1 : Nat) : Int)
                congr 1
                omega
            · obtain ⟨f1, f2⟩ := HF.out true rfl
              simp only [Bool.not_true, Bool.false_eq_true, if_false] at f1 f2
              go_wp2_with fail
              go_meet
              case rel => exact ⟨by rw [f2], by rw [f1]; exact HR⟩
          case rest =>
            obtain ⟨rfl, HR1⟩ := hcut
            have KV := Lib.hid (pivot_says d1 a' b' g cap m w0 wc HR1.out HZ1.out (by omega) (by omega) hb' (by omega))
            rw [← HC.out] at KV
            unfold PivSay at KV
            unfold cmpV at KV
            simp only at KV
            clear HR HR1 HF
            go_upto_if 56 with (go_at_call 86; refine KV.out.mono ?_; rintro e w2 ⟨rfl, hAt2⟩)
            have HR2 := Lib.hid hAt2
            clear hAt2 KV
            have hcode : ¬ (((hintN hint : Nat) : Int) = 2) := by cases hint <;> first | decide | exact absurd rfl hnd
            have hcodeb : (((hintN hint : Nat) : Int) == 2) = false := by rw [beq_eq_false_iff_ne]; exact hcode
            go_upto_region 15 with fail
            go_cut [75] from 21 (fun s68 wx => s68 = .bool (wb && wp && decide (hint = .increasing)) ∧ wx = w2)
            case first =>
              cases wb <;> cases wp <;> rcases (show hint = .unknown ∨ hint = .increasing by cases hint <;> first | exact .inl rfl | exact .inr rfl | exact absurd rfl hnd) with rfl | rfl <;>
                (clear hnd
                 simp only [hintN] at *
                 go_wp2_with fail
                 go_meet
                 exact ⟨by simp, rfl⟩)
            case rest =>
              obtain ⟨rfl, rfl⟩ := hcut
              go_upto_if 75 with fail
              go_cut [] from 21 (fun wx => q = false ∧ Hid (RowQ w0 g d wx))
              case first =>
                cases h68 : (wb && wp && decide (hint = .increasing))
                · have epi := HP0.out h68
                  injection epi with ed eq
                  go_wp2_with fail
                  go_meet
                  case rel => exact ⟨eq, by rw [ed]; exact HR2⟩
                · have epi := HP1.out h68
                  have KI := Lib.hid (partial_says d1 a' b' g cap m w0 _ HR2.out HZ1.out (by omega) (by omega) hb' (by omega))
                  rw [← epi] at KI
                  rw [partial_mid (by omega)] at epi
                  injection epi with ed eq
                  clear eq
                  unfold ParSay at KI
                  unfold cmpV at KI
                  simp only at KI
                  cases hq : q
                  · subst hq
                    go_wp2_with (go_at_call 88; refine KI.out.mono ?_; rintro e w4 ⟨rfl, hw4⟩)
                    go_meet
                    exact ⟨trivial, Lib.hid (by rw [ed]; exact hw4)⟩
                  · subst hq
                    have HE2 := Lib.hid (HDn.out rfl)
                    go_wp2_with (go_at_call 88; refine KI.out.mono ?_; rintro e w4 ⟨rfl, hw4⟩)
                    (try simp only [Exit.inBlock, Exit.then]); refine bodyPost_ret (results_none rfl _ _ _) rfl ?_
                    refine ⟨rfl, ?_⟩
                    rw [← HA.out, HE2.out, ed]
                    exact hw4
              case rest =>
                obtain ⟨rfl, HR5⟩ := hcut
                have HRd := Lib.hid (HRo.out rfl)
                clear HRo HDn HP1 HP0 HC HR2 HZ1 HS
                rcases Nat.eq_zero_or_pos a' with ha0 | ha0
                · have h87 : (decide (a' > 0) && !ltQ d[a' - 1]! d[pv]!) = false := by simp [ha0]
                  have hn0z : decide ((0 : Int) < (a' : Int)) = false := decide_eq_false (by omega)
                  have ha0z : decide ((a' : Int) > 0) = false := decide_eq_false (by omega)
                  have hn0 : ¬ (0 < a') := by omega
                  have hn0d : decide (0 < a') = false := decide_eq_false hn0
                  have H87 := Lib.hid h87
                  clear ha0 h87
                  go_wp2_with fail
                  go_quiet (fail)
                  have S6 := Lib.hid (HR5.out.since (since_drewN (World.Since.refl _ _) nq))
                  clear HR5
                  obtain ⟨mid, ap, d4, hx⟩ : ∃ mid ap d4, partition ltQ d a' b' pv = (mid, ap, d4) := ⟨_, _, _, rfl⟩
                  obtain ⟨r1, r2, r3, r4, r5, r6, r7⟩ := round_part swoQ (partition_holds ltQ) pv1 pv2 (show b' ≤ d.size by have := HZ.out; omega) HB.out hx
                  have KP := Lib.hid (part_says d a' b' pv g cap m w0 _ S6.out HZ.out pv1 pv2 hb' (by omega))
                  rw [hx] at KP
                  have hs4 : d4.size = m := r3.trans HZ.out
                  have HLft := Lib.hid (HRd.out.left mid ap d4 hx H87.out r1 r2)
                  have HRgt := Lib.hid (HRd.out.right mid ap d4 hx H87.out r1 r2)
                  have HR6 := Lib.hid (And.intro r6 r7)
                  have HB4 := Lib.hid (And.intro r4 r5)
                  have HS4 := Lib.hid hs4
                  clear hx r3 r4 r5 r6 r7 hs4
                  unfold PartSay at KP
                  unfold cmpV at KP
                  go_upto_if 125 with (go_at_call 90; refine KP.out.mono ?_; rintro e w7 ⟨rfl, hAt7⟩)
                  have S7 := Lib.hid hAt7
                  clear hAt7 KP
                  by_cases h4 : mid - a' < b' - mid
                  · have h4z : (mid : Int) - (a' : Int) < (b' : Int) - (mid : Int) := by omega
                    have KI := Lib.hid (IH.out a' mid L1 d4 w7 (by omega) HS4.out S7.out (by omega) (by omega) (by omega) HB4.out.1)
                    obtain ⟨pL, sL⟩ := pdq_sorts ltQ swoQ d4 a' mid L1 true true (by omega) (by have := HS4.out; omega) HB4.out.1
                    have HpL := Lib.hid (And.intro (pL.1.trans HS4.out) (HR6.out.1 _ pL sL).1)
                    clear pL sL
                    have HE2 := Lib.hid (HLft.out h4)
                    unfold SortSay at KI
                    unfold cmpV at KI
                    go_wp2_with (go_at_call 55; refine KI.out.mono ?_; rintro e w8 ⟨rfl, hw8⟩)
                    go_roundg (b' - (mid + 1))
                    case measure => omega
                    case rel =>
                      refine ⟨mid + 1, b', L1, decide (mid - a' ≥ (b' - a') / 8), ap, pdq ltQ d4 a' mid L1 true true, by simp, rfl, rfl, congrArg Value.bool (eighthQ (by omega) (by omega)), rfl, by omega, by omega, Nat.le_refl _, by omega, by omega, HpL, Lib.hid hw8, Lib.hid (HE2.out.symm.trans HA.out)⟩
                  · have h4z : ¬ ((mid : Int) - (a' : Int) < (b' : Int) - (mid : Int)) := by omega
                    have KI := Lib.hid (IH.out (mid + 1) b' L1 d4 w7 (by omega) HS4.out S7.out (by omega) (by omega) (by omega) HB4.out.2)
                    rw [show ((mid + 1 : Nat) : Int) = (mid : Int) + 1 by omega] at KI
                    obtain ⟨pL, sL⟩ := pdq_sorts ltQ swoQ d4 (mid + 1) b' L1 true true (by omega) (by have := HS4.out; omega) HB4.out.2
                    have HpL := Lib.hid (And.intro (pL.1.trans HS4.out) (HR6.out.2 _ pL sL).1)
                    clear pL sL
                    have HE2 := Lib.hid (HRgt.out h4)
                    unfold SortSay at KI
                    unfold cmpV at KI
                    go_wp2_with (go_at_call 55; refine KI.out.mono ?_; rintro e w8 ⟨rfl, hw8⟩)
                    go_roundg (mid - a')
                    case measure => omega
                    case rel =>
                      refine ⟨a', mid, L1, decide (b' - mid ≥ (b' - a') / 8), ap, pdq ltQ d4 (mid + 1) b' L1 true true, rfl, rfl, rfl, congrArg Value.bool (eighthQ (by omega) (by omega)), rfl, by omega, by omega, Nat.le_refl _, by omega, by omega, HpL, Lib.hid hw8, Lib.hid (HE2.out.symm.trans HA.out)⟩
                · obtain ⟨A, rfl⟩ : ∃ A, a' = A + 1 := ⟨a' - 1, by omega⟩
                  have z1 : IntKind.i64.wrap ((A : Int) + 1 - 1) = (A : Int) := (IntWalk.i64_in _ (by omega)).trans (by omega)
                  have z1b : IntKind.i64.wrap (A : Int) = (A : Int) := IntWalk.i64_in _ (by omega)
                  have hn0z : decide ((0 : Int) < (A : Int) + 1) = true := decide_eq_true (by omega)
                  have y1 : decide (A < m) = true := by simp; omega
                  have y2 : decide (pv < m) = true := by simp; omega
                  have hA : A < m := by omega
                  have hpm : pv < m := by omega
                  have KC := Lib.hid (fun wx => cmp_says d[A]! d[pv]! wx)
                  have HLt : Hid (ltQ d[A]! d[pv]! = decide (cmpQ d[A]!.1 d[pv]!.1 < 0)) := Lib.hid rfl
                  unfold qV at KC
                  generalize cmpQ d[A]!.1 d[pv]!.1 = c at *
                  by_cases hc : c < 0
                  · have hcb : decide (c < 0) = true := decide_eq_true hc
                    have h87 : (decide (A + 1 > 0) && !ltQ d[A + 1 - 1]! d[pv]!) = false := by rw [Nat.add_sub_cancel, HLt.out, hcb]; simp
                    have H87 := Lib.hid h87
                    clear HLt h87
                    go_wp2_with fail
                    have QQ := Lib.hid (And.intro (And.intro (HR5.out.c0 (A) (by have := HZ.out; omega)) (HR5.out.c1 (A) (by have := HZ.out; omega))) (And.intro (HR5.out.c0 (pv) (by have := HZ.out; omega)) (HR5.out.c1 (pv) (by have := HZ.out; omega))))
                    go_region_held3 (fun w' => (w'.cell? ⟨g, (A) * 2, none⟩ = some (.int .i64 (d[A]!.1.1 : Nat)) ∧ w'.cell? ⟨g, (A) * 2 + 1, none⟩ = some (.int .i64 (d[A]!.1.2 : Nat))) ∧ (w'.cell? ⟨g, (pv) * 2, none⟩ = some (.int .i64 (d[pv]!.1.1 : Nat)) ∧ w'.cell? ⟨g, (pv) * 2 + 1, none⟩ = some (.int .i64 (d[pv]!.1.2 : Nat))))
                      (first
                        | exact QQ.out
                        | exact Q2.out)
                      (first
                        | (go_at_call 37; refine (KC.out _).mono ?_; rintro e w6 ⟨rfl, hs⟩; have S6 := Lib.hid (HR5.out.drew.since hs); have Q2 := Lib.hid (And.intro (And.intro (S6.out.c0 (A) (by have := HZ.out; omega)) (S6.out.c1 (A) (by have := HZ.out; omega))) (And.intro (S6.out.c0 (pv) (by have := HZ.out; omega)) (S6.out.c1 (pv) (by have := HZ.out; omega)))); clear hs))
                    go_wp2_with fail
                    clear HR5 QQ Q2 KC
                    obtain ⟨mid, ap, d4, hx⟩ : ∃ mid ap d4, partition ltQ d (A + 1) b' pv = (mid, ap, d4) := ⟨_, _, _, rfl⟩
                    obtain ⟨r1, r2, r3, r4, r5, r6, r7⟩ := round_part swoQ (partition_holds ltQ) pv1 pv2 (show b' ≤ d.size by have := HZ.out; omega) HB.out hx
                    have KP := Lib.hid (part_says d (A + 1) b' pv g cap m w0 _ S6.out HZ.out pv1 pv2 hb' (by omega))
                    rw [hx] at KP
                    have hs4 : d4.size = m := r3.trans HZ.out
                    have HLft := Lib.hid (HRd.out.left mid ap d4 hx H87.out r1 r2)
                    have HRgt := Lib.hid (HRd.out.right mid ap d4 hx H87.out r1 r2)
                    have HR6 := Lib.hid (And.intro r6 r7)
                    have HB4 := Lib.hid (And.intro r4 r5)
                    have HS4 := Lib.hid hs4
                    clear hx r3 r4 r5 r6 r7 hs4
                    unfold PartSay at KP
                    unfold cmpV at KP
                    go_upto_if 125 with (go_at_call 90; refine KP.out.mono ?_; rintro e w7 ⟨rfl, hAt7⟩)
                    have S7 := Lib.hid hAt7
                    clear hAt7 KP
                    by_cases h4 : mid - (A + 1) < b' - mid
                    · have h4z : (mid : Int) - ((A : Int) + 1) < (b' : Int) - (mid : Int) := by omega
                      have KI := Lib.hid (IH.out (A + 1) mid L1 d4 w7 (by omega) HS4.out S7.out (by omega) (by omega) (by omega) HB4.out.1)
                      obtain ⟨pL, sL⟩ := pdq_sorts ltQ swoQ d4 (A + 1) mid L1 true true (by omega) (by have := HS4.out; omega) HB4.out.1
                      have HpL := Lib.hid (And.intro (pL.1.trans HS4.out) (HR6.out.1 _ pL sL).1)
                      clear pL sL
                      have HE2 := Lib.hid (HLft.out h4)
                      unfold SortSay at KI
                      unfold cmpV at KI
                      go_wp2_with (go_at_call 55; refine KI.out.mono ?_; rintro e w8 ⟨rfl, hw8⟩)
                      go_roundg (b' - (mid + 1))
                      case measure => omega
                      case rel =>
                        refine ⟨mid + 1, b', L1, decide (mid - (A + 1) ≥ (b' - (A + 1)) / 8), ap, pdq ltQ d4 (A + 1) mid L1 true true, by simp, rfl, rfl, congrArg Value.bool (eighthQ (by omega) (by omega)), rfl, by omega, by omega, Nat.le_refl _, by omega, by omega, HpL, Lib.hid hw8, Lib.hid (HE2.out.symm.trans HA.out)⟩
                    · have h4z : ¬ ((mid : Int) - ((A : Int) + 1) < (b' : Int) - (mid : Int)) := by omega
                      have KI := Lib.hid (IH.out (mid + 1) b' L1 d4 w7 (by omega) HS4.out S7.out (by omega) (by omega) (by omega) HB4.out.2)
                      rw [show ((mid + 1 : Nat) : Int) = (mid : Int) + 1 by omega] at KI
                      obtain ⟨pL, sL⟩ := pdq_sorts ltQ swoQ d4 (mid + 1) b' L1 true true (by omega) (by have := HS4.out; omega) HB4.out.2
                      have HpL := Lib.hid (And.intro (pL.1.trans HS4.out) (HR6.out.2 _ pL sL).1)
                      clear pL sL
                      have HE2 := Lib.hid (HRgt.out h4)
                      unfold SortSay at KI
                      unfold cmpV at KI
                      go_wp2_with (go_at_call 55; refine KI.out.mono ?_; rintro e w8 ⟨rfl, hw8⟩)
                      go_roundg (mid - (A + 1))
                      case measure => omega
                      case rel =>
                        refine ⟨A + 1, mid, L1, decide (b' - mid ≥ (b' - (A + 1)) / 8), ap, pdq ltQ d4 (mid + 1) b' L1 true true, rfl, rfl, rfl, congrArg Value.bool (eighthQ (by omega) (by omega)), rfl, by omega, by omega, Nat.le_refl _, by omega, by omega, HpL, Lib.hid hw8, Lib.hid (HE2.out.symm.trans HA.out)⟩
                  · have hcb : decide (c < 0) = false := decide_eq_false hc
                    have hci : 0 ≤ c := by omega
                    have h87 : (decide (A + 1 > 0) && !ltQ d[A + 1 - 1]! d[pv]!) = true := by rw [Nat.add_sub_cancel, HLt.out, hcb]; simp
                    have H87 := Lib.hid h87
                    clear HLt h87
                    go_wp2_with fail
                    have QQ := Lib.hid (And.intro (And.intro (HR5.out.c0 (A) (by have := HZ.out; omega)) (HR5.out.c1 (A) (by have := HZ.out; omega))) (And.intro (HR5.out.c0 (pv) (by have := HZ.out; omega)) (HR5.out.c1 (pv) (by have := HZ.out; omega))))
                    go_region_held3 (fun w' => (w'.cell? ⟨g, (A) * 2, none⟩ = some (.int .i64 (d[A]!.1.1 : Nat)) ∧ w'.cell? ⟨g, (A) * 2 + 1, none⟩ = some (.int .i64 (d[A]!.1.2 : Nat))) ∧ (w'.cell? ⟨g, (pv) * 2, none⟩ = some (.int .i64 (d[pv]!.1.1 : Nat)) ∧ w'.cell? ⟨g, (pv) * 2 + 1, none⟩ = some (.int .i64 (d[pv]!.1.2 : Nat))))
                      (first
                        | exact QQ.out
                        | exact Q2.out)
                      (first
                        | (go_at_call 37; refine (KC.out _).mono ?_; rintro e w6 ⟨rfl, hs⟩; have S6 := Lib.hid (HR5.out.drew.since hs); have Q2 := Lib.hid (And.intro (And.intro (S6.out.c0 (A) (by have := HZ.out; omega)) (S6.out.c1 (A) (by have := HZ.out; omega))) (And.intro (S6.out.c0 (pv) (by have := HZ.out; omega)) (S6.out.c1 (pv) (by have := HZ.out; omega)))); clear hs))
                    go_wp2_with fail
                    clear HR5 QQ Q2 KC
                    obtain ⟨mid, d4, hx⟩ : ∃ mid d4, partitionEqual ltQ d (A + 1) b' pv = (mid, d4) := ⟨_, _, rfl⟩
                    obtain ⟨r1, r2, r3, r4, _⟩ := round_eq swoQ (partitionEqual_holds ltQ) (Nat.succ_pos A) pv1 pv2 (show b' ≤ d.size by have := HZ.out; omega) HB.out (by simpa using H87.out) hx
                    have KP := Lib.hid (partEq_says d (A + 1) b' pv g cap m w0 _ S6.out HZ.out pv1 pv2 hb' (by omega))
                    rw [hx] at KP
                    have HE2 := Lib.hid (HRd.out.eq mid d4 hx H87.out r1 r2)
                    have hs4 : d4.size = m := r3.trans HZ.out
                    clear hx
                    unfold EqSay at KP
                    unfold cmpV at KP
                    go_wp2_with (go_at_call 89; refine KP.out.mono ?_; rintro e w7 ⟨rfl, hw7⟩)
                    go_roundg (b' - mid)
                    case measure => omega
                    case rel => exact ⟨mid, b', L1, wb, wp, d4, rfl, rfl, rfl, rfl, rfl, r2, hb', Nat.le_refl _, by omega, by omega, Lib.hid ⟨hs4, r4⟩, Lib.hid hw7, Lib.hid (HE2.out.symm.trans HA.out)⟩
end Go.Proofs.YtkklagdniaoghaaGreatDoor
