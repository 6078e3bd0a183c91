/- The walk of the law ChecksSteps, where it asks. -/
import Derived.Test.YtdiamfejibicbaaGreatDoorS3
import Derived.Test.YtdiamfejibicbaaGreatDoorS4
import Derived.Test.YtdiamfejibicbaaGreatDoorS5
import Derived.Test.YtdiamfejibicbaaGreatDoorS6
import Derived.Test.YtdiamfejibicbaaGreatDoorS8
import Derived.Deep.CutBlock
import Derived.Deep.DeepCutAuto
namespace Go.Proofs.YtdiamfejibicbaaGreatDoor
open Go.RowKit Go.Proofs.Lev

/-- Two worlds that part in draws alone. -/
structure Same (w wd : World) : Prop where
  heap : wd.heap = w.heap
  os : wd.os = w.os
  tape : wd.tape = w.tape
  output : wd.output = w.output
theorem Same.refl (w : World) : Same w w := ⟨rfl, rfl, rfl, rfl⟩
theorem Same.up {w w1 wd : World} (h : Same w w1) (e1 : wd.heap = w1.heap) (e2 : wd.os = w1.os) (e3 : wd.tape = w1.tape) (e4 : wd.output = w1.output) : Same w wd :=
  ⟨e1.trans h.heap, e2.trans h.os, e3.trans h.tape, e4.trans h.output⟩
theorem Same.cell {w wd : World} (h : Same w wd) (a : Addr) : wd.cell? a = w.cell? a := by simp [World.cell?, h.heap]
theorem Same.since {w wd : World} (h : Same w wd) : w.Since w.heap.size wd := ⟨h.os, h.tape, h.output, by rw [h.heap]; exact Nat.le_refl _, fun k _ => by rw [h.heap]⟩
theorem strAt_in {w wk : World} {A : Option Addr} {l : Ws} (h : StrAt w w.heap.size A l) (hs : w.Since w.heap.size wk) : StrAt wk wk.heap.size A l :=
  ⟨fun i hi => by
    obtain ⟨ad, h0, h1, h2⟩ := (h.below hs (Nat.le_refl _)).at_ i hi
    exact ⟨ad, h0, Nat.lt_of_lt_of_le h1 hs.size, h2⟩⟩
theorem eqTo_fin {a b : Ws} {e : Bool} (h : EqTo a b a.length e) : e = true ↔ a = b := by
  cases e with
  | false => exact ⟨fun h => by (cases h), fun e => absurd e (eqTo_no h)⟩
  | true => exact ⟨fun _ => eqTo_all h, fun _ => rfl⟩
theorem strUp {w : World} {A : Option Addr} {l : Ws} {o : Obj} (h : StrAt (w.alloc o) w.heap.size A l) : StrAt (w.alloc o) (w.alloc o).heap.size A l :=
  ⟨fun i hi => by
    obtain ⟨ad, h0, h1, h2⟩ := h.at_ i hi
    exact ⟨ad, h0, by simp; omega, h2⟩⟩
set_option maxHeartbeats 32000000 in
set_option maxRecDepth 1000000 in
theorem law_small (a b c : Ws) (word : ByteArray) (w : World) (A C D : Option Addr) (cA cC cD : Nat) (hA : StrAt w w.heap.size A a) (hC : StrAt w w.heap.size C b) (hD : StrAt w w.heap.size D c)
    (la : a.length ≤ 39) (lb : b.length ≤ 39) (lc : c.length ≤ 39) (lw : word.size ≤ 100) :
    Calls Tryz.prog 3 #[.slice A a.length cA, .slice C b.length cC, .slice D c.length cD, .string word] w fun e w' => e = .returned (.bool true) ∧ w.Since w.heap.size w' := by
  have hT := Lib.hid (three_at (cA := cA) (cC := cC) (cD := cD) hA hC hD)
  have hS0 := (World.Since.refl w.heap.size w).alloc (Nat.le_refl _) (.cells #[.slice A a.length cA, .slice C b.length cC, .slice D c.length cD] 22)
  have hS := Lib.hid hS0
  have hN : Hid (∀ i, i < 3 → (sel a b c i).length ≤ 9223372036854775807) := fun i hi => by
    match i, hi with
    | 0, _ => exact Nat.le_trans la (by decide)
    | 1, _ => exact Nat.le_trans lb (by decide)
    | 2, _ => exact Nat.le_trans lc (by decide)
  have hA1 := Lib.hid (hA.below hS0 (Nat.le_refl _))
  have hC1 := Lib.hid (hC.below hS0 (Nat.le_refl _))
  have hD1 := Lib.hid (hD.below hS0 (Nat.le_refl _))
  have H0 := Lib.hid (And.intro hA (And.intro hC hD))
  clear hA hC hD hS0
  go_enter Tryz.func3, Tryz.ntmps3
  go_wp2_with (first
    | (go_at_call 4; refine (many_any _ _ _ _ _ _ hT.out hN.out).mono ?_; rintro e w' ⟨⟨v, rfl⟩, rfl⟩; cases v)
    | (go_at_call 5; refine (says_true _).mono ?_; rintro e w' ⟨rfl, hw'⟩; have HW := Lib.hid hw'; clear hw')
    | (go_at_call 6; refine (edits_says a b _ A C cA cC (strUp hA1.out) (strUp hC1.out) (by omega) (by omega)).mono ?_; rintro e w' ⟨R, cap, s, rfl, ho, hsl, hr, hw'⟩; have HO := Lib.hid ho; have HR := Lib.hid hr; have HE := Lib.hid hw'; clear hw' ho hr))
  · obtain ⟨w2, rfl⟩ : ∃ w2, w2 = w' := ⟨w', rfl⟩
    have hW2 := since_two hS.out HE.out
    have hA2 := hA1.out.below HE.out (by simp)
    have hC2 := hC1.out.below HE.out (by simp)
    have hD2 := hD1.out.below HE.out (by simp)
    have HZ := Lib.hid (And.intro hW2 (And.intro hA2 (And.intro hC2 hD2)))
    clear hT hS hN HE hA1 hC1 hD1 hW2 hA2 hC2 hD2
    go_loopg [12, 13, 14, 15] s.length (fun g i k t x wr => ∃ (I K T X : Nat), X ≤ s.length ∧ g = s.length - X ∧ i = .int .i64 I ∧ k = .int .i64 K ∧ t = .int .i64 T ∧ x = .int .i64 X ∧ T ≤ X ∧
      Hid (run a b (s.drop X) I K T = some (a.length, b.length, lev a b)) ∧ Same w2 wr)
    case atStart => exact ⟨0, 0, 0, 0, by omega, by omega, rfl, rfl, rfl, rfl, by omega, HR.out, Same.refl _⟩
    case round =>
      obtain ⟨I, K, T, X, hXl, rfl, rfl, rfl, rfl, rfl, hT, hrun, hsm⟩ := hrel
      have hle := run_len hrun.out
      simp only at hle
      obtain ⟨hI, hK, _⟩ := hle
      by_cases hX : X < s.length
      · obtain ⟨g, rfl, co⟩ := HO.out.at_ X hX
        rw [← hsm.cell] at co
        have HM := Lib.hid hsm
        rcases run_step hX hrun.out with ⟨e, hi, hk, hab, h2⟩ | ⟨e, hi, hk, h2⟩ | ⟨e, hi, h2⟩ | ⟨e, hk, h2⟩
        · rw [e] at co
          replace co : wr.cell? ⟨g, X, none⟩ = some (.int .u8 0) := co
          obtain ⟨ad, rfl, had, ca⟩ := HZ.out.2.1.at_ I hi
          obtain ⟨cd, rfl, hcd, cb⟩ := HZ.out.2.2.1.at_ K hk
          rw [List.getElem?_eq_getElem hi, List.getElem?_eq_getElem hk, Option.some.injEq] at hab
          rw [← hsm.cell] at ca cb
          rw [← hab] at cb
          generalize a[I] = sx at *
          have H2 := Lib.hid h2
          clear h2 hsm e hab hrun
          have hdI : decide (a.length ≤ I) = false := decide_eq_false (by omega)
          have hdK : decide (b.length ≤ K) = false := decide_eq_false (by omega)
          as_aux_lemma =>
            go_wp2
            go_quiet (fail)
            go_wp2
            go_quiet (fail)
            go_wp2
            go_roundg (s.length - (X + 1))
            case measure => omega
            case rel => exact ⟨I + 1, K + 1, T, X + 1, by omega, rfl, by go_num, by go_num, by go_num, by go_num, by omega, H2, HM.out.up rfl rfl rfl rfl⟩
        · rw [e] at co
          replace co : wr.cell? ⟨g, X, none⟩ = some (.int .u8 1) := co
          have H2 := Lib.hid h2
          clear h2 hsm e hrun
          have hdI : decide (a.length ≤ I) = false := decide_eq_false (by omega)
          have hdK : decide (b.length ≤ K) = false := decide_eq_false (by omega)
          as_aux_lemma =>
            go_wp2
            go_quiet (fail)
            go_wp2
            go_quiet (fail)
            go_wp2
            go_roundg (s.length - (X + 1))
            case measure => omega
            case rel => exact ⟨I + 1, K + 1, T + 1, X + 1, by omega, rfl, by go_num, by go_num, by go_num, by go_num, by omega, H2, HM.out.up rfl rfl rfl rfl⟩
        · rw [e] at co
          replace co : wr.cell? ⟨g, X, none⟩ = some (.int .u8 2) := co
          have H2 := Lib.hid h2
          clear h2 hsm e hrun
          have hdI : decide (a.length ≤ I) = false := decide_eq_false (by omega)
          as_aux_lemma =>
            go_wp2
            go_quiet (fail)
            go_wp2
            go_quiet (fail)
            go_wp2
            go_roundg (s.length - (X + 1))
            case measure => omega
            case rel => exact ⟨I + 1, K, T + 1, X + 1, by omega, rfl, by go_num, by go_num, by go_num, by go_num, by omega, H2, HM.out.up rfl rfl rfl rfl⟩
        · rw [e] at co
          replace co : wr.cell? ⟨g, X, none⟩ = some (.int .u8 3) := co
          have H2 := Lib.hid h2
          clear h2 hsm e hrun
          have hdK : decide (b.length ≤ K) = false := decide_eq_false (by omega)
          as_aux_lemma =>
            go_wp2
            go_quiet (fail)
            go_wp2
            go_quiet (fail)
            go_wp2
            go_roundg (s.length - (X + 1))
            case measure => omega
            case rel => exact ⟨I, K + 1, T + 1, X + 1, by omega, rfl, by go_num, by go_num, by go_num, by go_num, by omega, H2, HM.out.up rfl rfl rfl rfl⟩
      · obtain rfl : X = s.length := by omega
        have hfin := hrun.out
        rw [List.drop_length] at hfin
        simp only [run, Option.some.injEq, Prod.mk.injEq] at hfin
        obtain ⟨rfl, rfl, rfl⟩ := hfin
        have HZ3 := Lib.hid hsm
        clear hsm hrun HO HR
        go_upto_block 2 with fail
        go_cut [18] (fun e w3 => ∃ eb, e = .bool eb ∧ Hid (eb = true ↔ a = b) ∧ Same w2 w3)
        case first =>
          go_wp2_with fail
          go_loopg [18, 19] a.length (fun g e x w3 => ∃ (X : Nat) (eb : Bool), X ≤ a.length ∧ g = a.length - X ∧ x = .int .i64 X ∧ e = .bool eb ∧ Hid (EqTo a b X eb) ∧ Same w2 w3)
          case atStart => exact ⟨0, _, by omega, by omega, rfl, rfl, by unfold RowKit.Hid EqTo; simp <;> omega, HZ3.out⟩
          case round =>
            obtain ⟨X, eb, hXl, rfl, rfl, rfl, heq, hsm⟩ := hrel
            by_cases hX : X < a.length
            · cases eb
              · have HQ := Lib.hid (eqTo_no heq.out)
                have HM := Lib.hid hsm
                clear heq hsm
                go_wp2
                go_meet
                case rel => exact ⟨false, rfl, ⟨fun h => by (cases h), fun h => absurd h HQ.out⟩, HM.out⟩
              · have hlen := eqTo_len heq.out
                have hXb : X < b.length := by omega
                obtain ⟨ad, rfl, had, ca⟩ := HZ.out.2.1.at_ X hX
                obtain ⟨cd, rfl, hcd, cb⟩ := HZ.out.2.2.1.at_ X hXb
                rw [← hsm.cell] at ca cb
                have HQ := Lib.hid (fun e => eqTo_step heq.out hX hXb (e := e))
                generalize a[X] = sx at *
                generalize b[X] = sy at *
                have HM := Lib.hid hsm
                clear hsm heq hlen
                go_wp2
                go_quiet (fail)
                go_wp2
                go_roundg (a.length - (X + 1))
                case measure => omega
                case rel => exact ⟨X + 1, _, by omega, rfl, by go_num, rfl, HQ.out _ eqS_iff, HM.out.up rfl rfl rfl rfl⟩
            · obtain rfl : X = a.length := by omega
              have HQ := Lib.hid (eqTo_fin heq.out)
              have HM := Lib.hid hsm
              clear heq hsm
              go_wp2
              go_meet
              case rel => exact ⟨_, rfl, HQ.out, HM.out⟩
        case rest =>
          obtain ⟨eb, rfl, HE, hsm⟩ := hcut
          have P3 := Lib.hid (since_two HZ.out.1 hsm.since)
          clear hsm HZ HZ3
          go_wp2_with fail
          have h4 := edits_says b a _ C A cC cA (strAt_in H0.out.2.1 P3.out) (strAt_in H0.out.1 P3.out) (by omega) (by omega)
          rw [lev_symm b a] at h4
          refine h4.mono ?_
          clear h4
          rintro e w4 ⟨R4, c4, s4, rfl, -, -, -, hw4⟩
          have P4 := Lib.hid (since_two P3.out hw4)
          clear hw4
          go_wp2_with fail
          refine (edits_says a c _ A D cA cD (strAt_in H0.out.1 P4.out) (strAt_in H0.out.2.2 P4.out) (by omega) (by omega)).mono ?_
          rintro e w5 ⟨R5, c5, s5, rfl, -, -, -, hw5⟩
          have P5 := Lib.hid (since_two P4.out hw5)
          clear hw5
          go_wp2_with fail
          refine (edits_says c b _ D C cD cC (strAt_in H0.out.2.2 P5.out) (strAt_in H0.out.2.1 P5.out) (by omega) (by omega)).mono ?_
          rintro e w6 ⟨R6, c6, s6, rfl, -, -, -, hw6⟩
          have P6 := Lib.hid (since_two P5.out hw6)
          clear hw6 P3 P4 P5
          go_upto_region 29 with fail
          go_wp2_with (at_builtin; refine wpList_append_words rfl _ _ rfl w6.heap.size _ 0 [] rfl (lit_own w6) A cA a a.length rfl rfl (strAt_in H0.out.1 (since_alloc P6.out _)) ?c1 ?c2 ?_)
          case c1 => omega
          case c2 => simp
          intro v1 w7 ho1 hg1
          have P7 := Lib.hid (since_grown' P6.out hg1 (fun k e => by cases e; exact P6.out.size))
          have Z7 : Hid (w6.heap.size ≤ w7.heap.size) := by have := hg1.size; simp at this; exact Nat.le_of_succ_le this
          have O1 := Lib.hid ho1
          clear hg1 ho1
          go_wp2_with (at_builtin; refine wpList_append_words rfl _ _ rfl w6.heap.size v1 a.length (a.map .string) rfl (O1.out.alloc _) (some ⟨w7.heap.size, 0, none⟩) 1 [word] 1 rfl rfl (word_at w7 word) ?c1 ?c2 ?_)
          case c1 => simp; omega
          case c2 => have := Z7.out; simp; omega
          intro v2 w8 ho2 hg2
          have P8 := Lib.hid (since_grown' P7.out hg2 (fun k e => Nat.le_trans P6.out.size (O1.out.lt k e).1))
          obtain ⟨l1, G1, c8, E1, rfl, hG1⟩ := ext_words ho2
          have L1 := Lib.hid hG1
          clear hg2 ho2 P7 Z7 O1 hG1
          go_wp2_with (at_builtin; refine wpList_append_words rfl _ _ rfl w8.heap.size _ 0 [] rfl (lit_own w8) C cC b b.length rfl rfl (strAt_in H0.out.2.1 (since_alloc P8.out _)) ?c1 ?c2 ?_)
          case c1 => omega
          case c2 => simp
          intro v3 w9 ho3 hg3
          have P9 := Lib.hid (since_grown' (World.Since.refl w8.heap.size w8) hg3 (fun k e => by cases e; exact Nat.le_refl _))
          have Z9 : Hid (w8.heap.size ≤ w9.heap.size) := by have := hg3.size; simp at this; exact Nat.le_of_succ_le this
          have O3 := Lib.hid ho3
          clear hg3 ho3
          go_wp2_with (at_builtin; refine wpList_append_words rfl _ _ rfl w8.heap.size v3 b.length (b.map .string) rfl (O3.out.alloc _) (some ⟨w9.heap.size, 0, none⟩) 1 [word] 1 rfl rfl (word_at w9 word) ?c1 ?c2 ?_)
          case c1 => simp; omega
          case c2 => have := Z9.out; simp; omega
          intro v4 w10 ho4 hg4
          have P10 := Lib.hid (since_grown' P9.out hg4 (fun k e => (O3.out.lt k e).1))
          obtain ⟨l2, G2, c10, E2, rfl, hG2⟩ := ext_words ho4
          have L2 := Lib.hid hG2
          have PA := Lib.hid (since_two P8.out P10.out)
          have hn1 : l1.length = a.length + 1 := by rw [E1]; simp
          have hn2 : l2.length = b.length + 1 := by rw [E2]; simp
          have hb := edits_says l1 l2 w10 G1 G2 c8 c10 (strAt_in L1.out P10.out) L2.out (by omega) (by omega)
          rw [show lev l1 l2 = lev a b by rw [E1, E2, lev_snoc]] at hb
          have HB := Lib.hid hb
          clear hg4 ho4 P8 P9 Z9 O3 hG2 P10 hn1 hn2 hb L1 L2
          go_wp2_with fail
          refine HB.out.mono ?_
          rintro e wb ⟨Rb, cb, sb, rfl, -, -, -, hwb⟩
          have PB := Lib.hid (since_two PA.out hwb)
          clear hwb PA HB
          have n0 := lev_zero a b
          obtain rfl : eb = ((lev a b : Int) == 0) := by
            have := HE.out
            rw [← n0] at this
            cases eb <;> simp at this ⊢ <;> omega
          have n1 := lev_tri a b c
          have n2 := lev_max a b
          have n3 := lev_min a b
          have n4 := lev_max a c
          have n5 := lev_max c b
          clear n0 HE
          generalize lev a b = n at *
          generalize lev a c = p at *
          generalize lev c b = q at *
          clear H0
          have q1 : decide ((n : Int) ≤ (p : Int) + q) = true := decide_eq_true (by omega)
          go_wp2_with fail
          all_goals
            refine (says_true _).mono ?_
            rintro e wz ⟨rfl, hz⟩
            have HW := Lib.hid (since_two PB.out hz)
            clear hz
            go_wp2_with fail
            go_ret
            exact ⟨rfl, HW.out⟩
  · go_ret
    exact ⟨rfl, since_two hS.out HW.out⟩
end Go.Proofs.YtdiamfejibicbaaGreatDoor
