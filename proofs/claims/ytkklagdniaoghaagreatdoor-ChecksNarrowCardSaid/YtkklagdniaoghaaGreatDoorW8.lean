/- The walks of the specification's matches. -/
import Derived.Test.YtkklagdniaoghaaGreatDoorW3
import Derived.Test.YtkklagdniaoghaaGreatDoorGA
namespace Go.Proofs.YtkklagdniaoghaaGreatDoor
open Go.RowKit Go.Proofs.MapEnt

/-- Two worlds that part in draws alone. -/
structure Same (w wd : World) : Prop where
  heap : wd.heap = w.heap
  os : wd.os = w.os
  tape : wd.tape = w.tape
  output : wd.output = w.output
theorem Same.refl (w : World) : Same w w := ⟨rfl, rfl, rfl, rfl⟩
theorem Same.up {w w1 wd : World} (h : Same w w1) (e1 : wd.heap = w1.heap) (e2 : wd.os = w1.os) (e3 : wd.tape = w1.tape) (e4 : wd.output = w1.output) : Same w wd :=
  ⟨e1.trans h.heap, e2.trans h.os, e3.trans h.tape, e4.trans h.output⟩
theorem Same.cell {w wd : World} (h : Same w wd) (a : Addr) : wd.cell? a = w.cell? a := by simp [World.cell?, h.heap]
theorem Same.since {w wd : World} (h : Same w wd) : w.Since w.heap.size wd := ⟨h.os, h.tape, h.output, by rw [h.heap]; exact Nat.le_refl _, fun k _ => by rw [h.heap]⟩
theorem Same.row {w wd : World} (h : Same w wd) {b t n : Nat} {f : Nat → Value} (hr : w.rowIs b t n f) : wd.rowIs b t n f := by
  unfold World.rowIs at *
  rw [h.heap]
  exact hr
theorem Same.into {w w1 wd : World} {B : Nat} (h : Same w1 wd) (hs : w.Since B w1) : w.Since B wd := ⟨h.os.trans hs.os, h.tape.trans hs.tape, h.output.trans hs.output, by rw [h.heap]; exact hs.size, fun k hk => by rw [h.heap]; exact hs.block k hk⟩

theorem eqS_iff {a b : ByteArray} : (a.toList == b.toList) = true ↔ a = b := by
  rw [beq_iff_eq]
  constructor
  · intro h; rw [ByteArray.toList_eq, ByteArray.toList_eq] at h; exact WideShapes.bytes_inj h
  · rintro rfl; rfl
theorem eqS_false {a b : ByteArray} : (a.toList == b.toList) = false ↔ a ≠ b := by
  rw [← Bool.not_eq_true, eqS_iff]

theorem win_take {l : Ws} {i n X : Nat} (h : i + n ≤ l.length) (hX : X < n) : (win l i n).take (X + 1) = (win l i n).take X ++ [l[i + X]'(by omega)] := by
  rw [List.take_add_one, win_get h hX]
  rfl
/-- Do the first X words of two windows agree? -/
theorem agree_step {a b : Ws} {i k n X : Nat} (ha : i + n ≤ a.length) (hb : k + n ≤ b.length) (hX : X < n) (h : (win a i n).take X = (win b k n).take X) (e : a[i + X]'(by omega) = b[k + X]'(by omega)) :
    (win a i n).take (X + 1) = (win b k n).take (X + 1) := by rw [win_take ha hX, win_take hb hX, h, e]
theorem agree_no {a b : Ws} {i k n X : Nat} (ha : i + n ≤ a.length) (hb : k + n ≤ b.length) (hX : X < n) (e : a[i + X]'(by omega) ≠ b[k + X]'(by omega)) : win a i n ≠ win b k n := fun h => by
  have h1 := win_get ha hX
  rw [h, win_get hb hX, Option.some.injEq] at h1
  exact e h1.symm
theorem agree_all {a b : Ws} {i k n : Nat} (ha : i + n ≤ a.length) (hb : k + n ≤ b.length) (h : (win a i n).take n = (win b k n).take n) : win a i n = win b k n := by
  rwa [List.take_of_length_le (by rw [win_length ha]; exact Nat.le_refl _), List.take_of_length_le (by rw [win_length hb]; exact Nat.le_refl _)] at h

def SameSays (a b : Ws) (i k n : Nat) (w : World) (e : Ending) (w' : World) : Prop := ∃ z : Bool, e = .returned (.bool z) ∧ (z = true ↔ win a i n = win b k n) ∧ Same w w'
set_option maxHeartbeats 1600000 in
set_option maxRecDepth 1000000 in
theorem same_says (a b : Ws) (i k n : Nat) (w : World) (A C : Option Addr) (cA cC : Nat) (hA : In w A cA a) (hC : In w C cC b) (ha : i + n ≤ a.length) (hb : k + n ≤ b.length) (h4 : n ≤ 4) (la : a.length ≤ 512) (lb : b.length ≤ 512) :
    Calls Tryz.prog 49 #[.slice A a.length cA, .int .i64 i, .slice C b.length cC, .int .i64 k, .int .i64 n] w (SameSays a b i k n w) := by
  have HA := Lib.hid hA
  have HC := Lib.hid hC
  clear hA hC
  go_enter Tryz.func49, Tryz.ntmps49
  go_wp2
  go_loopg [11] n (fun g x wr => ∃ X : Nat, X ≤ n ∧ g = n - X ∧ x = .int .i64 X ∧ Hid ((win a i n).take X = (win b k n).take X) ∧ Same w wr)
  case atStart => exact ⟨0, by omega, by omega, rfl, Lib.hid (by simp), Same.refl _⟩
  case round =>
    obtain ⟨X, hX, rfl, rfl, hE, hS⟩ := hrel
    by_cases hlt : X < n
    · obtain ⟨ad, rfl, had, ca⟩ := HA.out.at_.at_ (i + X) (by omega)
      obtain ⟨cd, rfl, hcd, cb⟩ := HC.out.at_.at_ (k + X) (by omega)
      rw [← hS.cell] at ca cb
      have QE := Lib.hid (fun e => agree_step ha hb hlt hE.out e)
      have QN := Lib.hid (fun e => agree_no ha hb hlt e)
      have HM := Lib.hid hS
      clear hS hE
      generalize a[i + X]'(by omega) = sx at *
      generalize b[k + X]'(by omega) = sy at *
      have e1 : IntKind.i64.wrap ((i : Int) + X) = (i : Int) + X := IntWalk.i64_in _ (by omega)
      have e2 : IntKind.i64.wrap ((k : Int) + X) = (k : Int) + X := IntWalk.i64_in _ (by omega)
      have e3 : ((i : Int) + X).toNat = i + X := by omega
      have e4 : ((k : Int) + X).toNat = k + X := by omega
      have e5 : 0 ≤ (i : Int) + X := by omega
      have e6 : 0 ≤ (k : Int) + X := by omega
      have e7 : (i : Int) + X < (a.length : Int) := by omega
      have e8 : (k : Int) + X < (b.length : Int) := by omega
      cases hq : (sx.toList == sy.toList)
      · have HQ := Lib.hid (QN.out (eqS_false.1 hq))
        go_wp2
        go_quiet (fail)
        go_wp2
        go_ret
        exact ⟨false, rfl, ⟨fun h => by (cases h), fun h => absurd h HQ.out⟩, HM.out.up rfl rfl rfl rfl⟩
      · have HQ := Lib.hid (QE.out (eqS_iff.1 hq))
        go_wp2
        go_quiet (fail)
        go_wp2
        go_roundg (n - (X + 1))
        case measure => omega
        case rel => exact ⟨X + 1, by omega, rfl, by go_num, HQ, HM.out.up rfl rfl rfl rfl⟩
    · obtain rfl : X = n := by omega
      have HQ := Lib.hid (agree_all ha hb hE.out)
      have HM := Lib.hid hS
      clear hS hE
      go_wp2
      go_ret
      exact ⟨true, rfl, ⟨fun _ => HQ.out, fun _ => rfl⟩, HM.out⟩

theorem gram_at {l : Ws} {n i : Nat} (h : i < (Bag.grams l n).length) : (Bag.grams l n)[i] = win l i n := by
  simp [Bag.grams, win]
def useds (u : Nat → Bool) : Nat → Value := fun k => .bool (u k)
theorem row_mark {w : World} {b len : Nat} {u : Nat → Bool} (h : w.rowIs b 4 len (useds u)) (k : Nat) : (w.setCell ⟨b, k, none⟩ (.bool true)).rowIs b 4 len (useds (Bag.mark u k)) :=
  (h.set k _).congr (fun j _ => by simp only [useds, Bag.mark]; split <;> rfl)
theorem info4 : (Tryz.prog.info? 4).map (fun i => (i.zero, i.size, i.bytes)) = some (some (.bool false), 1, 1) := by kernel_rfl
set_option maxHeartbeats 6400000 in
set_option maxRecDepth 1000000 in
theorem refMatches_says (a b : Ws) (n : Nat) (w : World) (A C : Option Addr) (cA cC : Nat) (hA : In w A cA a) (hC : In w C cC b) (h1 : 1 ≤ n) (h4 : n ≤ 4) (la : a.length ≤ 512) (lb : b.length ≤ 512) :
    Calls Tryz.prog 30 #[.slice A a.length cA, .slice C b.length cC, .int .i64 n] w fun e w' => e = .returned (.int .i64 (Bag.mt a b n : Nat)) ∧ w.Since w.heap.size w' := by
  have hmk : ∀ w : World, (Instr.makeSlice 104 (.int .i64 (b.length : Int)) (.int .i64 (b.length : Int))).run Tryz.prog w = .ok (.slice (some ⟨w.heap.size, 0, none⟩) b.length b.length) (w.alloc (.cells (madeCells #[.bool false] b.length) 4)) :=
    run_make_row' (P := Tryz.prog) 104 4 (.bool false) 1 Tryz.underlying104 info4 rfl .i64 .i64 b.length (by omega) (by omega)
  have HA := Lib.hid hA
  have HC := Lib.hid hC
  have gla := Bag.grams_length a n
  have glb := Bag.grams_length b n
  have HG := Lib.hid (And.intro gla glb)
  clear hA hC gla glb
  go_enter Tryz.func30, Tryz.ntmps30
  go_wp2
  go_loopg [8, 9] (a.length + 1 - n) (fun g o i wr => ∃ (I N : Nat) (u : Nat → Bool), I ≤ a.length + 1 - n ∧ g = a.length + 1 - n - I ∧ i = .int .i64 I ∧ o = .int .i64 N ∧ N ≤ I ∧
    Hid (N + Bag.mm ((Bag.grams a n).drop I) (Bag.rest (Bag.grams b n) u) = Bag.mt a b n) ∧ Hid (wr.rowIs w.heap.size 4 b.length (useds u)) ∧ Hid (w.Since w.heap.size wr))
  case atStart => exact ⟨0, 0, fun _ => false, by omega, by omega, rfl, rfl, by omega, Lib.hid (by rw [Bag.rest_none]; simp [Bag.mt]), Lib.hid ((World.rowIs_made w _ _ 4).congr (fun _ _ => rfl)), Lib.hid ((World.Since.refl _ _).alloc (Nat.le_refl _) _)⟩
  case round =>
    obtain ⟨I, N, u, hI, rfl, rfl, rfl, hNI, hsum, hrow, hS⟩ := hrel
    by_cases hlt : I + n ≤ a.length
    · obtain ⟨wo, rfl⟩ : ∃ wo, wo = wr := ⟨wr, rfl⟩
      have hdt : decide ((I : Int) + n ≤ (a.length : Int)) = true := decide_eq_true (by omega)
      go_wp2
      go_loopg [8, 10] (b.length + 1 - n) (fun g o k wi => ∃ K : Nat, K ≤ b.length + 1 - n ∧ g = b.length + 1 - n - K ∧ k = .int .i64 K ∧ o = .int .i64 N ∧ Hid (∀ j, j < K → u j = false → win b j n ≠ win a I n) ∧ Same wo wi)
      case atStart => exact ⟨0, by omega, by omega, rfl, rfl, Lib.hid (fun j hj => by omega), Same.refl _⟩
      case round =>
        obtain ⟨K, hK, rfl, rfl, rfl, hno, hsm⟩ := hrel
        have hSi := Lib.hid (hsm.into hS.out)
        have hRi := Lib.hid (hsm.row hrow.out)
        by_cases hltk : K + n ≤ b.length
        · have cu := hRi.out.cell (i := K) (by omega)
          have fu := hRi.out.frozen K
          simp only [useds] at cu
          have gI : I < (Bag.grams a n).length := by rw [HG.out.1]; omega
          have gK : K < (Bag.grams b n).length := by rw [HG.out.2]; omega
          cases hu : u K
          · rw [hu] at cu
            have HU := Lib.hid hu
            have HM := Lib.hid hsm
            clear hu hsm
            go_wp2_with fail
            refine (same_says a b I K n _ A C cA cC (HA.out.up hSi.out) (HC.out.up hSi.out) hlt hltk h4 la lb).mono ?_
            rintro e w2 ⟨z, rfl, hz, hs2⟩
            have hS2 := Lib.hid (hs2.into hSi.out)
            have hR2 := Lib.hid (hs2.row hRi.out)
            have cu2 := hR2.out.cell (i := K) (by omega)
            simp only [useds] at cu2
            have fu2 := hR2.out.frozen K
            cases z
            · have HQ : Hid (∀ j, j < K + 1 → u j = false → win b j n ≠ win a I n) := Lib.hid (fun j hj hj' e => by
                rcases Nat.lt_or_eq_of_le (Nat.le_of_lt_succ hj) with h | h
                · exact hno.out j h hj' e
                · subst h
                  have := hz.2 e.symm
                  cases this)
              have HM2 := Lib.hid (hs2.up (wd := w2) rfl rfl rfl rfl)
              have HM3 : Hid (Same wo w2) := Lib.hid ⟨HM2.out.heap.trans HM.out.heap, HM2.out.os.trans HM.out.os, HM2.out.tape.trans HM.out.tape, HM2.out.output.trans HM.out.output⟩
              clear hz hs2 cu2 fu2 cu fu
              go_wp2_with fail
              go_roundg (b.length + 1 - n - (K + 1))
              case measure => omega
              case rel => exact ⟨K + 1, by omega, rfl, by go_num, rfl, HQ, HM3.out⟩
            · have hw := hz.1 rfl
              have HF : Hid ((N + 1) + Bag.mm ((Bag.grams a n).drop (I + 1)) (Bag.rest (Bag.grams b n) (Bag.mark u K)) = Bag.mt a b n) := Lib.hid (by
                have h0 := hsum.out
                rw [Bag.mm_found gI gK HU.out (by rw [gram_at, gram_at]; exact hw) (fun j hj hj' => by rw [gram_at, gram_at]; exact hno.out j hj hj')] at h0
                omega)
              have HR3 := Lib.hid (row_mark hR2.out K)
              have HS3 := Lib.hid (hS2.out.setCell (a := ⟨w.heap.size, K, none⟩) (Nat.le_refl _) (.bool true))
              clear hz hs2 hw cu fu
              go_wp2_with fail
              go_roundg (a.length + 1 - n - (I + 1))
              case measure => omega
              case rel => exact ⟨I + 1, N + 1, Bag.mark u K, by omega, rfl, by go_num, by go_num, by omega, HF, HR3, HS3⟩
          · rw [hu] at cu
            have HQ : Hid (∀ j, j < K + 1 → u j = false → win b j n ≠ win a I n) := Lib.hid (fun j hj hj' => by
              rcases Nat.lt_or_eq_of_le (Nat.le_of_lt_succ hj) with h | h
              · exact hno.out j h hj'
              · subst h; rw [hu] at hj'; cases hj')
            have HM := Lib.hid hsm
            clear hu hsm
            go_wp2_with fail
            go_roundg (b.length + 1 - n - (K + 1))
            case measure => omega
            case rel => exact ⟨K + 1, by omega, rfl, by go_num, rfl, HQ, HM.out⟩
        · obtain rfl : K = b.length + 1 - n := by omega
          have gI : I < (Bag.grams a n).length := by rw [HG.out.1]; omega
          have HF : Hid (N + Bag.mm ((Bag.grams a n).drop (I + 1)) (Bag.rest (Bag.grams b n) u) = Bag.mt a b n) := Lib.hid (by
            have h0 := hsum.out
            rw [Bag.mm_none gI (fun j hj hj' => by rw [gram_at, gram_at]; exact hno.out j (by rw [HG.out.2] at hj; omega) hj')] at h0
            exact h0)
          clear hsm
          go_wp2_with fail
          go_roundg (a.length + 1 - n - (I + 1))
          case measure => omega
          case rel => exact ⟨I + 1, N, u, by omega, rfl, by go_num, rfl, by omega, HF, hRi, hSi⟩
    · obtain rfl : I = a.length + 1 - n := by omega
      have HF : Hid ((N : Int) = (Bag.mt a b n : Nat)) := Lib.hid (by
        have h0 := hsum.out
        rw [List.drop_of_length_le (by rw [HG.out.1]; exact Nat.le_refl _)] at h0
        simp only [Bag.mm, Nat.add_zero] at h0
        rw [h0])
      clear hsum hrow
      go_wp2
      go_ret
      exact ⟨ret_int HF.out, hS.out⟩
end Go.Proofs.YtkklagdniaoghaaGreatDoor
