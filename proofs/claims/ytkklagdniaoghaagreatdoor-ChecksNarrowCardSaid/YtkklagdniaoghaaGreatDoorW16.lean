/- The walks of gcd, over, Quotient: a quotient in lowest terms. -/
import Derived.Test.YtkklagdniaoghaaGreatDoorW8
import Derived.Test.YtkklagdniaoghaaGreatDoorF1
namespace Go.Proofs.YtkklagdniaoghaaGreatDoor
open Go.RowKit Go.Proofs.MapEnt
open Go.Proofs.Frac (fr fr_zero fr_pos)

theorem Same.frozen {w wd : World} (h : Same w wd) (a : Addr) : wd.frozen? a = w.frozen? a := by simp [World.frozen?, h.heap]
def frV (q : Nat × Nat) : Value := .agg #[.int .i64 (q.1 : Nat), .int .i64 (q.2 : Nat)]
theorem gcd_step (x y : Nat) : Nat.gcd y (x % y) = Nat.gcd x y := by rw [Nat.gcd_comm x y, Nat.gcd_rec y x, Nat.gcd_comm]
set_option maxHeartbeats 1600000 in
set_option maxRecDepth 1000000 in
theorem gcd_says (a b : Nat) (w : World) (ha : a ≤ 9223372036854775807) (hb : b ≤ 9223372036854775807) :
    Calls Tryz.prog 47 #[.int .i64 a, .int .i64 b] w fun e w' => e = .returned (.int .i64 (Nat.gcd a b : Nat)) ∧ Same w w' := by
  go_enter Tryz.func47, Tryz.ntmps47
  go_wp2
  go_loopg [0, 1] b (fun g x y wr => ∃ X Y : Nat, X ≤ 9223372036854775807 ∧ Y ≤ 9223372036854775807 ∧ g = Y ∧ x = .int .i64 X ∧ y = .int .i64 Y ∧ Hid (Nat.gcd X Y = Nat.gcd a b) ∧ Same w wr)
  case atStart => exact ⟨a, b, ha, hb, rfl, rfl, rfl, Lib.hid rfl, Same.refl _⟩
  case round =>
    obtain ⟨X, Y, hX, hY, rfl, rfl, rfl, hg, hS⟩ := hrel
    by_cases hz : gk = 0
    · subst hz
      have HF : Hid ((X : Int) = (Nat.gcd a b : Nat)) := Lib.hid (by rw [← hg.out]; simp)
      have HM := Lib.hid hS
      clear hS hg
      go_wp2
      go_ret
      exact ⟨ret_int HF.out, HM.out⟩
    · have hne : ((gk : Int) == 0) = false := by simp; omega
      have hne2 : ((gk : Int) != 0) = true := by simp; omega
      have HF : Hid (Nat.gcd gk (X % gk) = Nat.gcd a b) := Lib.hid (by rw [gcd_step]; exact hg.out)
      have HM := Lib.hid hS
      have hm : X % gk < gk := Nat.mod_lt _ (by omega)
      clear hS hg
      have hpos : 0 < (gk : Int) := by omega
      go_wp2
      go_region
      go_wp2
      go_roundg (X % gk)
      case measure => omega
      case rel => exact ⟨gk, X % gk, hY, by omega, rfl, rfl, by congr 1, HF, HM.out.up rfl rfl rfl rfl⟩
theorem div_fits {a g : Nat} (h : a ≤ 9223372036854775807) : wrap64 ((a : Int) / g) = ((a / g : Nat) : Int) := by
  have h1 : a / g ≤ a := Nat.div_le_self a g
  rw [← Int.natCast_ediv]
  generalize a / g = q at h1 ⊢
  exact IntWalk.wrap64_in _ (by omega)
theorem ret_fr {x y : Int} {q : Nat × Nat} (h1 : x = (q.1 : Nat)) (h2 : y = (q.2 : Nat)) : Ending.returned (.agg #[.int .i64 x, .int .i64 y]) = .returned (frV q) := by rw [h1, h2]; rfl
set_option maxHeartbeats 1600000 in
set_option maxRecDepth 1000000 in
theorem over_says (a b : Nat) (w : World) (ha : a ≤ 9223372036854775807) (hb : b ≤ 9223372036854775807) :
    Calls Tryz.prog 25 #[.int .i64 a, .int .i64 b] w fun e w' => e = .returned (frV (fr a b)) ∧ w.Since w.heap.size w' := by
  have HS := Lib.hid ((World.Since.refl w.heap.size w).alloc (Nat.le_refl _) (.cells #[.int .i64 0, .int .i64 0] 25))
  by_cases hb0 : b = 0
  · subst hb0
    rw [fr_zero (.inr rfl)]
    go_enter Tryz.func25, Tryz.ntmps25
    go_wp2_with fail
    exact bodyPost_ret (v := .agg #[.int .i64 0, .int .i64 1]) (by simp [results, Tryz.results25, go_sem]) rfl ⟨rfl, (World.Since.refl w.heap.size w).alloc (Nat.le_refl _) _⟩
  have hb1 : ((b : Int) == 0) = false := by simp; omega
  by_cases ha0 : a = 0
  · subst ha0
    rw [fr_zero (.inl rfl)]
    clear hb0
    go_enter Tryz.func25, Tryz.ntmps25
    go_wp2_with fail
    exact bodyPost_ret (v := .agg #[.int .i64 0, .int .i64 1]) (by simp [results, Tryz.results25, go_sem]) rfl ⟨rfl, (World.Since.refl w.heap.size w).alloc (Nat.le_refl _) _⟩
  · have ha1 : ((a : Int) == 0) = false := by simp; omega
    have HR := Lib.hid (fr_pos (n := a) (d := b) (by omega))
    have hgp : 0 < Nat.gcd a b := Nat.gcd_pos_of_pos_left _ (by omega)
    have hg1 : Nat.gcd a b ≤ a := Nat.le_of_dvd (by omega) (Nat.gcd_dvd_left a b)
    have HC := Lib.hid (gcd_says a b (w.alloc (.cells #[.int .i64 0, .int .i64 0] 25)) ha hb)
    obtain ⟨g, hg⟩ : ∃ g, g = Nat.gcd a b := ⟨_, rfl⟩
    rw [← hg] at HR HC hgp hg1
    clear hg
    rw [HR.out]
    clear hb0 ha0 HR
    have hgz : ((g : Int) == 0) = false := by simp; omega
    have hgz2 : ¬ (g : Int) = 0 := by omega
    go_enter Tryz.func25, Tryz.ntmps25
    go_wp2_with fail
    refine HC.out.mono ?_
    rintro e w2 ⟨rfl, hs⟩
    have c0 : w2.cell? ⟨w.heap.size, 0, none⟩ = some (.int .i64 0) := by rw [hs.cell]; simp
    have c1 : w2.cell? ⟨w.heap.size, 1, none⟩ = some (.int .i64 0) := by rw [hs.cell]; simp
    have f0 : w2.frozen? ⟨w.heap.size, 0, none⟩ = false := by rw [hs.frozen]; simp
    have f1 : w2.frozen? ⟨w.heap.size, 1, none⟩ = false := by rw [hs.frozen]; simp
    have HS2 := Lib.hid (hs.into HS.out)
    clear hs
    go_wp2_with fail
    go_region
    all_goals go_wp2_with fail
    all_goals exact bodyPost_ret (v := .agg #[.int .i64 (wrap64 ((a : Int) / g)), .int .i64 (wrap64 ((b : Int) / g))]) (by simp [results, Tryz.results25, go_sem, c0, c1]) rfl ⟨ret_fr (div_fits ha) (div_fits hb), ((HS2.out.setCell (Nat.le_refl _) _).setCell (Nat.le_refl _) _).drew⟩


set_option maxHeartbeats 3200000 in
set_option maxRecDepth 1000000 in
theorem quot_says (a b : Nat) (w : World) (ha : a ≤ 9223372036854775807) (hb : b ≤ 9223372036854775807) :
    Calls Tryz.prog 32 #[.int .i64 a, .int .i64 b] w fun e w' => e = .returned (frV (fr a b)) ∧ w.Since w.heap.size w' := by
  have HS := Lib.hid ((World.Since.refl w.heap.size w).alloc (Nat.le_refl _) (.cells #[.int .i64 0, .int .i64 0] 25))
  by_cases ha0 : a = 0
  · subst ha0
    rw [fr_zero (.inl rfl)]
    go_enter Tryz.func32, Tryz.ntmps32
    go_wp2_with fail
    exact bodyPost_ret (v := .agg #[.int .i64 0, .int .i64 1]) (by simp [results, Tryz.results32, go_sem]) rfl ⟨rfl, (World.Since.refl w.heap.size w).alloc (Nat.le_refl _) _⟩
  have ha1 : ((a : Int) == 0) = false := by simp; omega
  by_cases hb0 : b = 0
  · subst hb0
    rw [fr_zero (.inr rfl)]
    clear ha0
    go_enter Tryz.func32, Tryz.ntmps32
    go_wp2_with fail
    exact bodyPost_ret (v := .agg #[.int .i64 0, .int .i64 1]) (by simp [results, Tryz.results32, go_sem]) rfl ⟨rfl, (World.Since.refl w.heap.size w).alloc (Nat.le_refl _) _⟩
  · have hb1 : ((b : Int) == 0) = false := by simp; omega
    have HR := Lib.hid (fr_pos (n := a) (d := b) (by omega))
    have hgp := Lib.hid (Nat.gcd_pos_of_pos_left b (show 0 < a by omega))
    clear hb0 ha0
    go_enter Tryz.func32, Tryz.ntmps32
    go_wp2_with fail
    obtain ⟨w1, hw1⟩ : ∃ w1, w1 = w.alloc (.cells #[.int .i64 0, .int .i64 0] 25) := ⟨_, rfl⟩
    have C0 : Hid (w1.cell? ⟨w.heap.size, 0, none⟩ = some (.int .i64 0) ∧ w1.cell? ⟨w.heap.size, 1, none⟩ = some (.int .i64 0) ∧ w1.frozen? ⟨w.heap.size, 0, none⟩ = false ∧ w1.frozen? ⟨w.heap.size, 1, none⟩ = false) := Lib.hid (by rw [hw1]; simp)
    rw [← hw1] at HS ⊢
    clear hw1
    go_loopg [5, 6] b (fun g x y wr => ∃ X Y : Nat, X ≤ 9223372036854775807 ∧ Y ≤ 9223372036854775807 ∧ g = Y ∧ x = .int .i64 X ∧ y = .int .i64 Y ∧ Hid (Nat.gcd X Y = Nat.gcd a b) ∧ Same w1 wr)
    case atStart => exact ⟨a, b, ha, hb, rfl, rfl, rfl, Lib.hid rfl, Same.refl _⟩
    case round =>
      obtain ⟨X, Y, hX, hY, rfl, rfl, rfl, hg, hS⟩ := hrel
      by_cases hz : gk = 0
      · subst hz
        have HF : Hid (X = Nat.gcd a b) := Lib.hid (by rw [← hg.out]; simp)
        have hgz : ((X : Int) == 0) = false := by have := HF.out; have := hgp.out; simp; omega
        have hgz2 : ¬ (X : Int) = 0 := by have := HF.out; have := hgp.out; omega
        have c0 : wr.cell? ⟨w.heap.size, 0, none⟩ = some (.int .i64 0) := by rw [hS.cell]; exact C0.out.1
        have c1 : wr.cell? ⟨w.heap.size, 1, none⟩ = some (.int .i64 0) := by rw [hS.cell]; exact C0.out.2.1
        have f0 : wr.frozen? ⟨w.heap.size, 0, none⟩ = false := by rw [hS.frozen]; exact C0.out.2.2.1
        have f1 : wr.frozen? ⟨w.heap.size, 1, none⟩ = false := by rw [hS.frozen]; exact C0.out.2.2.2
        have HS2 := Lib.hid (hS.into HS.out)
        clear hS hg
        go_wp2_with fail
        go_region
        all_goals go_wp2_with fail
        all_goals exact bodyPost_ret (v := .agg #[.int .i64 (wrap64 ((a : Int) / X)), .int .i64 (wrap64 ((b : Int) / X))]) (by simp [results, Tryz.results32, go_sem, c0, c1]) rfl ⟨ret_fr (by rw [HR.out, ← HF.out]; exact div_fits ha) (by rw [HR.out, ← HF.out]; exact div_fits hb), ((HS2.out.setCell (Nat.le_refl _) _).setCell (Nat.le_refl _) _).drew⟩
      · have hne : ((gk : Int) == 0) = false := by simp; omega
        have hne2 : ((gk : Int) != 0) = true := by simp; omega
        have HF : Hid (Nat.gcd gk (X % gk) = Nat.gcd a b) := Lib.hid (by rw [gcd_step]; exact hg.out)
        have HM := Lib.hid hS
        have hm : X % gk < gk := Nat.mod_lt _ (by omega)
        clear hS hg
        have hpos : 0 < (gk : Int) := by omega
        go_wp2
        go_region
        go_wp2
        go_roundg (X % gk)
        case measure => omega
        case rel => exact ⟨gk, X % gk, hY, by omega, rfl, rfl, by congr 1, HF, HM.out.up rfl rfl rfl rfl⟩
end Go.Proofs.YtkklagdniaoghaaGreatDoor
