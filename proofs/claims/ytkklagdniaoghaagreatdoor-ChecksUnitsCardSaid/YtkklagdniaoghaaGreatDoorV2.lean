/- The walks of plus: the sum of two quotients. -/
import Derived.Test.YtkklagdniaoghaaGreatDoorW16
import Derived.Outline
import Derived.StillTailTactics
namespace Go.Proofs.YtkklagdniaoghaaGreatDoor
open Go.RowKit
open Go.Proofs.Frac hiding fr fr_zero fr_pos
open Go.Proofs.Frac (fr fr_zero fr_pos)

def plusR (a b : Nat × Nat) : Nat × Nat := fr (a.1 * b.2 + b.1 * a.2) (a.2 * b.2)
/-- Small enough to be added. -/
def Small (a : Nat × Nat) : Prop := a.1 ≤ 1000000000 ∧ a.2 ≤ 1000000000 ∧ 0 < a.2
theorem mul_small {a b : Nat} (ha : a ≤ 1000000000) (hb : b ≤ 1000000000) : a * b ≤ 1000000000000000000 := Nat.mul_le_mul ha hb
theorem wrap_mul {a b : Nat} (h : a * b ≤ 9223372036854775807) : IntKind.i64.wrap ((a : Int) * b) = ((a * b : Nat) : Int) := by
  rw [← Int.natCast_mul]
  generalize a * b = q at h ⊢
  exact IntWalk.i64_in _ (by omega)
set_option maxHeartbeats 3200000 in
set_option maxRecDepth 1000000 in
theorem refPlus_says (a b : Nat × Nat) (w : World) (ha : Small a) (hb : Small b) :
    Calls Tryz.prog 31 #[frV a, frV b] w fun e w' => e = .returned (frV (plusR a b)) ∧ w.Since w.heap.size w' := by
  obtain ⟨a1, a2⟩ := a
  obtain ⟨b1, b2⟩ := b
  obtain ⟨l1, l2, l3⟩ := ha
  obtain ⟨l4, l5, l6⟩ := hb
  simp only at l1 l2 l3 l4 l5 l6
  have hx := mul_small l1 l5
  have hy := mul_small l4 l2
  have hz := mul_small l2 l5
  have ex := wrap_mul (a := a1) (b := b2) (by omega)
  have ey := wrap_mul (a := b1) (b := a2) (by omega)
  have ez := wrap_mul (a := a2) (b := b2) (by omega)
  have HR : Hid (plusR (a1, a2) (b1, b2) = fr (a1 * b2 + b1 * a2) (a2 * b2)) := Lib.hid rfl
  generalize a1 * b2 = x at *
  generalize b1 * a2 = y at *
  generalize a2 * b2 = z at *
  have K := fun (wx : World) => quot_says (x + y) z wx (by omega) (by omega)
  simp only [Int.natCast_add] at K
  have HK := Lib.hid K
  rw [HR.out]
  clear K HR
  generalize fr (x + y) z = q at HK ⊢
  obtain ⟨q1, q2⟩ := q
  unfold frV at HK ⊢
  simp only at HK ⊢
  have HS := Lib.hid (since_alloc (since_alloc (since_alloc (World.Since.refl w.heap.size w) (.cells #[.int .i64 a1, .int .i64 a2] 25)) (.cells #[.int .i64 b1, .int .i64 b2] 25)) (.cells #[.int .i64 0, .int .i64 0] 25))
  go_enter Tryz.func31, Tryz.ntmps31
  go_wp2_with fail
  refine (HK.out _).mono ?_
  rintro e w2 ⟨rfl, hs⟩
  generalize hw3 : ((w.alloc (.cells #[.int .i64 a1, .int .i64 a2] 25)).alloc (.cells #[.int .i64 b1, .int .i64 b2] 25)) = w3 at hs HS ⊢
  have hsz : w3.heap.size = w.heap.size + 1 + 1 := by rw [← hw3]; simp
  rw [← hsz]
  have c0 : w2.cell? ⟨w3.heap.size, 0, none⟩ = some (.int .i64 0) := by rw [hs.cell (by simp)]; simp
  have c1 : w2.cell? ⟨w3.heap.size, 1, none⟩ = some (.int .i64 0) := by rw [hs.cell (by simp)]; simp
  have f0 : w2.frozen? ⟨w3.heap.size, 0, none⟩ = false := by rw [hs.frozen (by simp)]; simp
  have f1 : w2.frozen? ⟨w3.heap.size, 1, none⟩ = false := by rw [hs.frozen (by simp)]; simp
  have HS2 := Lib.hid (since_two HS.out hs)
  have hle : w.heap.size ≤ w3.heap.size := by omega
  clear hs HS hw3 hsz
  go_wp2_with fail
  exact bodyPost_ret (v := .agg #[.int .i64 q1, .int .i64 q2]) (by simp [results, Tryz.results31, go_sem, c0, c1]) rfl ⟨rfl, ((HS2.out.setCell hle _).setCell hle _)⟩

theorem wp_still_tail'' {P : Program} {id : Nat} {Q : Exit → Act → World → Prop} {a : Act} {w : World} {l : List Oper} (n : Nat) (hm : P.follows .mixedOrders = true) (hB : Region.lexTailB .any l.toArray n = true)
    (h : wpStill P l.toArray w.drew (fun a' => wpList P l.toArray Q (l.drop n) a' w.drew) (l.take n) a) : (Code.region id l.toArray true).wp P Q a w :=
  wp_region_still_tail n hm hB h
theorem wrap_mul6 {a b : Nat} (h : a * b ≤ 9223372036854775807) : wrap64 ((a : Int) * b) = ((a * b : Nat) : Int) := by
  rw [← Int.natCast_mul]
  generalize a * b = q at h ⊢
  exact IntWalk.wrap64_in _ (by omega)
theorem wrap_add6 {x y : Nat} (hx : x ≤ 1000000000000000000) (hy : y ≤ 1000000000000000000) : wrap64 ((x : Int) + (y : Int)) = (x : Int) + (y : Int) := IntWalk.wrap64_in _ (by omega)
theorem div_small {a g : Nat} (h : a ≤ 1000000000) : a / g ≤ 1000000000 := Nat.le_trans (Nat.div_le_self a g) h
set_option maxHeartbeats 3200000 in
set_option maxRecDepth 1000000 in
theorem plus_says (a b : Nat × Nat) (w : World) (ha : Small a) (hb : Small b) :
    Calls Tryz.prog 27 #[frV a, frV b] w fun e w' => e = .returned (frV (plusR a b)) ∧ w.Since w.heap.size w' := by
  obtain ⟨a1, a2⟩ := a
  obtain ⟨b1, b2⟩ := b
  obtain ⟨l1, l2, l3⟩ := ha
  obtain ⟨l4, l5, l6⟩ := hb
  simp only at l1 l2 l3 l4 l5 l6
  have HG := Lib.hid (fun (wx : World) => gcd_says a2 b2 wx (by omega) (by omega))
  have HR : Hid (plusR (a1, a2) (b1, b2) = fr (a1 * (b2 / Nat.gcd a2 b2) + b1 * (a2 / Nat.gcd a2 b2)) (a2 / Nat.gcd a2 b2 * b2)) := Lib.hid (plus_eq l3 l6).symm
  have hg : 0 < Nat.gcd a2 b2 := Nat.gcd_pos_of_pos_left _ l3
  generalize Nat.gcd a2 b2 = g at *
  have h1 := div_small (g := g) l2
  have h2 := div_small (g := g) l5
  have d1 := div_fits (a := a2) (g := g) (by omega)
  have d2 := div_fits (a := b2) (g := g) (by omega)
  generalize a2 / g = c1 at *
  generalize b2 / g = c2 at *
  have hgz : ((g : Int) == 0) = false := by simp; omega
  have hgz2 : ¬ (g : Int) = 0 := by omega
  have hgz3 : (g : Int) ≠ 0 := by omega
  have hgz4 : 0 < (g : Int) := by omega
  have hgz5 : g ≠ 0 := by omega
  have hx := mul_small l1 h2
  have hy := mul_small l4 h1
  have hz := mul_small h1 l5
  have ex := wrap_mul (a := a1) (b := c2) (by omega)
  have ey := wrap_mul (a := b1) (b := c1) (by omega)
  have ez := wrap_mul (a := c1) (b := b2) (by omega)
  have ex6 := wrap_mul6 (a := a1) (b := c2) (by omega)
  have ey6 := wrap_mul6 (a := b1) (b := c1) (by omega)
  have ez6 := wrap_mul6 (a := c1) (b := b2) (by omega)
  generalize a1 * c2 = x at *
  generalize b1 * c1 = y at *
  generalize c1 * b2 = z at *
  have es6 : wrap64 ((x : Int) + (y : Int)) = (x : Int) + (y : Int) := wrap_add6 hx hy
  have EE : Hid (wrap64 (wrap64 (↑a1 * wrap64 (↑b2 / ↑g)) + wrap64 (↑b1 * wrap64 (↑a2 / ↑g))) = (x : Int) + (y : Int) ∧ wrap64 (wrap64 (↑a2 / ↑g) * ↑b2) = (z : Int)) := Lib.hid ⟨by rw [d1, d2, ex6, ey6, es6], by rw [d1, ez6]⟩
  clear ex6 ey6 ez6 es6
  have K := fun (wx : World) => over_says (x + y) z wx (by omega) (by omega)
  simp only [Int.natCast_add] at K
  have HK := Lib.hid K
  rw [HR.out]
  clear K HR
  generalize fr (x + y) z = q at HK ⊢
  obtain ⟨q1, q2⟩ := q
  unfold frV at HK ⊢
  simp only at HK ⊢
  have HS := Lib.hid (since_alloc (since_alloc (since_alloc (World.Since.refl w.heap.size w) (.cells #[.int .i64 a1, .int .i64 a2] 25)) (.cells #[.int .i64 b1, .int .i64 b2] 25)) (.cells #[.int .i64 0, .int .i64 0] 25))
  go_enter Tryz.func27, Tryz.ntmps27
  go_wp2_with fail
  refine (HG.out _).mono ?_
  rintro e w2 ⟨rfl, hs⟩
  have E : Hid (w2.heap.size = w.heap.size + 1 + 1 + 1) := Lib.hid (by rw [hs.heap]; simp)
  have Q : Hid ((w2.cell? ⟨w.heap.size, 0, none⟩ = some (.int .i64 a1) ∧ w2.cell? ⟨w.heap.size, 1, none⟩ = some (.int .i64 a2)) ∧ (w2.cell? ⟨w.heap.size + 1, 0, none⟩ = some (.int .i64 b1) ∧ w2.cell? ⟨w.heap.size + 1, 1, none⟩ = some (.int .i64 b2)) ∧ (w2.cell? ⟨w.heap.size + 1 + 1, 0, none⟩ = some (.int .i64 0) ∧ w2.cell? ⟨w.heap.size + 1 + 1, 1, none⟩ = some (.int .i64 0)) ∧ (w2.frozen? ⟨w.heap.size + 1 + 1, 0, none⟩ = false ∧ w2.frozen? ⟨w.heap.size + 1 + 1, 1, none⟩ = false)) := Lib.hid (by
    simp only [hs.cell, hs.frozen]
    simp [go_sem])
  have S2 := Lib.hid (hs.into HS.out).drew
  clear hs HS HG
  have q1' := Q.out.1.1
  have q2' := Q.out.1.2
  have q3' := Q.out.2.1.1
  have q4' := Q.out.2.1.2
  go_wp2_with fail
  have R : Hid (∀ w3 : World, World.Since w2.drew.heap.size w2.drew w3 → (w3.cell? ⟨w.heap.size + 1 + 1, 0, none⟩ = some (.int .i64 0) ∧ w3.cell? ⟨w.heap.size + 1 + 1, 1, none⟩ = some (.int .i64 0)) ∧ (w3.frozen? ⟨w.heap.size + 1 + 1, 0, none⟩ = false ∧ w3.frozen? ⟨w.heap.size + 1 + 1, 1, none⟩ = false) ∧ w.Since w.heap.size w3) := Lib.hid (by
    intro w3 hs
    have hE := E.out
    have h2 : w.heap.size + 1 + 1 < w2.drew.heap.size := by show _ < w2.heap.size; omega
    refine ⟨⟨?_, ?_⟩, ⟨?_, ?_⟩, since_two S2.out hs⟩
    · rw [hs.cell h2]; exact Q.out.2.2.1.1
    · rw [hs.cell h2]; exact Q.out.2.2.1.2
    · rw [hs.frozen h2]; exact Q.out.2.2.2.1
    · rw [hs.frozen h2]; exact Q.out.2.2.2.2)
  have hle1 : w.heap.size ≤ w.heap.size + 1 + 1 := by omega
  refine wp_still_tail'' 22 (by kernel_rfl) (by kernel_rfl) ?_
  simp only [List.take_succ_cons, List.take_zero, List.drop_succ_cons, List.drop_zero]
  iterate 22 still_step
  refine wpStill_nil ?_
  go_wp2_with fail
  rw [EE.out.1, EE.out.2]
  refine (HK.out _).mono ?_
  rintro e w3 ⟨rfl, hs⟩
  obtain ⟨⟨c0, c1⟩, ⟨f0, f1⟩, s3⟩ := R.out _ hs
  have S3 := Lib.hid s3
  clear s3 hs
  all_goals go_wp2_with fail
  all_goals exact bodyPost_ret (v := .agg #[.int .i64 q1, .int .i64 q2]) (by simp [results, Tryz.results27, go_sem, c0, c1]) rfl ⟨rfl, ((S3.out.setCell hle1 _).setCell hle1 _)⟩
end Go.Proofs.YtkklagdniaoghaaGreatDoor
