/- The walk of many: it answers, and leaves all as it was. -/
import Derived.Test.YtdiamfejibicbaaGreatDoorS1
namespace Go.Proofs.YtdiamfejibicbaaGreatDoor
open Go.RowKit Go.Proofs.Lev

/-- Three lists, laid side by side in block bs. -/
structure Three (w : World) (B bs : Nat) (Ad : Nat → Option Addr) (ls : Nat → Ws) (cp : Nat → Nat) : Prop where
  cell : ∀ i, i < 3 → w.cell? ⟨bs, i, none⟩ = some (.slice (Ad i) (ls i).length (cp i))
  at_ : ∀ i, i < 3 → StrAt w B (Ad i) (ls i)

def isB (e : Ending) : Prop := ∃ v, e = .returned (.bool v)
theorem isB_mk (v : Bool) : isB (.returned (.bool v)) := ⟨v, rfl⟩
set_option maxHeartbeats 1600000 in
set_option maxRecDepth 1000000 in
theorem many_any (w : World) (B bs : Nat) (Ad : Nat → Option Addr) (ls : Nat → Ws) (cp : Nat → Nat) (hT : Three w B bs Ad ls cp) (hlen : ∀ i, i < 3 → (ls i).length ≤ 9223372036854775807) :
    Calls Tryz.prog 4 #[.slice (some ⟨bs, 0, none⟩) 3 3] w fun e w' => isB e ∧ w' = w := by
  go_enter Tryz.func4, Tryz.ntmps4
  go_wp2
  go_loopg [3, 4] 3 (fun g n i wr => ∃ (I : Nat) (N : Int), I ≤ 3 ∧ g = 3 - I ∧ i = .int .i64 I ∧ n = .int .i64 N ∧ wr = w)
  case atStart => exact ⟨0, 0, by omega, by omega, rfl, rfl, rfl⟩
  case round =>
    obtain ⟨I, N, hI, rfl, rfl, rfl, rfl⟩ := hrel
    by_cases hI3 : I < 3
    · have c0 := hT.cell I hI3
      have hl := hlen I hI3
      have hS := hT.at_ I hI3
      generalize ls I = l at *
      generalize Ad I = A at *
      generalize cp I = cA at *
      go_wp2
      all_goals first
        | (go_ret; exact ⟨isB_mk _, rfl⟩)
        | (go_loopg [3, 5] l.length (fun g n k w2 => ∃ (K : Nat) (M : Int), K ≤ l.length ∧ g = l.length - K ∧ k = .int .i64 K ∧ n = .int .i64 M ∧ w2 = wr)
           case atStart => exact ⟨0, _, by omega, by omega, rfl, rfl, rfl⟩
           case round =>
             obtain ⟨K, M, hK, rfl, rfl, rfl, rfl⟩ := hrel
             by_cases hK3 : K < l.length
             · obtain ⟨ad, rfl, had, ca⟩ := hS.at_ K hK3
               generalize l[K] = x at *
               go_wp2
               go_roundg (l.length - (K + 1))
               case measure => omega
               case rel => exact ⟨K + 1, _, by omega, rfl, by go_num, rfl, rfl⟩
             · go_wp2
               go_roundg (3 - (I + 1))
               case measure => omega
               case rel => exact ⟨I + 1, _, by omega, rfl, by go_num, rfl, rfl⟩)
    · go_wp2
      go_ret
      exact ⟨isB_mk _, rfl⟩
def sel {α : Type} (x y z : α) (i : Nat) : α := match i with | 0 => x | 1 => y | _ => z
theorem three_at {w : World} {a b c : Ws} {A C D : Option Addr} {cA cC cD : Nat} (hA : StrAt w w.heap.size A a) (hC : StrAt w w.heap.size C b) (hD : StrAt w w.heap.size D c) :
    Three (w.alloc (.cells #[.slice A a.length cA, .slice C b.length cC, .slice D c.length cD] 22)) w.heap.size w.heap.size (sel A C D) (sel a b c) (sel cA cC cD) where
  cell := fun i hi => by
    match i, hi with
    | 0, _ => simp [sel]
    | 1, _ => simp [sel]
    | 2, _ => simp [sel]
  at_ := fun i hi => by
    have hs := (World.Since.refl w.heap.size w).alloc (Nat.le_refl _) (.cells #[.slice A a.length cA, .slice C b.length cC, .slice D c.length cD] 22)
    match i, hi with
    | 0, _ => exact hA.below hs (Nat.le_refl _)
    | 1, _ => exact hC.below hs (Nat.le_refl _)
    | 2, _ => exact hD.below hs (Nat.le_refl _)
end Go.Proofs.YtdiamfejibicbaaGreatDoor
