/- The walks of the specification's single: a text's runes as words. -/
import Derived.Test.YtkklagdniaoghaaGreatDoorV3
import Derived.Laws.IdiomStrings
namespace Go.Proofs.YtkklagdniaoghaaGreatDoor
open Go.RowKit Go.Proofs.Uni Go.Proofs.StrIt

theorem conv_half (s : ByteArray) : ∀ (bound pos : Nat) (rs : List Nat), Half s pos rs → s.size - pos ≤ bound →
    Conv.runesFrom s bound pos (rs.map fun (r : Nat) => Value.int .i32 (r : Int)).toArray = ((runes s.data.toList).map fun (r : Nat) => Value.int .i32 (r : Int)).toArray := by
  intro bound
  induction bound with
  | zero =>
    intro pos rs h hb
    rw [half_end h (by omega)]
    rfl
  | succ b ih =>
    intro pos rs h hb
    by_cases hp : pos < s.size
    · have hw := Lib.width_pos s pos
      have h2 := half_step h hp
      have := ih _ _ h2 (by omega)
      rw [← this]
      simp [Conv.runesFrom, hp]
    · rw [half_end h hp]
      simp [Conv.runesFrom, hp]
/-- A text's runes as a row in memory. -/
def runeCells (s : ByteArray) (cap : Nat) : Array Value := ((runes s.data.toList).map fun (r : Nat) => Value.int .i32 (r : Int)).toArray ++ Array.replicate (cap - (runes s.data.toList).length) (.int .i32 0)
theorem conv_runes (s : ByteArray) (w : World) (hs : s.size ≤ 100000000) : ∃ cap, (runes s.data.toList).length ≤ cap ∧
    (convert 9 103 (.string s)).run Tryz.prog w = .ok (.slice (some ⟨w.heap.size, 0, none⟩) (runes s.data.toList).length cap) (w.drew.alloc (.cells (runeCells s cap) 21)) := by
  have e := conv_half s s.size 0 [] (half_start s) (by omega)
  have hz : (Conv.runesFrom s s.size 0 #[]).size = (runes s.data.toList).length := by
    have := congrArg Array.size e
    simpa using this
  have hl : (runes s.data.toList).length ≤ s.size := Nat.le_trans (runes_len _) (Nat.le_of_eq Array.length_toList)
  have h := run_runes_of_string (P := Tryz.prog) w 9 103 21 s Tryz.underlying9 Tryz.underlying103 Tryz.underlying21 (by rw [hz]; omega)
  have hge := grownCap_ge w (Conv.runesFrom s s.size 0 #[]).size 0 21
  rw [hz] at h hge
  refine ⟨_, hge, h.trans ?_⟩
  have e2 : Conv.runesFrom s s.size 0 #[] = ((runes s.data.toList).map fun (r : Nat) => Value.int .i32 (r : Int)).toArray := e
  rw [e2]
  rfl
theorem rune_cell (s : ByteArray) (cap : Nat) (j : Nat) (h : j < (runes s.data.toList).length) : (runeCells s cap)[j]? = some (.int .i32 ((runes s.data.toList)[j] : Int)) := by
  unfold runeCells
  rw [Array.getElem?_append_left (by simpa using h)]
  simp [h]
set_option maxHeartbeats 6400000 in
set_option maxRecDepth 1000000 in
theorem single_says (s : ByteArray) (w : World) (hs : s.size ≤ 100000000) : Calls Tryz.prog 29 #[.string s] w (UniSay s w) := by
  obtain ⟨i9, hi9, hz90, hz91, hz92⟩ := info_parts info9
  obtain ⟨cap, hcap, hconv⟩ := conv_runes s w hs
  have HL : (runes s.data.toList).length ≤ s.size := Nat.le_trans (runes_len _) (Nat.le_of_eq Array.length_toList)
  have HC : Hid (∀ j (h : j < (runes s.data.toList).length), (w.drew.alloc (.cells (runeCells s cap) 21)).cell? ⟨w.heap.size, j, none⟩ = some (.int .i32 ((runes s.data.toList)[j] : Int))) := Lib.hid fun j h => by
    rw [← rune_cell s cap j h]
    exact World.cell?_alloc_at _ _ _ _ rfl
  have S0 : Hid (w.Since w.heap.size (w.drew.alloc (.cells (runeCells s cap) 21))) := Lib.hid (World.Since.alloc (World.Since.refl w.heap.size w).drew (Nat.le_refl _) _)
  have Z0 : Hid (w.heap.size + 1 ≤ (w.drew.alloc (.cells (runeCells s cap) 21)).heap.size) := Lib.hid (by simp)
  have HU : Hid (uni s = (runes s.data.toList).map Uni.enc) := Lib.hid rfl
  have HQ : Hid (UniSay s w = fun e w' => ∃ A c, e = .returned (.slice A (uni s).length c) ∧ In w' A c (uni s) ∧ w.Since w.heap.size w') := Lib.hid rfl
  rw [HQ.out, HU.out]
  clear HQ HU
  generalize runeCells s cap = cells at *
  generalize runes s.data.toList = rs at *
  generalize hw0 : w.drew.alloc (.cells cells 21) = w0 at *
  clear hw0
  go_enter Tryz.func29, Tryz.ntmps29
  go_wp2_with fail
  go_loopg [4, 5] rs.length (fun g o i wr => ∃ I : Nat, I ≤ rs.length ∧ g = rs.length - I ∧ i = .int .i64 I ∧ Hid (wr.ownsRow (w.heap.size + 1) 9 1 o I (((rs.take I).map Uni.enc).map fun x => .string x)) ∧ Hid (∀ j (h : j < rs.length), wr.cell? ⟨w.heap.size, j, none⟩ = some (.int .i32 (rs[j] : Int))) ∧ Hid (w.Since w.heap.size wr) ∧ Hid (w.heap.size + 1 ≤ wr.heap.size))
  case atStart => exact ⟨0, by omega, by omega, rfl, Lib.hid (World.ownsRow_nil _ _ _ _), HC, S0, Z0⟩
  case round =>
    obtain ⟨I, hI, rfl, rfl, hO, hC, hS, hZ⟩ := hrel
    by_cases hlt : I < rs.length
    · have hlt2 : (I : Int) < (rs.length : Int) := by omega
      have hc := hC.out I hlt
      have hE : Hid (rs.take (I + 1) = rs.take I ++ [rs[I]]) := Lib.hid (List.take_succ_eq_append_getElem hlt)
      have hz := enc_size rs[I]
      generalize rs[I] = r at *
      have hcz : I ≤ cap := by omega
      go_wp2_with (first | (at_builtin; refine wpList_append_own _ rfl _ _ 56 rfl (w.heap.size + 1) 9 i9 (.string ByteArray.empty) 1 16 Tryz.underlying56 hi9 hz90 hz91 hz92 rfl (by decide) _ I _ rfl (hO.out.alloc _) ⟨wr.heap.size, 0, none⟩ 1 1 [.string (Utf8.encode (r : Int))] rfl rfl ?c1 ?c2 ?c3 ?c4 ?c5 ?_))
      case c1 =>
        intro j u hj
        match j, hj with
        | 0, hj => simp at hj; subst hj; simp only [Addr.add]; exact cell_new rfl
      case c2 => intro u hu; simp at hu; subst hu; rfl
      case c3 => unfold maxLen; omega
      case c4 => have := hZ.out; simp; omega
      case c5 => have := hZ.out; simp; omega
      intro v' w1 hown' hgrow _
      have hzz := hZ.out
      have R1 : Hid (w1.ownsRow (w.heap.size + 1) 9 1 v' (I + 1) (((rs.take (I + 1)).map Uni.enc).map fun x => .string x)) := Lib.hid (by
        rw [hE.out]
        simp only [List.map_append, List.map_map, List.map_take]
        exact hown')
      have S1 := Lib.hid (since_grown (since_alloc hS.out _) (by simp; omega) hgrow (fun k e => by have := (hO.out.lt k e).1; omega))
      have C1 : Hid (∀ j (h : j < rs.length), w1.cell? ⟨w.heap.size, j, none⟩ = some (.int .i32 (rs[j] : Int))) := Lib.hid fun j h => by
        have hb : w1.heap[w.heap.size]? = wr.heap[w.heap.size]? := by
          rw [hgrow.block w.heap.size (by simp; omega) (fun e => by have := (hO.out.lt _ e.symm).1; omega)]
          exact ((World.Since.refl wr.heap.size wr).alloc (Nat.le_refl _) _).block w.heap.size (by omega)
        rw [← hC.out j h]
        simp only [World.cell?, hb]
      have Z1 : Hid (w.heap.size + 1 ≤ w1.heap.size) := Lib.hid (by have := hgrow.size; simp at this; omega)
      clear hown' hgrow hO hS hC hZ hzz hc hcz
      go_wp2_with fail
      go_roundg (rs.length - (I + 1))
      case measure => omega
      case rel => exact ⟨I + 1, by omega, rfl, by go_num, R1, C1, S1, Z1⟩
    · obtain rfl : I = rs.length := by omega
      have HI := Lib.hid (in_of hO.out (by simp) (fun x hx => by
        obtain ⟨r, _, rfl⟩ := List.mem_map.1 hx
        exact Nat.le_trans (enc_size r) (by unfold maxLen; omega)))
      rw [List.take_length] at HI
      obtain ⟨A, c, rfl, hIn⟩ := HI.out
      have HU : Hid (∃ A' c', Ending.returned (.slice A (rs.map Uni.enc).length c) = .returned (.slice A' (rs.map Uni.enc).length c') ∧ In wr A' c' (rs.map Uni.enc) ∧ w.Since w.heap.size wr) := Lib.hid ⟨A, c, rfl, hIn, hS.out⟩
      clear HI hIn hO hC
      go_wp2_with fail
      go_ret
      exact HU.out
end Go.Proofs.YtkklagdniaoghaaGreatDoor
