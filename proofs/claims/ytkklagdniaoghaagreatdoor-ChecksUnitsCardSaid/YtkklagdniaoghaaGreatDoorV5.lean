/- The walk of the specification's Text. -/
import Derived.Test.YtkklagdniaoghaaGreatDoorV4
import Derived.Laws.Cover4
namespace Go.Proofs.YtkklagdniaoghaaGreatDoor
open Go.RowKit Go.Proofs.Uni Go.Proofs.StrIt

/-- A string is a text: UTF-8, no control rune. -/
def isT (s : ByteArray) : Bool := decide (cat (runes s.data.toList) = s.data.toList) && !(runes s.data.toList).any ctl
theorem foldl_cat (ns : List Nat) : ∀ b : ByteArray, ((ns.map fun (r : Nat) => (r : Int)).foldl (fun r n => r ++ Utf8.encode n) b).data.toList = b.data.toList ++ cat ns := by
  induction ns with
  | nil => intro b; simp [cat]
  | cons n ns ih =>
    intro b
    rw [List.map_cons, List.foldl_cons, ih]
    simp [cat, Uni.enc]
theorem runesBytes_cat (ns : List Nat) : (runesBytes (ns.map fun (r : Nat) => (r : Int))).data.toList = cat ns := by
  unfold runesBytes
  rw [foldl_cat]
  rfl
theorem runesBytes_iff (ns : List Nat) (s : ByteArray) : runesBytes (ns.map fun (r : Nat) => (r : Int)) = s ↔ cat ns = s.data.toList := by
  constructor
  · intro h
    rw [← h, runesBytes_cat]
  · intro h
    apply ByteArray.ext
    apply Array.toList_inj.1
    rw [runesBytes_cat, h]
theorem any_take {rs : List Nat} {I : Nat} (h : I < rs.length) : (rs.take (I + 1)).any ctl = ((rs.take I).any ctl || ctl rs[I]) := by
  rw [List.take_succ_eq_append_getElem h, List.any_append]
  simp
theorem any_of {rs : List Nat} {I : Nat} (h : I < rs.length) (hc : ctl rs[I] = true) : rs.any ctl = true := List.any_eq_true.2 ⟨_, List.getElem_mem h, hc⟩
set_option maxHeartbeats 6400000 in
set_option maxRecDepth 1000000 in
theorem refText_says (s : ByteArray) (w : World) (hs : s.size ≤ 100000000) : Calls Tryz.prog 28 #[.string s] w fun e w' => e = .returned (.bool (isT s)) ∧ w.Since w.heap.size w' := by
  obtain ⟨cap, hcap, hconv⟩ := conv_runes s w hs
  have HL : (runes s.data.toList).length ≤ s.size := Nat.le_trans (runes_len _) (Nat.le_of_eq Array.length_toList)
  have hC0 : ∀ j (h : j < (runes s.data.toList).length), (w.drew.alloc (.cells (runeCells s cap) 21)).cell? ⟨w.heap.size, j, none⟩ = some (.int .i32 ((runes s.data.toList)[j] : Int)) := fun j h => by
    rw [← rune_cell s cap j h]
    exact World.cell?_alloc_at _ _ _ _ rfl
  have HC := Lib.hid hC0
  have S0 : Hid (w.Since w.heap.size (w.drew.alloc (.cells (runeCells s cap) 21))) := Lib.hid (World.Since.alloc (World.Since.refl w.heap.size w).drew (Nat.le_refl _) _)
  have HB := Lib.hid (runesBytes_iff (runes s.data.toList) s)
  have HT : Hid (isT s = (decide (cat (runes s.data.toList) = s.data.toList) && !(runes s.data.toList).any ctl)) := Lib.hid rfl
  have hback : (convert 103 9 (.slice (some ⟨w.heap.size, 0, none⟩) (runes s.data.toList).length cap)).run Tryz.prog (w.drew.alloc (.cells (runeCells s cap) 21)) = .ok (.string (runesBytes ((runes s.data.toList).map fun (r : Nat) => (r : Int)))) (w.drew.alloc (.cells (runeCells s cap) 21)) := by
    have h := run_convert_runes (P := Tryz.prog) (w.drew.alloc (.cells (runeCells s cap) 21)) 103 9 21 ⟨w.heap.size, 0, none⟩ (runes s.data.toList).length cap ((runes s.data.toList).map fun (r : Nat) => (r : Int)) (by simp) Tryz.underlying103 Tryz.underlying21 Tryz.underlying9 (fun j hj => by
      have hj' : j < (runes s.data.toList).length := by simpa using hj
      have e : ((⟨w.heap.size, 0, none⟩ : Addr).add j) = ⟨w.heap.size, j, none⟩ := by unfold Addr.add; split <;> simp_all
      rw [e, hC0 j hj']
      simp [List.getD, hj'])
    rw [List.take_of_length_le (by simp)] at h
    exact h
  generalize runesBytes ((runes s.data.toList).map fun (r : Nat) => (r : Int)) = X at *
  clear hC0
  generalize runeCells s cap = cells at *
  generalize runes s.data.toList = rs at *
  generalize hw0 : w.drew.alloc (.cells cells 21) = w0 at *
  clear hw0
  by_cases hX : X = s
  · subst hX
    have HT2 : Hid (isT X = !rs.any ctl) := Lib.hid (by rw [HT.out, decide_eq_true (HB.out.1 rfl)]; simp)
    rw [HT2.out]
    clear HT HT2 HB
    go_enter Tryz.func28, Tryz.ntmps28
    go_wp2_with fail
    go_loopg [4] rs.length (fun g i wr => ∃ I : Nat, I ≤ rs.length ∧ g = rs.length - I ∧ i = .int .i64 I ∧ Hid ((rs.take I).any ctl = false) ∧ wr = w0)
    case atStart => exact ⟨0, by omega, by omega, rfl, Lib.hid rfl, rfl⟩
    case round =>
      obtain ⟨I, hI, rfl, rfl, hA, rfl⟩ := hrel
      by_cases hlt : I < rs.length
      · have hlt2 : (I : Int) < (rs.length : Int) := by omega
        have hc := HC.out I hlt
        have HN := Lib.hid (any_take hlt)
        have HF := Lib.hid (any_of hlt)
        generalize rs[I] = r at *
        have hcz : I ≤ cap := by omega
        by_cases h1 : r < 32
        · have e : ctl r = true := by simp [ctl, h1]
          have HE : Hid ((!rs.any ctl) = false) := Lib.hid (by rw [HF.out e]; rfl)
          clear HN HF e
          have h1' : (r : Int) < 32 := by omega
          go_wp2_with fail
          go_ret
          exact ⟨by rw [HE.out]; rfl, S0.out⟩
        · have h4 : decide ((r : Int) < 32) = false := by simp; omega
          by_cases h2 : r = 127
          · subst h2
            have HE : Hid ((!rs.any ctl) = false) := Lib.hid (by rw [HF.out rfl]; rfl)
            clear HN HF
            go_wp2_with fail
            go_ret
            exact ⟨by rw [HE.out]; rfl, S0.out⟩
          · have e : ctl r = false := by simp [ctl, h1, h2]
            have HA2 : Hid ((rs.take (I + 1)).any ctl = false) := Lib.hid (by rw [HN.out, hA.out, e]; rfl)
            have h3 : ((r : Int) == 127) = false := by simp; omega
            clear HN HF e h2 hA
            go_wp2_with fail
            go_roundg (rs.length - (I + 1))
            case measure => omega
            case rel => exact ⟨I + 1, by omega, rfl, by go_num, HA2, rfl⟩
      · obtain rfl : I = rs.length := by omega
        have HE : Hid ((!rs.any ctl) = true) := Lib.hid (by have := hA.out; rw [List.take_length] at this; rw [this]; rfl)
        clear hA
        go_wp2_with fail
        go_ret
        exact ⟨by rw [HE.out]; rfl, S0.out⟩
  · have HT2 : Hid (isT s = false) := Lib.hid (by rw [HT.out, decide_eq_false (fun h => hX (HB.out.2 h))]; simp)
    rw [HT2.out]
    clear HT HT2 HB
    have hX2 : (X.toList == s.toList) = false := by
      rw [ByteArray.toList_eq, ByteArray.toList_eq]
      simp only [beq_eq_false_iff_ne]
      exact fun h => hX (ByteArray.ext (Array.toList_inj.1 h))
    go_enter Tryz.func28, Tryz.ntmps28
    go_wp2_with fail
    go_ret
    exact ⟨rfl, S0.out⟩
end Go.Proofs.YtkklagdniaoghaaGreatDoor
