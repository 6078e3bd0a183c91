/- The walks of UnitF's split into runes, on both sides. -/
import Derived.Test.YtkklagdniaoghaaGreatDoorV1
import Derived.Test.YtkklagdniaoghaaGreatDoorDA
import Derived.Laws.Runes
namespace Go.Proofs.YtkklagdniaoghaaGreatDoor
open Go.RowKit Go.Proofs.Uni Go.Proofs.StrIt

theorem info9 : (Tryz.prog.info? 9).map (fun i => (i.zero, i.size, i.bytes)) = some (some (.string ByteArray.empty), 1, 16) := by kernel_rfl
/-- A text's runes, each a word of its own. -/
def uni (s : ByteArray) : Ws := (runes s.data.toList).map Uni.enc
theorem enc_size (r : Nat) : (Uni.enc r).size ≤ 4 := encode_size_le _
theorem uni_len (s : ByteArray) : (uni s).length ≤ s.size := by
  unfold uni
  rw [List.length_map]
  exact Nat.le_trans (runes_len _) (Nat.le_of_eq Array.length_toList)
/-- What a split into runes says. -/
def UniSay (s : ByteArray) (w : World) (e : Ending) (w' : World) : Prop := ∃ A c, e = .returned (.slice A (uni s).length c) ∧ In w' A c (uni s) ∧ w.Since w.heap.size w'
theorem cell_at {w : World} {g j : Nat} {cs : Array Value} {t : TypeId} (h : w.heap[g]? = some (.cells cs t (0, 0))) : w.cell? ((⟨g, 0, none⟩ : Addr).add j) = cs[j]? := by
  have e : ((⟨g, 0, none⟩ : Addr).add j) = ⟨g, j, none⟩ := by unfold Addr.add; split <;> simp_all
  rw [e]
  unfold World.cell?
  simp [h]
theorem ownsRow_next {w w' : World} {r base e size n : Nat} {v : Value} {xs : List Value} (h : w.ownsRow base e size v n xs) (hg : w.grownBy w' (some r)) (hr : r < base) : w'.ownsRow base e size v n xs := by
  obtain ⟨h1, h2 | ⟨g, cap, cur, e1, hb, hh, h3⟩⟩ := h
  · exact ⟨h1, .inl h2⟩
  · exact ⟨h1, .inr ⟨g, cap, cur, e1, hb, (hg.block g (Array.getElem?_eq_some_iff.1 hh).1 (fun e => by cases e; omega)).trans hh, h3⟩⟩
theorem iter_size (w : World) (s : ByteArray) : (w.iter s 0).heap.size = w.heap.size + 1 := by unfold World.iter; simp
theorem in_of {w : World} {b n : Nat} {v : Value} {l : Ws} (h : w.ownsRow b 9 1 v n (l.map fun x => .string x)) (hl : l.length = n) (hs : ∀ x ∈ l, x.size ≤ maxLen) : ∃ A c, v = .slice A l.length c ∧ In w A c l := by
  obtain ⟨_, ⟨e, h0⟩ | ⟨g, cap, cur, e, hle, hg, hc, _, hcs, ht⟩⟩ := h
  · subst h0
    have : l = [] := List.length_eq_zero_iff.1 hl
    subst this
    exact ⟨none, 0, e, ⟨⟨fun i hi => by cases hi⟩, Nat.zero_le _, hs⟩⟩
  · refine ⟨some ⟨g, 0, none⟩, cap, by rw [e, hl], ⟨⟨fun j hj => ⟨_, rfl, ?_, ?_⟩⟩, by omega, hs⟩⟩
    · exact (Array.getElem?_eq_some_iff.1 hg).1
    · have h1 : (cur.toList.take (n * 1))[j]? = some (.string l[j]) := by rw [ht]; simp [hj]
      rw [List.getElem?_take, if_pos (by omega)] at h1
      rw [cell_at hg]
      simpa using h1
set_option maxHeartbeats 6400000 in
set_option maxRecDepth 1000000 in
theorem split_says (s : ByteArray) (w : World) (hs : s.size ≤ 100000000) : Calls Tryz.prog 24 #[.string s] w (UniSay s w) := by
  obtain ⟨i9, hi9, hz90, hz91, hz92⟩ := info_parts info9
  have H0 : Hid ((w.iter s 0).heap[w.heap.size]? = some (.stringIter s 0)) := Lib.hid (World.iter_heap w s 0)
  have S0 : Hid (w.Since w.heap.size (w.iter s 0)) := Lib.hid ((World.Since.refl w.heap.size w).alloc (Nat.le_refl _) _)
  have Z0 : Hid (w.heap.size + 1 ≤ (w.iter s 0).heap.size) := Lib.hid (Nat.le_of_eq (iter_size w s).symm)
  have HL := Lib.hid (runes_len s.data.toList)
  have HZ : Hid (s.data.toList.length = s.size) := Lib.hid Array.length_toList
  go_enter Tryz.func24, Tryz.ntmps24
  go_wp2_with fail
  generalize w.iter s 0 = w0 at *
  go_loopg [3] s.size (fun g o wr => ∃ (pos : Nat) (rs : List Nat), g = s.size - pos ∧ Hid (wr.heap[w.heap.size]? = some (.stringIter s pos)) ∧ Hid (Half s pos rs) ∧ Hid (wr.ownsRow (w.heap.size + 1) 9 1 o rs.length ((rs.map Uni.enc).map fun x => .string x)) ∧ Hid (w.Since w.heap.size wr) ∧ Hid (w.heap.size + 1 ≤ wr.heap.size))
  case atStart => exact ⟨0, [], by omega, H0, Lib.hid (half_start s), Lib.hid (World.ownsRow_nil _ _ _ _), S0, Z0⟩
  case round =>
    obtain ⟨pos, rs, rfl, hI, hH, hO, hS, hZ⟩ := hrel
    go_wp2_with (refine wpList_next_str _ rfl (.tmp 7) rfl w.heap.size s pos rfl hI.out ?_ ?_)
    · intro hp
      have HF : Hid (rs.map Uni.enc = uni s) := Lib.hid (by unfold uni; rw [half_end hH.out (by omega)])
      have HI := Lib.hid (in_of hO.out (by simp) (fun x hx => by
        obtain ⟨r, _, rfl⟩ := List.mem_map.1 hx
        exact Nat.le_trans (enc_size r) (by unfold maxLen; omega)))
      obtain ⟨A, c, rfl, hIn⟩ := HI.out
      have HU : Hid (UniSay s w (.returned (.slice A (rs.map Uni.enc).length c)) wr) := Lib.hid ⟨A, c, by rw [HF.out], by rw [← HF.out]; exact hIn, hS.out⟩
      clear HI hIn HF hO hH
      go_wp2_with fail
      go_ret
      exact HU.out
    · intro hp w2 hI2 hg2 hz2
      have hw := Lib.width_pos s pos
      have hrl := hH.out.2
      have S2 := Lib.hid (since_grown hS.out hS.out.size hg2 (fun k e => by cases e; exact Nat.le_refl _))
      have I2 := Lib.hid hI2
      have O2 := Lib.hid (ownsRow_next hO.out hg2 (Nat.lt_succ_self _))
      have Z2 : Hid (w.heap.size + 1 ≤ w2.heap.size) := Lib.hid (by rw [hz2]; exact hZ.out)
      have HN := Lib.hid (half_step hH.out hp)
      clear hg2 hI2 hz2 hO hS hI hH hZ
      generalize (Utf8.decode s pos).1 = r at *
      generalize (Utf8.decode s pos).2 = k at *
      have He : Hid (Utf8.encode (r : Int) = Uni.enc r) := Lib.hid rfl
      have hz := enc_size r
      have hL := HZ.out
      go_wp2_with (first | (at_builtin; refine wpList_append_own _ rfl _ _ 56 rfl (w.heap.size + 1) 9 i9 (.string ByteArray.empty) 1 16 Tryz.underlying56 hi9 hz90 hz91 hz92 rfl (by decide) _ rs.length _ rfl (O2.out.alloc _) ⟨w2.heap.size, 0, none⟩ 1 1 [.string (Utf8.encode (r : Int))] rfl rfl ?c1 ?c2 ?c3 ?c4 ?c5 ?_))
      case c1 =>
        intro j u hj
        match j, hj with
        | 0, hj => simp at hj; subst hj; simp only [Addr.add]; exact cell_new rfl
      case c2 => intro u hu; simp at hu; subst hu; rfl
      case c3 => unfold maxLen; omega
      case c4 => have := Z2.out; simp; omega
      case c5 => have := Z2.out; simp; omega
      intro v' w1 hown' hgrow _
      have hzz := Z2.out
      have R1 : Hid (w1.ownsRow (w.heap.size + 1) 9 1 v' (rs ++ [r]).length (((rs ++ [r]).map Uni.enc).map fun x => .string x)) := Lib.hid (by
        rw [List.length_append]
        simp only [List.map_append, List.map_map]
        exact hown')
      have S1 := Lib.hid (since_grown (since_alloc S2.out _) (by simp; omega) hgrow (fun k e => by have := (O2.out.lt k e).1; omega))
      have I1 : Hid (w1.heap[w.heap.size]? = some (.stringIter s (pos + k))) := Lib.hid (by
        rw [hgrow.block w.heap.size (by simp; omega) (fun e => by have := (O2.out.lt _ e.symm).1; omega)]
        rw [((World.Since.refl w2.heap.size w2).alloc (Nat.le_refl _) _).block w.heap.size (by omega)]
        exact I2.out)
      have Z1 : Hid (w.heap.size + 1 ≤ w1.heap.size) := Lib.hid (by have := hgrow.size; simp at this; omega)
      clear hown' hgrow O2 S2 I2 Z2 hzz He
      go_wp2_with fail
      go_roundg (s.size - (pos + k))
      case measure => omega
      case rel => exact ⟨pos + k, rs ++ [r], rfl, I1, HN, R1, S1, Z1⟩
end Go.Proofs.YtkklagdniaoghaaGreatDoor
