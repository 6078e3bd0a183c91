/- The walk of grams: the grams of a list, counted in a map. -/
import Derived.Test.YtkklagdniaoghaaGreatDoorW1
import Derived.Test.YtkklagdniaoghaaGreatDoorGA
import Derived.Laws.CopyOwn
import Derived.Outline
import Derived.IntWalk
import Derived.Deep.RegionLaw
namespace Go.Proofs.YtkklagdniaoghaaGreatDoor
open Go.RowKit Go.Proofs.MapEnt

theorem zero3 (w : World) : (zeroValue 3).run Tryz.prog w = .ok (.int .i64 0) w := by kernel_rfl
theorem splice_enc {g : Gram} (h : g.length ≤ 4) : splice [.string .empty, .string .empty, .string .empty, .string .empty] 0 (g.map Value.string) = (g ++ List.replicate (4 - g.length) ByteArray.empty).map Value.string := by
  match g, h with
  | [], _ => rfl
  | [_], _ => rfl
  | [_, _], _ => rfl
  | [_, _, _], _ => rfl
  | [_, _, _, _], _ => rfl
theorem win_cells {w wx : World} {A : Option Addr} {c : Nat} {l : Ws} (H : In w A c l) (hs : w.Since w.heap.size wx) {I n : Nat} (h : I + n ≤ l.length) (h1 : 1 ≤ n) :
    ∃ ad, A = some ad ∧ ∀ j v, ((win l I n).map Value.string)[j]? = some v → wx.cell? ((ad.add I).add j) = some v := by
  obtain ⟨ad, e, _, _⟩ := H.at_.at_ I (by omega)
  refine ⟨ad, e, fun j v hv => ?_⟩
  rw [List.getElem?_map, Option.map_eq_some_iff] at hv
  obtain ⟨x, hx, rfl⟩ := hv
  have hj : j < n := by
    have := (List.getElem?_eq_some_iff.1 hx).1
    rw [win_length h] at this
    exact this
  rw [win_get h hj] at hx
  cases hx
  obtain ⟨ad', e', hb, hc⟩ := H.at_.at_ (I + j) (by omega)
  rw [e] at e'
  cases e'
  rw [hs.cell (by rw [block_add, block_add]; exact hb)]
  rw [Addr.add_add]
  exact hc
set_option maxHeartbeats 1600000 in
set_option maxRecDepth 1000000 in
theorem grams_says (l : Ws) (n : Nat) (w : World) (A : Option Addr) (c : Nat) (hA : In w A c l) (h1 : 1 ≤ n) (h4 : n ≤ 4) (hl : l.length ≤ 512) :
    Calls Tryz.prog 48 #[.slice A l.length c, .int .i64 n] w fun e w' => ∃ b, e = .returned (.map (some b)) ∧ w.heap.size ≤ b ∧ CMap Tryz.prog 102 w' b (Bag.grams l n) ∧ w.Since w.heap.size w' := by
  have H := Lib.hid hA
  have hmm := @run_makeMap Tryz.prog
  clear hA
  go_enter Tryz.func48, Tryz.ntmps48
  go_wp2_with fail
  go_loopg [6] (l.length + 1 - n) (fun g i wr => ∃ (I : Nat), I ≤ l.length + 1 - n ∧ g = l.length + 1 - n - I ∧ i = .int .i64 I ∧ Hid (CMap Tryz.prog 102 wr w.heap.size ((Bag.grams l n).take I)) ∧ Hid (w.Since w.heap.size wr))
  case atStart => exact ⟨0, by omega, by omega, rfl, by exact Lib.hid (CMap.new _ _ _), Lib.hid ((World.Since.refl _ _).alloc (Nat.le_refl _) _)⟩
  case round =>
    obtain ⟨I, hI, rfl, rfl, hM, hS⟩ := hrel
    by_cases hlt : I + n ≤ l.length
    · obtain ⟨ad, rfl, hcs⟩ := win_cells H.out (since_alloc hS.out (.cells #[.string .empty, .string .empty, .string .empty, .string .empty] 102)) hlt h1
      have HC := Lib.hid hcs
      clear hcs
      have hcc := H.out.cap
      obtain ⟨x, hx⟩ : ∃ x, x = (win l I n).map Value.string := ⟨_, rfl⟩
      have HX := Lib.hid hx
      have e1 : IntKind.i64.wrap ((I : Int) + n) = (I : Int) + n := IntWalk.i64_in _ (by omega)
      have e2 : 0 ≤ (I : Int) + n := by omega
      have e3 : ((I : Int) + n).toNat = I + n := by omega
      have e4 : (I : Int) + n ≤ c := by omega
      have e5 : ¬ c = I := by omega
      have e6 : I + n - I = n := by omega
      have e7 : 0 ≤ (I : Int) := by omega
      have e8 : I ≤ I + n := by omega
      have hsz := hS.out.size
      have HL : Hid ((wr.alloc (.cells #[.string .empty, .string .empty, .string .empty, .string .empty] 102)).drew.heap[wr.heap.size]? = some (.cells [.string .empty, .string .empty, .string .empty, .string .empty].toArray 102 (0, 0))) := Lib.hid (heap_alloc_new wr _)
      have Q2 : Hid (x.length = Nat.min n 4) := Lib.hid (by rw [HX.out, List.length_map, win_length hlt]; exact (Nat.min_eq_left h4).symm)
      have Q3 : Hid (0 < x.length → some (⟨wr.heap.size, 0, none⟩ : Addr) = some ⟨wr.heap.size, 0, none⟩ ∧ ∃ a0, some (ad.add I) = some a0 ∧ ∀ j v, x[j]? = some v → (wr.alloc (.cells #[.string .empty, .string .empty, .string .empty, .string .empty] 102)).drew.cell? (a0.add j) = some v) := Lib.hid (fun _ => ⟨rfl, _, rfl, by rw [HX.out]; exact HC.out⟩)
      have Q4 : Hid (0 + x.length ≤ [Value.string .empty, .string .empty, .string .empty, .string .empty].length) := Lib.hid (by rw [HX.out]; simp [win_length hlt]; omega)
      have Q5 : Hid (∀ v ∈ x, v.oneCell' = true) := Lib.hid (by rw [HX.out]; intro v hv; obtain ⟨y, _, rfl⟩ := List.mem_map.1 hv; rfl)
      go_wp2_with fail
      go_region_law ((refine step_copy_splice rfl (.tmp 17) (.tmp 23) 56 56 rfl 9 Tryz.underlying56 (by kernel_rfl) (some ⟨wr.heap.size, 0, none⟩) (some (ad.add I)) 4 4 n (c - I) ?ha ?hb wr.heap.size 0 [.string .empty, .string .empty, .string .empty, .string .empty] 102 ?d1 x ?d2 ?d3 ?d4 ?d5 wr.heap.size (wr.alloc (.cells #[.string .empty, .string .empty, .string .empty, .string .empty] 102)).drew (Below.refl _ _) (Nat.le_refl _) ?_; (case ha => rfl); (case hb => rfl); (case d1 => exact HL.out); (case d2 => exact Q2.out); (case d3 => exact fun h => ⟨rfl, (Q3.out h).2⟩); (case d4 => exact Q4.out); (case d5 => exact Q5.out); intro w2 HG hB))
      clear e1 e2 e3 e4 e5 e6 e7 e8
      have hsp := HG.out
      rw [HX.out] at hsp
      have hsize : ∀ y ∈ win l I n, y.size ≤ maxLen := win_size H.out.size
      have hwl : (win l I n).length = n := win_length hlt
      obtain ⟨x0, x1, x2, x3, he, q0, q1, q2, q3⟩ := enc_of (g := win l I n) (by omega) hsize
      rw [splice_enc (by omega)] at hsp
      have he' : (List.map Value.string (win l I n ++ List.replicate (4 - (win l I n).length) ByteArray.empty)).toArray = #[.string x0, .string x1, .string x2, .string x3] := by
        have := he; simpa [enc] using this
      rw [he'] at hsp
      have c0 : w2.cell? ⟨wr.heap.size, 0, none⟩ = some (.string x0) := by simp [World.cell?, hsp]
      have c1 : w2.cell? ⟨wr.heap.size, 1, none⟩ = some (.string x1) := by simp [World.cell?, hsp]
      have c2 : w2.cell? ⟨wr.heap.size, 2, none⟩ = some (.string x2) := by simp [World.cell?, hsp]
      have c3 : w2.cell? ⟨wr.heap.size, 3, none⟩ = some (.string x3) := by simp [World.cell?, hsp]
      obtain ⟨q, hq⟩ := gram_keyOf q0 q1 q2 q3
      rw [← he] at hq
      have hM2 : CMap Tryz.prog 102 w2.drew w.heap.size ((Bag.grams l n).take I) := hM.out.same ((hB.block w.heap.size hM.out.lt).trans (Below.heap_alloc wr _ _ hM.out.lt))
      obtain ⟨v0, st, w3, w4, r1, r0, r2, r3, hM4, hg4, hz4⟩ := CMap.incr gram_key Tryz.underlying99 zero3 (n := n) (fun g hg => gram_len g (List.mem_of_mem_take hg) h1) hM2 hwl hq
      rw [← grams_take (by omega)] at hM4
      have hcnt : ((Bag.grams l n).take I).count (win l I n) ≤ 1000 := by
        have q1 := List.count_le_length (a := win l I n) (l := (Bag.grams l n).take I)
        simp only [List.length_take, Bag.grams_length] at q1
        omega
      generalize ((Bag.grams l n).take I).count (win l I n) = cnt at r0 r1 r3 hcnt
      rw [he] at r0 r1 r2
      have hcw : IntKind.i64.wrap ((cnt : Int) + 1) = (cnt : Int) + 1 := IntWalk.i64_in _ (by omega)
      have S2 : w.Since w.heap.size w2 := (since_alloc hS.out _).trans ⟨hB.os, hB.tape, hB.output, hB.size, fun k hk => hB.block k (Nat.lt_of_lt_of_le hk hsz)⟩
      have S4 := Lib.hid (since_grown (w' := w4) (wk := w2.drew) ⟨S2.os, S2.tape, S2.output, S2.size, S2.block⟩ S2.size hg4 (fun k e => by cases e; exact Nat.le_refl _))
      have M4 := Lib.hid hM4
      clear he' hsp hM2 he S2 hM4 hg4 hz4 HG hB hM HL HC HX hx Q2 Q3 Q4 Q5
      go_wp2_with fail
      go_region_law (fail)
      all_goals
        try go_wp2_with fail
        go_roundg (l.length + 1 - n - (I + 1))
        case measure => omega
        case rel => exact ⟨I + 1, by omega, rfl, by go_num, M4, S4⟩
    · obtain rfl : I = l.length + 1 - n := by omega
      go_wp2_with fail
      go_ret
      refine ⟨_, rfl, Nat.le_refl _, ?_, hS.out⟩
      have := hM.out
      rwa [grams_all] at this
end Go.Proofs.YtkklagdniaoghaaGreatDoor
