/- Recorded draws: what they are; lists of numbers in memory. The walk of the specification's Draws. The walk of Draws. Draws that are refused. -/
import Derived.Test.YtkklagdniaoghaaGreatDoorW1
import Derived.IntWalk
import Derived.Outline
import Derived.Laws.MakeOwn
namespace Go.Proofs.YtkklagdniaoghaaGreatDoor
open Go.RowKit

theorem info3 : (Tryz.prog.info? 3).map (fun i => (i.zero, i.size, i.bytes)) = some (some (.int .i64 0), 1, 8) := by kernel_rfl
theorem info32 : (Tryz.prog.info? 32).map (fun i => (i.zero, i.size, i.bytes)) = some (some (.slice none 0 0), 1, 24) := by kernel_rfl

/-! ### the numbers -/
def nx (S : Int) : Int := IntKind.u64.wrap (S + 11400714819323198485)
def z1 (S : Int) : Int := IntKind.u64.wrap (bits .xor .u64 (nx S) (nx S / 1073741824) * 13787848793156543929)
def z2 (S : Int) : Int := IntKind.u64.wrap (bits .xor .u64 (z1 S) (z1 S / 134217728) * 10723151780598845931)
def vz (S n : Int) : Int := wrap64 ((bits .xor .u64 (z2 S) (z2 S / 2147483648)).tmod n)
def it (s : Int) : Nat → Int
  | 0 => s
  | k + 1 => nx (it s k)
def dv (s : Int) (n I J : Nat) : Int := vz (it s (I * n + J)) n
def row (s : Int) (n I K : Nat) : List Int := (List.range K).map fun J => dv s n I J
theorem row_succ (s : Int) (n I K : Nat) : row s n I (K + 1) = row s n I K ++ [dv s n I K] := by simp [row, List.range_succ]
theorem row_length (s : Int) (n I K : Nat) : (row s n I K).length = K := by simp [row]
def allD (s : Int) (n M : Nat) : List (List Int) := (List.range M).map fun I => row s n I n
theorem allD_succ (s : Int) (n M : Nat) : allD s n (M + 1) = allD s n M ++ [row s n M n] := by simp [allD, List.range_succ]
theorem allD_length (s : Int) (n M : Nat) : (allD s n M).length = M := by simp [allD]
theorem it_next (s : Int) (n I : Nat) : it s (I * n + n) = it s ((I + 1) * n) := by rw [Nat.succ_mul]
theorem nx_range (S : Int) : 0 ≤ nx S ∧ nx S < 18446744073709551616 := by
  unfold nx
  simp only [IntKind.wrap, IntKind.bits, IntKind.signed]
  simp
  omega
theorem it_range {s : Int} (h0 : 0 ≤ s) (h1 : s < 18446744073709551616) : ∀ k, 0 ≤ it s k ∧ it s k < 18446744073709551616
  | 0 => ⟨h0, h1⟩
  | _ + 1 => nx_range _

/-! ### memory -/
/-- A slice value reads as a list of numbers; its block is one of numbers. -/
def RowAt (w : World) (v : Value) (l : List Int) : Prop :=
  ∃ g cap cur, v = .slice (some ⟨g, 0, none⟩) l.length cap ∧ w.heap[g]? = some (.cells cur 3 (0, 0)) ∧ ∀ j (h : j < l.length), cur[j]? = some (.int .i64 l[j])
theorem RowAt.same {w w' : World} {v : Value} {l : List Int} (h : RowAt w v l) (hs : ∀ (g : Nat) (cur : Array Value), w.heap[g]? = some (Obj.cells cur 3 (0, 0)) → w'.heap[g]? = w.heap[g]?) : RowAt w' v l := by
  obtain ⟨g, cap, cur, e, hg, hc⟩ := h
  exact ⟨g, cap, cur, e, (hs g cur hg).trans hg, hc⟩
theorem RowAt.up {w w' : World} {v : Value} {l : List Int} (h : RowAt w v l) (hs : w.Since w.heap.size w') : RowAt w' v l :=
  h.same fun g _ hg => hs.block g (Array.getElem?_eq_some_iff.1 hg).1
theorem rowAt_of {w : World} {b n : Nat} {v : Value} {l : List Int} (h : w.ownsRow b 3 1 v n (l.map fun x => .int .i64 x)) (hn : 0 < n) (hl : l.length = n) : RowAt w v l := by
  obtain ⟨_, ⟨_, h0⟩ | ⟨g, cap, cur, e, _, hg, hc, _, hcs, ht⟩⟩ := h
  · omega
  · refine ⟨g, cap, cur, by rw [e, hl], hg, fun j hj => ?_⟩
    have h1 : (cur.toList.take (n * 1))[j]? = some (.int .i64 l[j]) := by rw [ht]; simp [hj]
    rw [List.getElem?_take, if_pos (by omega)] at h1
    simpa using h1
structure RowsAt (w : World) (vs : List Value) (ls : List (List Int)) : Prop where
  len : vs.length = ls.length
  at_ : ∀ i (h : i < vs.length) (h' : i < ls.length), RowAt w vs[i] ls[i]
theorem RowsAt.nil (w : World) : RowsAt w [] [] := ⟨rfl, fun i h => by cases h⟩
theorem RowsAt.same {w w' : World} {vs : List Value} {ls : List (List Int)} (h : RowsAt w vs ls) (hs : ∀ (g : Nat) (cur : Array Value), w.heap[g]? = some (Obj.cells cur 3 (0, 0)) → w'.heap[g]? = w.heap[g]?) : RowsAt w' vs ls :=
  ⟨h.len, fun i hi hi' => (h.at_ i hi hi').same hs⟩
theorem RowsAt.up {w w' : World} {vs : List Value} {ls : List (List Int)} (h : RowsAt w vs ls) (hs : w.Since w.heap.size w') : RowsAt w' vs ls :=
  h.same fun g _ hg => hs.block g (Array.getElem?_eq_some_iff.1 hg).1
theorem RowsAt.push {w : World} {vs : List Value} {ls : List (List Int)} {v : Value} {l : List Int} (h : RowsAt w vs ls) (hv : RowAt w v l) : RowsAt w (vs ++ [v]) (ls ++ [l]) :=
  ⟨by simp [h.len], fun i hi hi' => by
    by_cases e : i < vs.length
    · rw [List.getElem_append_left e, List.getElem_append_left (by rw [← h.len]; exact e)]
      exact h.at_ i e _
    · have h1 : i = vs.length := by simp at hi; omega
      subst h1
      rw [List.getElem_append_right (by omega), List.getElem_append_right (by rw [h.len]; exact Nat.le_refl _)]
      simp only [h.len, Nat.sub_self, List.getElem_cons_zero]
      exact hv⟩
theorem ownsRow_since {w w' : World} {base e size n : Nat} {v : Value} {xs : List Value} (h : w.ownsRow base e size v n xs) (hs : w.Since w.heap.size w') : w'.ownsRow base e size v n xs := by
  obtain ⟨h1, h2 | ⟨g, cap, cur, e1, hb, hg, h3⟩⟩ := h
  · exact ⟨h1, .inl h2⟩
  · exact ⟨h1, .inr ⟨g, cap, cur, e1, hb, (hs.block g (Array.getElem?_eq_some_iff.1 hg).1).trans hg, h3⟩⟩
/-- What an append to a list of lists leaves of the lists themselves. -/
theorem grown_rows {w w' : World} {base n : Nat} {v : Value} {xs : List Value} (ho : w.ownsRow base 32 1 v n xs) (hg : w.grownBy w' v.ownBlock) :
    ∀ (g : Nat) (cur : Array Value), w.heap[g]? = some (Obj.cells cur 3 (0, 0)) → w'.heap[g]? = w.heap[g]? := fun g cur h => by
  refine hg.block g (Array.getElem?_eq_some_iff.1 h).1 fun e => ?_
  obtain ⟨_, ⟨rfl, _⟩ | ⟨g', cap', cur', rfl, _, hg', _⟩⟩ := ho
  · cases e
  · cases e
    rw [hg'] at h
    cases h
theorem cell_new {wd : World} {n t : Nat} {v : Value} (h : n = wd.heap.size) : (wd.alloc (.cells #[v] t)).cell? ⟨n, 0, none⟩ = some v := by subst h; simp
theorem since_drewN {B : Nat} {w w' : World} (h : w.Since B w') : ∀ n, w.Since B (w'.drewN n) := fun _ => ⟨h.os, h.tape, h.output, h.size, h.block⟩
end Go.Proofs.YtkklagdniaoghaaGreatDoor
namespace Go.Proofs.YtkklagdniaoghaaGreatDoor
open Go.RowKit

def DrawsSay (s : Int) (n m : Nat) (w : World) (e : Ending) (w' : World) : Prop :=
  ∃ v vs, e = .returned (.tuple #[v, .int .u8 0]) ∧ w'.ownsRow w.heap.size 32 1 v m vs ∧ RowsAt w' vs (allD s n m) ∧ w.Since w.heap.size w'
set_option maxHeartbeats 6400000 in
set_option maxRecDepth 1000000 in
theorem refDraws_ok (s : Int) (n m : Nat) (w : World) (h1 : 1 ≤ n) (h2 : n ≤ 40) (h3 : m ≤ 20) (h4 : 0 ≤ s) (h5 : s < 18446744073709551616) :
    Calls Tryz.prog 10 #[.int .u64 s, .int .i64 n, .int .i64 m] w (DrawsSay s n m w) := by
  obtain ⟨i3, hi3, hz30, hz31, hz32⟩ := info_parts info3
  obtain ⟨i32, hi32, hz20, hz21, hz22⟩ := info_parts info32
  have HR := Lib.hid (fun k => it_range h4 h5 k)
  clear h4 h5
  go_enter Tryz.func10, Tryz.ntmps10
  go_wp2_with fail
  go_loopg [0, 8, 9] m (fun g sd o i wr => ∃ (I : Nat) (vs : List Value), I ≤ m ∧ g = m - I ∧ i = .int .i64 I ∧ sd = .int .u64 (it s (I * n)) ∧ Hid (wr.ownsRow w.heap.size 32 1 o I vs) ∧ Hid (RowsAt wr vs (allD s n I)) ∧ Hid (w.Since w.heap.size wr))
  case atStart => exact ⟨0, [], by omega, by omega, rfl, by simp [it], Lib.hid (World.ownsRow_nil _ _ _ _), Lib.hid (RowsAt.nil _), Lib.hid (World.Since.refl _ _)⟩
  case round =>
    obtain ⟨I, vs, hI, rfl, rfl, rfl, hO, hV, hS⟩ := hrel
    by_cases hlt : I < m
    · obtain ⟨wo, rfl⟩ : ∃ wo, wo = wr := ⟨wr, rfl⟩
      have hdt : decide ((I : Int) < (m : Int)) = true := decide_eq_true (by omega)
      go_wp2_with fail
      go_loopg [0, 10, 11] n (fun g sd o k wi => ∃ K : Nat, K ≤ n ∧ g = n - K ∧ k = .int .i64 K ∧ sd = .int .u64 (it s (I * n + K)) ∧ Hid (wi.ownsRow wo.heap.size 3 1 o K ((row s n I K).map fun x => .int .i64 x)) ∧ Hid (wo.Since wo.heap.size wi))
      case atStart => exact ⟨0, by omega, by omega, rfl, rfl, Lib.hid (World.ownsRow_nil _ _ _ _), Lib.hid (World.Since.refl _ _)⟩
      case round =>
        obtain ⟨K, hK, rfl, rfl, rfl, hR, hSi⟩ := hrel
        by_cases hltk : K < n
        · have hrg := HR.out (I * n + K)
          have hsz := hSi.out.size
          have hE : Hid (row s n I (K + 1) = row s n I K ++ [dv s n I K]) := Lib.hid (row_succ s n I K)
          have hdv : Hid (dv s n I K = vz (it s (I * n + K)) n) := Lib.hid rfl
          have hit : Hid (it s (I * n + (K + 1)) = nx (it s (I * n + K))) := Lib.hid rfl
          generalize it s (I * n + K) = S at *
          go_wp2_with (first | (at_builtin; refine wpList_append_own _ rfl _ _ 32 rfl wo.heap.size 3 i3 (.int .i64 0) 1 8 Tryz.underlying32 hi3 hz30 hz31 hz32 rfl (by decide) _ K _ rfl (hR.out.alloc _) ⟨wr.heap.size, 0, none⟩ 1 1 [.int .i64 (vz S n)] rfl rfl ?c1 ?c2 ?c3 ?c4 ?c5 ?_))
          case c1 =>
            intro j u hj
            match j, hj with
            | 0, hj => simp at hj; subst hj; simp only [Addr.add]; exact cell_new rfl
          case c2 => intro u hu; simp at hu; subst hu; rfl
          case c3 => unfold maxLen; omega
          case c4 => omega
          case c5 => simp; omega
          intro v' w1 hown' hgrow _
          have R1 : Hid (w1.ownsRow wo.heap.size 3 1 v' (K + 1) ((row s n I (K + 1)).map fun x => .int .i64 x)) := Lib.hid (by rw [hE.out, hdv.out, List.map_append]; exact hown')
          have S1 := Lib.hid (since_grown (hSi.out.alloc hsz _) (by simp; omega) hgrow (fun k e => (hR.out.lt k e).1))
          clear hown' hgrow hR hSi hsz hrg
          go_wp2_with fail
          go_roundg (n - (K + 1))
          case measure => omega
          case rel => exact ⟨K + 1, by omega, rfl, by go_num, by rw [hit.out]; rfl, R1, S1⟩
        · obtain rfl : n = K := by omega
          have hrow0 := rowAt_of hR.out (by omega) (row_length s n I n)
          obtain ⟨g, cap, cur, eg, _⟩ := id hrow0
          rw [row_length] at eg
          subst eg
          have hrow := Lib.hid hrow0
          clear hrow0
          have hO2 := Lib.hid (ownsRow_since hO.out hSi.out)
          have hV2 := Lib.hid (hV.out.up hSi.out)
          have hS2 := Lib.hid (since_two hS.out hSi.out)
          have hit : Hid (it s (I * n + n) = it s ((I + 1) * n)) := Lib.hid (it_next s n I)
          have hE : Hid (allD s n (I + 1) = allD s n I ++ [row s n I n]) := Lib.hid (allD_succ s n I)
          have hsz := hS2.out.size
          clear hR hSi hO hV hS
          go_wp2_with (first | (at_builtin; refine wpList_append_own _ rfl _ _ 29 rfl w.heap.size 32 i32 (.slice none 0 0) 1 24 Tryz.underlying29 hi32 hz20 hz21 hz22 rfl (by decide) _ I _ rfl (hO2.out.alloc _) ⟨wr.heap.size, 0, none⟩ 1 1 [.slice (some ⟨g, 0, none⟩) n cap] rfl rfl ?c1 ?c2 ?c3 ?c4 ?c5 ?_))
          case c1 =>
            intro j u hj
            match j, hj with
            | 0, hj => simp at hj; subst hj; simp only [Addr.add]; exact cell_new rfl
          case c2 => intro u hu; simp at hu; subst hu; rfl
          case c3 => unfold maxLen; omega
          case c4 => omega
          case c5 => simp; omega
          intro v' w1 hown' hgrow _
          have S1 := Lib.hid (since_grown (hS2.out.alloc hsz _) (by simp; omega) hgrow (fun k e => (hO2.out.lt k e).1))
          have O1 := Lib.hid hown'
          have V1 : Hid (RowsAt w1 (vs ++ [.slice (some ⟨g, 0, none⟩) n cap]) (allD s n (I + 1))) := Lib.hid (by
            rw [hE.out]
            have hal := (World.Since.refl wr.heap.size wr).alloc (Nat.le_refl _) (.cells #[.slice (some ⟨g, 0, none⟩) n cap] 32)
            exact ((hV2.out.push hrow.out).up hal).same (grown_rows (hO2.out.alloc _) hgrow))
          clear hown' hgrow hO2 hV2 hS2 hsz hrow
          go_wp2_with fail
          go_roundg (m - (I + 1))
          case measure => omega
          case rel => exact ⟨I + 1, _, by omega, rfl, by go_num, by rw [← hit.out], O1, V1, S1⟩
    · obtain rfl : m = I := by omega
      go_wp2_with fail
      go_ret2
      exact ⟨_, vs, rfl, hO.out, hV.out, hS.out⟩
end Go.Proofs.YtkklagdniaoghaaGreatDoor
namespace Go.Proofs.YtkklagdniaoghaaGreatDoor
open Go.RowKit

set_option maxHeartbeats 6400000 in
set_option maxRecDepth 1000000 in
theorem draws_ok (s : Int) (n m : Nat) (w : World) (h1 : 1 ≤ n) (h2 : n ≤ 40) (h3 : m ≤ 20) (h4 : 0 ≤ s) (h5 : s < 18446744073709551616) :
    Calls Tryz.prog 9 #[.int .u64 s, .int .i64 n, .int .i64 m] w (DrawsSay s n m w) := by
  obtain ⟨i3, hi3, hz30, hz31, hz32⟩ := info_parts info3
  obtain ⟨i32, hi32, hz20, hz21, hz22⟩ := info_parts info32
  have HR := Lib.hid (fun k => it_range h4 h5 k)
  clear h4 h5
  go_enter Tryz.func9, Tryz.ntmps9
  go_wp2_with fail
  go_loopg [8, 9, 28] m (fun g o sd i wr => ∃ (I : Nat) (vs : List Value), I ≤ m ∧ g = m - I ∧ i = .int .i64 I ∧ sd = .int .u64 (it s (I * n)) ∧ Hid (wr.ownsRow w.heap.size 32 1 o I vs) ∧ Hid (RowsAt wr vs (allD s n I)) ∧ Hid (w.Since w.heap.size wr))
  case atStart => exact ⟨0, [], by omega, by omega, rfl, by simp [it], Lib.hid (World.ownsRow_nil _ _ _ _), Lib.hid (RowsAt.nil _), Lib.hid (World.Since.refl _ _)⟩
  case round =>
    obtain ⟨I, vs, hI, rfl, rfl, rfl, hO, hV, hS⟩ := hrel
    by_cases hlt : I < m
    · obtain ⟨wo, rfl⟩ : ∃ wo, wo = wr := ⟨wr, rfl⟩
      have hdt : decide ((I : Int) < (m : Int)) = true := decide_eq_true (by omega)
      obtain ⟨wm, hmk, hown0, hg0⟩ := run_make_own (P := Tryz.prog) wo wo.heap.size 32 3 i3 (.int .i64 0) 1 Tryz.underlying32 hi3 hz30 hz31 .i64 .i64 n (by rw [hz32]; omega) (by unfold maxLen; omega) (Nat.le_refl _)
      have S0 := Lib.hid (since_grown (World.Since.refl wo.heap.size wo) (Nat.le_refl _) hg0 (fun k e => by cases e))
      have O0 := Lib.hid hown0
      clear hown0 hg0
      go_wp2_with fail
      go_loopg [9, 10, 33] n (fun g sd o k wi => ∃ K : Nat, K ≤ n ∧ g = n - K ∧ k = .int .i64 K ∧ sd = .int .u64 (it s (I * n + K)) ∧ Hid (wi.ownsRow wo.heap.size 3 1 o K ((row s n I K).map fun x => .int .i64 x)) ∧ Hid (wo.Since wo.heap.size wi))
      case atStart => exact ⟨0, by omega, by omega, rfl, rfl, O0, S0⟩
      case round =>
        obtain ⟨K, hK, rfl, rfl, rfl, hR, hSi⟩ := hrel
        by_cases hltk : K < n
        · have hrg := HR.out (I * n + K)
          have hsz := hSi.out.size
          have hE : Hid (row s n I (K + 1) = row s n I K ++ [dv s n I K]) := Lib.hid (row_succ s n I K)
          have hdv : Hid (dv s n I K = vz (it s (I * n + K)) n) := Lib.hid rfl
          have hit : Hid (it s (I * n + (K + 1)) = nx (it s (I * n + K))) := Lib.hid rfl
          generalize it s (I * n + K) = S at *
          go_wp2_with (first | (at_builtin; refine wpList_append_own _ rfl _ _ 32 rfl wo.heap.size 3 i3 (.int .i64 0) 1 8 Tryz.underlying32 hi3 hz30 hz31 hz32 rfl (by decide) _ K _ rfl (hR.out.alloc _) ⟨wr.heap.size, 0, none⟩ 1 1 [.int .i64 (vz S n)] rfl rfl ?c1 ?c2 ?c3 ?c4 ?c5 ?_))
          case c1 =>
            intro j u hj
            match j, hj with
            | 0, hj => simp at hj; subst hj; simp only [Addr.add]; exact cell_new rfl
          case c2 => intro u hu; simp at hu; subst hu; rfl
          case c3 => unfold maxLen; omega
          case c4 => omega
          case c5 => simp; omega
          intro v' w1 hown' hgrow _
          have R1 : Hid (w1.ownsRow wo.heap.size 3 1 v' (K + 1) ((row s n I (K + 1)).map fun x => .int .i64 x)) := Lib.hid (by rw [hE.out, hdv.out, List.map_append]; exact hown')
          have S1 := Lib.hid (since_grown (hSi.out.alloc hsz _) (by simp; omega) hgrow (fun k e => (hR.out.lt k e).1))
          clear hown' hgrow hR hSi hsz hrg
          go_wp2_with fail
          go_roundg (n - (K + 1))
          case measure => omega
          case rel => exact ⟨K + 1, by omega, rfl, by go_num, by rw [hit.out]; rfl, R1, S1⟩
        · obtain rfl : n = K := by omega
          have hrow0 := rowAt_of hR.out (by omega) (row_length s n I n)
          obtain ⟨g, cap, cur, eg, _⟩ := id hrow0
          rw [row_length] at eg
          subst eg
          have hrow := Lib.hid hrow0
          clear hrow0
          have hO2 := Lib.hid (ownsRow_since hO.out hSi.out)
          have hV2 := Lib.hid (hV.out.up hSi.out)
          have hS2 := Lib.hid (since_two hS.out hSi.out)
          have hit : Hid (it s (I * n + n) = it s ((I + 1) * n)) := Lib.hid (it_next s n I)
          have hE : Hid (allD s n (I + 1) = allD s n I ++ [row s n I n]) := Lib.hid (allD_succ s n I)
          have hsz := hS2.out.size
          clear hR hSi hO hV hS
          go_wp2_with (first | (at_builtin; refine wpList_append_own _ rfl _ _ 29 rfl w.heap.size 32 i32 (.slice none 0 0) 1 24 Tryz.underlying29 hi32 hz20 hz21 hz22 rfl (by decide) _ I _ rfl (hO2.out.alloc _) ⟨wr.heap.size, 0, none⟩ 1 1 [.slice (some ⟨g, 0, none⟩) n cap] rfl rfl ?c1 ?c2 ?c3 ?c4 ?c5 ?_))
          case c1 =>
            intro j u hj
            match j, hj with
            | 0, hj => simp at hj; subst hj; simp only [Addr.add]; exact cell_new rfl
          case c2 => intro u hu; simp at hu; subst hu; rfl
          case c3 => unfold maxLen; omega
          case c4 => omega
          case c5 => simp; omega
          intro v' w1 hown' hgrow _
          have S1 := Lib.hid (since_grown (hS2.out.alloc hsz _) (by simp; omega) hgrow (fun k e => (hO2.out.lt k e).1))
          have O1 := Lib.hid hown'
          have V1 : Hid (RowsAt w1 (vs ++ [.slice (some ⟨g, 0, none⟩) n cap]) (allD s n (I + 1))) := Lib.hid (by
            rw [hE.out]
            have hal := (World.Since.refl wr.heap.size wr).alloc (Nat.le_refl _) (.cells #[.slice (some ⟨g, 0, none⟩) n cap] 32)
            exact ((hV2.out.push hrow.out).up hal).same (grown_rows (hO2.out.alloc _) hgrow))
          clear hown' hgrow hO2 hV2 hS2 hsz hrow
          go_wp2_with fail
          go_roundg (m - (I + 1))
          case measure => omega
          case rel => exact ⟨I + 1, _, by omega, rfl, by go_num, by rw [← hit.out], O1, V1, S1⟩
    · obtain rfl : m = I := by omega
      go_wp2_with fail
      go_ret2
      exact ⟨_, vs, rfl, hO.out, hV.out, hS.out⟩
end Go.Proofs.YtkklagdniaoghaaGreatDoor
namespace Go.Proofs.YtkklagdniaoghaaGreatDoor
open Go.RowKit

def dBad (n m : Int) : Prop := n < 1 ∨ 256 < n ∨ m < 0 ∨ 1000 < m
set_option maxHeartbeats 1600000 in
set_option maxRecDepth 1000000 in
theorem draws_bad (s n m : Int) (w : World) (hn1 : -9223372036854775808 ≤ n) (hn2 : n ≤ 9223372036854775807) (hm1 : -9223372036854775808 ≤ m) (hm2 : m ≤ 9223372036854775807) (hb : dBad n m) :
    Calls Tryz.prog 9 #[.int .u64 s, .int .i64 n, .int .i64 m] w fun e w' => e = .returned (.tuple #[.slice none 0 0, .int .u8 1]) ∧ w = w' := by
  unfold dBad at hb
  by_cases h1 : n < 1
  · clear hb
    go_enter Tryz.func9, Tryz.ntmps9
    go_wp2_with fail
    go_ret2
    exact ⟨rfl, rfl⟩
  by_cases h2 : 256 < n
  · clear hb
    go_enter Tryz.func9, Tryz.ntmps9
    go_wp2_with fail
    go_ret2
    exact ⟨rfl, rfl⟩
  by_cases h3 : m < 0
  · clear hb
    go_enter Tryz.func9, Tryz.ntmps9
    go_wp2_with fail
    go_ret2
    exact ⟨rfl, rfl⟩
  · have h4 : 1000 < m := by omega
    clear hb
    go_enter Tryz.func9, Tryz.ntmps9
    go_wp2_with fail
    go_ret2
    exact ⟨rfl, rfl⟩
set_option maxHeartbeats 1600000 in
set_option maxRecDepth 1000000 in
theorem refDraws_bad (s n m : Int) (w : World) (hn1 : -9223372036854775808 ≤ n) (hn2 : n ≤ 9223372036854775807) (hm1 : -9223372036854775808 ≤ m) (hm2 : m ≤ 9223372036854775807) (hb : dBad n m) :
    Calls Tryz.prog 10 #[.int .u64 s, .int .i64 n, .int .i64 m] w fun e w' => e = .returned (.tuple #[.slice none 0 0, .int .u8 1]) ∧ w = w' := by
  unfold dBad at hb
  by_cases h1 : n < 1
  · clear hb
    go_enter Tryz.func10, Tryz.ntmps10
    go_wp2_with fail
    go_ret2
    exact ⟨rfl, rfl⟩
  by_cases h2 : 256 < n
  · clear hb
    go_enter Tryz.func10, Tryz.ntmps10
    go_wp2_with fail
    go_ret2
    exact ⟨rfl, rfl⟩
  by_cases h3 : m < 0
  · clear hb
    go_enter Tryz.func10, Tryz.ntmps10
    go_wp2_with fail
    go_ret2
    exact ⟨rfl, rfl⟩
  · have h4 : 1000 < m := by omega
    clear hb
    go_enter Tryz.func10, Tryz.ntmps10
    go_wp2_with fail
    go_ret2
    exact ⟨rfl, rfl⟩
end Go.Proofs.YtkklagdniaoghaaGreatDoor
