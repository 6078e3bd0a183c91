import Derived.Test.YtcniiphmepgfeaaB2
import Derived.Deep.RegionWith
namespace Go.Proofs.Ytcniiphmepgfeaa
open Go.RowKit

/-- a slice of strings that lies below block B -/
structure StrAt (w : World) (B : Nat) (A : Option Addr) (l : List ByteArray) : Prop where
  at_ : ∀ i (h : i < l.length), ∃ ad, A = some ad ∧ ad.block < B ∧ w.cell? (ad.add i) = some (.string l[i])
theorem StrAt.below {w w' : World} {B B' : Nat} {A : Option Addr} {l : List ByteArray} (h : StrAt w B A l) (hb : Below B' w w') (hB : B ≤ B') : StrAt w' B A l :=
  ⟨fun i hi => by
    obtain ⟨ad, h0, h1, h2⟩ := h.at_ i hi
    exact ⟨ad, h0, h1, by rw [hb.cell (by rw [block_add]; omega)]; exact h2⟩⟩

theorem UniAt.more {w : World} {B B' : Nat} {A : Option Addr} {us : List UniD} (h : UniAt w B A us) (hB : B ≤ B') : UniAt w B' A us :=
  ⟨fun i hi => by obtain ⟨ad, h0, h1, h2⟩ := h.at_ i hi; exact ⟨ad, h0, by omega, h2⟩⟩
theorem BiAt.more {w : World} {B B' : Nat} {A : Option Addr} {us : List BiD} (h : BiAt w B A us) (hB : B ≤ B') : BiAt w B' A us :=
  ⟨fun i hi => by obtain ⟨ad, h0, h1, h2⟩ := h.at_ i hi; exact ⟨ad, h0, by omega, h2⟩⟩
theorem StrAt.more {w : World} {B B' : Nat} {A : Option Addr} {us : List ByteArray} (h : StrAt w B A us) (hB : B ≤ B') : StrAt w B' A us :=
  ⟨fun i hi => by obtain ⟨ad, h0, h1, h2⟩ := h.at_ i hi; exact ⟨ad, h0, by omega, h2⟩⟩
theorem UniAt.drew {w : World} {B : Nat} {A : Option Addr} {us : List UniD} (h : UniAt w B A us) : UniAt w.drew B A us := ⟨h.at_⟩
theorem BiAt.drew {w : World} {B : Nat} {A : Option Addr} {us : List BiD} (h : BiAt w B A us) : BiAt w.drew B A us := ⟨h.at_⟩
theorem StrAt.drew {w : World} {B : Nat} {A : Option Addr} {us : List ByteArray} (h : StrAt w B A us) : StrAt w.drew B A us := ⟨h.at_⟩

theorem lastOf_size {l : List ByteArray} (h : ∀ x ∈ l, x.size ≤ maxLen) : ∀ k, (lastOf l k).size ≤ maxLen
  | 0 => by simp [lastOf]
  | k + 1 => by
    unfold lastOf
    by_cases hk : k < l.length
    · simp only [List.getD, List.getElem?_eq_getElem hk, Option.getD_some]; exact h _ (List.getElem_mem hk)
    · simp [List.getD, List.getElem?_eq_none (Nat.le_of_not_lt hk)]
theorem sumTo_succ (m : Mdl) (l : List ByteArray) {k : Nat} (hk : k < l.length) : sumTo m l (k + 1) = sumTo m l k + stepM m (lastOf l k) l[k] := by
  simp [sumTo, List.getD, hk]
theorem lastOf_succ (l : List ByteArray) {k : Nat} (hk : k < l.length) : lastOf l (k + 1) = l[k] := by
  simp [lastOf, List.getD, hk]

set_option maxRecDepth 100000 in
set_option maxHeartbeats 1000000 in
theorem score19 (m : Mdl) (hV : Valid m) (l : List ByteArray) (bw bp : Nat) (w : World) (L : Option Addr) (cL : Nat) (hL : StrAt w w.heap.size L l) (hll : l.length ≤ 4096) (hls : ∀ x ∈ l, x.size ≤ maxLen)
    (hmw : MapHas Try.prog 9 w bw (m.words.map wEnt)) (hmp : MapHas Try.prog 61 w bp (m.pairs.map pEnt)) :
    Calls Try.prog 19 #[.agg #[.int .i64 m.unknown, .map (some bw), .map (some bp)], .slice L l.length cL] w fun e w' =>
      e = .returned (.int .i64 (totalM m l)) ∧ Below w.heap.size w w' := by
  have HLS := Lib.hid hls
  clear hls
  go_enter Try.func19, Try.ntmps19
  go_wp2
  go_loopw [5, 6, 11] (fun s la i wr => ∃ k : Nat, k ≤ l.length ∧ i = .int .i64 k ∧ s = .int .i64 (sumTo m l k) ∧ la = .string (lastOf l k) ∧
      Below (w.heap.size + 1) (w.alloc (.cells #[.int .i64 m.unknown, .map (some bw), .map (some bp)] 53)) wr) (fun _ _ i _ => l.length - (intOf i).toNat)
  case atStart => exact ⟨0, by omega, rfl, rfl, rfl, Below.refl _ _⟩
  case round =>
    obtain ⟨k, hk, rfl, rfl, rfl, hb⟩ := hrel
    have hbel : Below w.heap.size w wr := ((Below.refl _ _).alloc (Nat.le_refl _) _).trans (hb.mono (by omega))
    have hbox : Blk wr w.heap.size 53 #[.int .i64 m.unknown, .map (some bw), .map (some bp)] := (Blk.new _ _ _).below hb (by omega)
    have hx0 := hbox.cell 0
    have hx1 := hbox.cell 1
    have hx2 := hbox.cell 2
    simp at hx0 hx1 hx2
    have hsz : w.heap.size + 1 ≤ wr.heap.size := by have := hb.size; simpa using this
    have hmw' := hmw.below hbel hmw.lt
    have hmp' := hmp.below hbel hmp.lt
    have hL' := hL.below hbel (Nat.le_refl _)
    have hlsz := lastOf_size HLS.out k
    have hsb := sumTo_bd hV l k
    by_cases hlt : k < l.length
    · obtain ⟨ad, rfl, hab, c0⟩ := hL'.at_ k hlt
      have h1 := sumTo_succ m l hlt
      have h2 := lastOf_succ l hlt
      have h3 := HLS.out _ (List.getElem_mem hlt)
      have h4 := stepM_bd hV (lastOf l k) l[k]
      have H1 := Lib.hid h1
      have H2 := Lib.hid h2
      clear h1 h2
      generalize l[k] = x at *
      generalize lastOf l k = la at *
      go_wp2_with fail
      refine (step15 m hV _ _ _ _ _ hlsz h3 hmw' hmp').mono ?_
      rintro e w1 ⟨rfl, hb1⟩
      have hb2 := Lib.hid (hb.trans (hb1.mono (by omega)))
      go_wp2
      go_roundw
      case rel => exact ⟨k + 1, by omega, by go_num, by rw [H1.out], by rw [H2.out], hb2.out⟩
      case measure => simp [intOf]; omega
    · obtain rfl : k = l.length := by omega
      have h4 := stepM_bd hV (lastOf l l.length) .empty
      have HF : Hid (totalM m l = sumTo m l l.length + stepM m (lastOf l l.length) .empty) := rfl
      go_wp2_with fail
      refine (step15 m hV _ .empty _ _ _ hlsz (by simp) hmw' hmp').mono ?_
      rintro e w1 ⟨rfl, hb1⟩
      have hb2 := Lib.hid (hbel.trans (hb1.mono (by omega)))
      go_wp2
      go_ret
      exact ⟨ret_int HF.out.symm, hb2.out⟩

set_option maxRecDepth 100000 in
set_option maxHeartbeats 1000000 in
theorem score21 (m : Mdl) (hV : Valid m) (l : List ByteArray) (w : World) (A C : Option Addr) (cA cC : Nat) (hA : UniAt w w.heap.size A m.words) (hC : BiAt w w.heap.size C m.pairs)
    (L : Option Addr) (cL : Nat) (hL : StrAt w w.heap.size L l) (hll : l.length ≤ 4096) :
    Calls Try.prog 21 #[.agg #[.int .i64 m.unknown, .slice A m.words.length cA, .slice C m.pairs.length cC], .slice L l.length cL] w fun e w' =>
      e = .returned (.int .i64 (totalM m l)) ∧ Below w.heap.size w w' := by
  go_enter Try.func21, Try.ntmps21
  go_wp2
  go_loopw [5, 6, 7] (fun s la i wr => ∃ k : Nat, k ≤ l.length ∧ i = .int .i64 k ∧ s = .int .i64 (sumTo m l k) ∧ la = .string (lastOf l k) ∧
      Below (w.heap.size + 1) (w.alloc (boxM m A C cA cC)) wr) (fun _ _ i _ => l.length - (intOf i).toNat)
  case atStart => exact ⟨0, by omega, rfl, rfl, rfl, Below.refl _ _⟩
  case round =>
    obtain ⟨k, hk, rfl, rfl, rfl, hb⟩ := hrel
    have hbel : Below w.heap.size w wr := ((Below.refl _ _).alloc (Nat.le_refl _) _).trans (hb.mono (by omega))
    have hbox : Blk wr w.heap.size 25 #[.int .i64 m.unknown, .slice A m.words.length cA, .slice C m.pairs.length cC] := (Blk.new _ _ _).below hb (by omega)
    have hx0 := hbox.cell 0
    have hx1 := hbox.cell 1
    have hx2 := hbox.cell 2
    simp at hx0 hx1 hx2
    have hsz : w.heap.size + 1 ≤ wr.heap.size := by have := hb.size; simpa using this
    have hA' := hA.below hbel (Nat.le_refl _)
    have hC' := hC.below hbel (Nat.le_refl _)
    have hL' := hL.below hbel (Nat.le_refl _)
    have hsb := sumTo_bd hV l k
    by_cases hlt : k < l.length
    · obtain ⟨ad, rfl, hab, c0⟩ := hL'.at_ k hlt
      have h1 := sumTo_succ m l hlt
      have h2 := lastOf_succ l hlt
      have h4 := stepM_bd hV (lastOf l k) l[k]
      have H1 := Lib.hid h1
      have H2 := Lib.hid h2
      clear h1 h2
      generalize l[k] = x at *
      generalize lastOf l k = la at *
      go_wp2_with fail
      have hAd := (hA'.more (by omega : w.heap.size ≤ wr.heap.size)).drew
      have hCd := (hC'.more (by omega : w.heap.size ≤ wr.heap.size)).drew
      go_region_with (go_at_call 17; refine (step17 m hV _ _ _ _ _ _ _ hAd hCd).mono ?_; rintro e w1 ⟨rfl, hb1⟩)
      all_goals
        have hc1 : w1.cell? (ad.add k) = some (.string x) := (hb1.cell (by rw [block_add]; show ad.block < wr.heap.size; omega)).trans c0
        have hb2 := Lib.hid ((hb.drew).trans (hb1.mono (show w.heap.size + 1 ≤ wr.drew.heap.size from hsz)))
        go_wp2
        go_roundw
        case rel => exact ⟨k + 1, by omega, by go_num, by rw [H1.out], by rw [H2.out], hb2.out⟩
        case measure => simp [intOf]; omega
    · obtain rfl : k = l.length := by omega
      have h4 := stepM_bd hV (lastOf l l.length) .empty
      have HF : Hid (totalM m l = sumTo m l l.length + stepM m (lastOf l l.length) .empty) := rfl
      go_wp2_with fail
      refine (step17 m hV _ .empty _ _ _ _ _ (hA'.more (by omega)) (hC'.more (by omega))).mono ?_
      rintro e w1 ⟨rfl, hb1⟩
      have hb2 := Lib.hid (hbel.trans (hb1.mono (by omega)))
      go_wp2
      go_ret
      exact ⟨ret_int HF.out.symm, hb2.out⟩
end Go.Proofs.Ytcniiphmepgfeaa
