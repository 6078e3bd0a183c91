import Derived.Test.YtcniiphmepgfeaaA3
import Derived.Test.YtcniiphmepgfeaaM1
namespace Go.Proofs.Ytcniiphmepgfeaa
open Go.RowKit

structure UniD where
  word : ByteArray
  cost : Int
  back : Int
structure BiD where
  first : ByteArray
  second : ByteArray
  cost : Int
structure Mdl where
  unknown : Int
  words : List UniD
  pairs : List BiD

/-- slice 'A' of n elements reads as us, below block B -/
structure UniAt (w : World) (B : Nat) (A : Option Addr) (us : List UniD) : Prop where
  at_ : ∀ i (h : i < us.length), ∃ ad, A = some ad ∧ ad.block < B ∧ w.cell? (ad.add (i * 3)) = some (.string us[i].word) ∧
    w.cell? ⟨(ad.add (i * 3)).block, (ad.add (i * 3)).off + 1, none⟩ = some (.int .i64 us[i].cost) ∧ w.cell? ⟨(ad.add (i * 3)).block, (ad.add (i * 3)).off + 2, none⟩ = some (.int .i64 us[i].back)
structure BiAt (w : World) (B : Nat) (A : Option Addr) (bs : List BiD) : Prop where
  at_ : ∀ i (h : i < bs.length), ∃ ad, A = some ad ∧ ad.block < B ∧ w.cell? (ad.add (i * 3)) = some (.string bs[i].first) ∧
    w.cell? ⟨(ad.add (i * 3)).block, (ad.add (i * 3)).off + 1, none⟩ = some (.string bs[i].second) ∧ w.cell? ⟨(ad.add (i * 3)).block, (ad.add (i * 3)).off + 2, none⟩ = some (.int .i64 bs[i].cost)

theorem block_add (a : Addr) (n : Nat) : (a.add n).block = a.block := by unfold Addr.add; split <;> rfl
theorem UniAt.below {w w' : World} {B B' : Nat} {A : Option Addr} {us : List UniD} (h : UniAt w B A us) (hb : Below B' w w') (hB : B ≤ B') : UniAt w' B A us :=
  ⟨fun i hi => by
    obtain ⟨ad, h0, h1, h2, h3, h4⟩ := h.at_ i hi
    refine ⟨ad, h0, h1, ?_, ?_, ?_⟩ <;> (rw [hb.cell (by simp only [block_add]; omega)]; assumption)⟩
theorem BiAt.below {w w' : World} {B B' : Nat} {A : Option Addr} {us : List BiD} (h : BiAt w B A us) (hb : Below B' w w') (hB : B ≤ B') : BiAt w' B A us :=
  ⟨fun i hi => by
    obtain ⟨ad, h0, h1, h2, h3, h4⟩ := h.at_ i hi
    refine ⟨ad, h0, h1, ?_, ?_, ?_⟩ <;> (rw [hb.cell (by simp only [block_add]; omega)]; assumption)⟩


def eqB (a b : ByteArray) : Bool := a.toList == b.toList
def gtB (a b : ByteArray) : Bool := !(Op.bytesLess a.toList b.toList || a.toList == b.toList)
def badW (x : UniD) : Bool := !endB x.word || !costB x.cost || !costB x.back
def wErr (ws : List UniD) (i : Nat) : Int :=
  match ws[i]? with
  | none => 0
  | some x => if badW x then 1 else
    match i with
    | 0 => 0
    | j + 1 => match ws[j]? with
      | none => 0
      | some y => if eqB y.word x.word then 6 else if gtB y.word x.word then 1 else 0
def pB (l1 e1 l2 e2 : Bool) : Int := if (e1 && e2) = true then 6 else if (!(l1 || e1) || e1 && !(l2 || e2)) = true then 1 else 0
def badP (x : BiD) : Bool := !endB x.first || !endB x.second || !costB x.cost
def pErr (ws : List BiD) (i : Nat) : Int :=
  match ws[i]? with
  | none => 0
  | some x => if badP x then 1 else
    match i with
    | 0 => 0
    | j + 1 => match ws[j]? with
      | none => 0
      | some y => pB (Op.bytesLess y.first.toList x.first.toList) (y.first.toList == x.first.toList) (Op.bytesLess y.second.toList x.second.toList) (y.second.toList == x.second.toList)
theorem bytesLess_irrefl : ∀ l : List UInt8, Op.bytesLess l l = false
  | [] => rfl
  | a :: l => by simp [Op.bytesLess, bytesLess_irrefl l]
def pOf (c : Int) : Int := if c = 0 then 6 else if c = 1 then 1 else 0
theorem pure_p : ∀ l1 e1 l2 e2 : Bool, (l1 = true → e1 = false) → (l2 = true → e2 = false) →
    pB l1 e1 l2 e2 =
      pOf (orI (if l1 = true then -1 else if e1 = true then 0 else 1) (if l2 = true then -1 else if e2 = true then 0 else 1)) := by decide
theorem pure_o : ∀ l1 e1 l2 e2 : Bool, orI (if l1 = true then -1 else if e1 = true then 0 else 1) (if l2 = true then -1 else if e2 = true then 0 else 1) = 0 ∨
    orI (if l1 = true then -1 else if e1 = true then 0 else 1) (if l2 = true then -1 else if e2 = true then 0 else 1) = 1 ∨
    orI (if l1 = true then -1 else if e1 = true then 0 else 1) (if l2 = true then -1 else if e2 = true then 0 else 1) = -1 := by decide
theorem pErr_of {ws : List BiD} {j : Nat} {x y : BiD} (hX : ws[j + 1]? = some x) (hY : ws[j]? = some y) (hB : badP x = false) :
    pErr ws (j + 1) = pOf (orI (cmpS y.first x.first) (cmpS y.second x.second)) := by
  have key : ∀ a b : ByteArray, (Op.bytesLess a.toList b.toList = true → (a.toList == b.toList) = false) := fun a b h => by
    cases e : (a.toList == b.toList)
    · rfl
    · rw [beq_iff_eq.1 e, bytesLess_irrefl] at h; cases h
  have k1 := key y.first x.first
  have k2 := key y.second x.second
  have := pure_p (Op.bytesLess y.first.toList x.first.toList) (y.first.toList == x.first.toList) (Op.bytesLess y.second.toList x.second.toList) (y.second.toList == x.second.toList) k1 k2
  refine Eq.trans ?_ this
  simp only [pErr, hX, hY, hB, Bool.false_eq_true, if_false]
theorem orI_three (a b c d : ByteArray) : orI (cmpS a b) (cmpS c d) = 0 ∨ orI (cmpS a b) (cmpS c d) = 1 ∨ orI (cmpS a b) (cmpS c d) = -1 :=
  pure_o (Op.bytesLess a.toList b.toList) (a.toList == b.toList) (Op.bytesLess c.toList d.toList) (c.toList == d.toList)
def firstErr (f : Nat → Int) : Nat → Nat → Int
  | 0, _ => 0
  | n + 1, i => if f i = 0 then firstErr f n (i + 1) else f i
theorem firstErr_none {f : Nat → Int} : ∀ n i, (∀ j, i ≤ j → j < i + n → f j = 0) → firstErr f n i = 0
  | 0, _, _ => rfl
  | n + 1, i, h => by simp [firstErr, h i (by omega) (by omega)]; exact firstErr_none n (i + 1) fun j a b => h j (by omega) (by omega)
theorem firstErr_at {f : Nat → Int} {k : Nat} (hk : f k ≠ 0) : ∀ n i, i ≤ k → k < i + n → (∀ j, i ≤ j → j < k → f j = 0) → firstErr f n i = f k
  | 0, i, h1, h2, _ => by omega
  | n + 1, i, h1, h2, h => by
    by_cases e : i = k
    · subst e; simp [firstErr, hk]
    · simp [firstErr, h i (by omega) (by omega)]; exact firstErr_at hk n (i + 1) (by omega) (by omega) fun j a b => h j (by omega) b
def chk (m : Mdl) : Int :=
  if costB m.unknown = false then 1 else
  if 512 < m.words.length ∨ 2048 < m.pairs.length then 3 else
  if firstErr (wErr m.words) m.words.length 0 = 0 then firstErr (pErr m.pairs) m.pairs.length 0 else firstErr (wErr m.words) m.words.length 0

theorem chk_unknown {m : Mdl} (h : costB m.unknown = false) : chk m = 1 := by simp [chk, h]
theorem chk_limit {m : Mdl} (h : costB m.unknown = true) (h' : 512 < m.words.length ∨ 2048 < m.pairs.length) : chk m = 3 := by simp [chk, h, h']
theorem chk_word {m : Mdl} {k : Nat} {n : Int} (h : costB m.unknown = true) (h1 : ¬ (512 < m.words.length ∨ 2048 < m.pairs.length)) (hk : k < m.words.length)
    (hz : ∀ j, j < k → wErr m.words j = 0) (he : wErr m.words k = n) (hn : n ≠ 0) : chk m = n := by
  have := firstErr_at (f := wErr m.words) (k := k) (by rw [he]; exact hn) m.words.length 0 (by omega) (by omega) (fun j _ hj => hz j hj)
  unfold chk
  rw [if_neg (by simp [h]), if_neg h1, this, he, if_neg hn]
theorem chk_pair {m : Mdl} {k : Nat} {n : Int} (h : costB m.unknown = true) (h1 : ¬ (512 < m.words.length ∨ 2048 < m.pairs.length)) (hk : k < m.pairs.length)
    (hw : ∀ j, j < m.words.length → wErr m.words j = 0) (hz : ∀ j, j < k → pErr m.pairs j = 0) (he : pErr m.pairs k = n) (hn : n ≠ 0) : chk m = n := by
  have h0 := firstErr_none (f := wErr m.words) m.words.length 0 (fun j _ hj => hw j (by omega))
  have := firstErr_at (f := pErr m.pairs) (k := k) (by rw [he]; exact hn) m.pairs.length 0 (by omega) (by omega) (fun j _ hj => hz j hj)
  unfold chk
  rw [if_neg (by simp [h]), if_neg h1, h0, if_pos rfl, this, he]
theorem chk_ok {m : Mdl} (h : costB m.unknown = true) (h1 : ¬ (512 < m.words.length ∨ 2048 < m.pairs.length))
    (hw : ∀ j, j < m.words.length → wErr m.words j = 0) (hz : ∀ j, j < m.pairs.length → pErr m.pairs j = 0) : chk m = 0 := by
  have h0 := firstErr_none (f := wErr m.words) m.words.length 0 (fun j _ hj => hw j (by omega))
  have := firstErr_none (f := pErr m.pairs) m.pairs.length 0 (fun j _ hj => hz j (by omega))
  unfold chk
  rw [if_neg (by simp [h]), if_neg h1, h0, if_pos rfl, this]

def boxM (m : Mdl) (A C : Option Addr) (cA cC : Nat) : Obj := .cells #[.int .i64 m.unknown, .slice A m.words.length cA, .slice C m.pairs.length cC] 25

theorem wp_still_tail' {P : Program} {id : Nat} {Q : Exit → Act → World → Prop} {a : Act} {w : World} {l : List Oper} (n : Nat) (hm : P.follows .mixedOrders = true) (hB : Region.lexTailB .any l.toArray n = true)
    (h : wpStill P l.toArray w.drew (fun a' => wpList P l.toArray Q (l.drop n) a' w.drew) (l.take n) a) : (Code.region id l.toArray true).wp P Q a w :=
  wp_region_still_tail n hm hB h
theorem cell_new_box (w : World) (cs : Array Value) (t : TypeId) (j : Nat) : (w.alloc (.cells cs t)).cell? ⟨w.heap.size, j, none⟩ = cs[j]? := by
  have : (w.alloc (.cells cs t)).heap[w.heap.size]? = some (.cells cs t (0, 0)) := heap_alloc_new w _
  unfold World.cell?
  simp only [this]
  simp

set_option maxRecDepth 100000 in
set_option maxHeartbeats 1000000 in
theorem check10 (m : Mdl) (w : World) (A C : Option Addr) (cA cC : Nat) (hA : UniAt w w.heap.size A m.words) (hC : BiAt w w.heap.size C m.pairs) (hlA : m.words.length ≤ 100000) (hlC : m.pairs.length ≤ 100000) :
    Calls Try.prog 10 #[.agg #[.int .i64 m.unknown, .slice A m.words.length cA, .slice C m.pairs.length cC]] w fun e w' => e = .returned (.int .u8 (chk m)) ∧ Below w.heap.size w w' := by
  cases h0 : costB m.unknown
  · have H := Lib.hid (chk_unknown h0)
    go_enter Try.func10, Try.ntmps10
    go_wp2_with (go_at_call 22; refine (cost22 _ _).mono ?_; rintro e w' ⟨rfl, rfl⟩)
    go_ret
    exact ⟨ret_int H.out.symm, (Below.refl _ _).alloc (Nat.le_refl _) _⟩
  by_cases h1 : 512 < m.words.length
  · have H := Lib.hid (chk_limit h0 (.inl h1))
    go_enter Try.func10, Try.ntmps10
    go_wp2_with (go_at_call 22; refine (cost22 _ _).mono ?_; rintro e w' ⟨rfl, rfl⟩)
    go_ret
    exact ⟨ret_int H.out.symm, (Below.refl _ _).alloc (Nat.le_refl _) _⟩
  by_cases h2 : 2048 < m.pairs.length
  · have H := Lib.hid (chk_limit h0 (.inr h2))
    go_enter Try.func10, Try.ntmps10
    go_wp2_with (go_at_call 22; refine (cost22 _ _).mono ?_; rintro e w' ⟨rfl, rfl⟩)
    go_ret
    exact ⟨ret_int H.out.symm, (Below.refl _ _).alloc (Nat.le_refl _) _⟩
  go_enter Try.func10, Try.ntmps10
  go_wp2_with (go_at_call 22; refine (cost22 _ _).mono ?_; rintro e w' ⟨rfl, rfl⟩)
  go_loopw [27] (fun i wr => ∃ k : Nat, k ≤ m.words.length ∧ i = .int .i64 k ∧ (∀ j, j < k → wErr m.words j = 0) ∧ Below (w.heap.size + 1) (w.alloc (boxM m A C cA cC)) wr) (fun i _ => m.words.length - (intOf i).toNat)
  case atStart => exact ⟨0, by omega, rfl, by simp, Below.refl _ _⟩
  case round =>
    obtain ⟨k, hk, rfl, hz, hb⟩ := hrel
    have HZ := Lib.hid hz
    clear hz
    have hsz : w.heap.size + 1 ≤ wr.heap.size := by have := hb.size; simpa using this
    have hbox : ∀ j, wr.cell? ⟨w.heap.size, j, none⟩ = #[Value.int .i64 m.unknown, .slice A m.words.length cA, .slice C m.pairs.length cC][j]? := fun j => by
      rw [hb.cell (by simp)]; exact cell_new_box _ _ _ _
    have hA' := (hA.below ((Below.refl _ _).alloc (Nat.le_refl _) (boxM m A C cA cC)) (Nat.le_refl _)).below hb (by omega)
    have hx0 := hbox 0
    have hx1 := hbox 1
    have hx2 := hbox 2
    clear hbox
    simp at hx0 hx1 hx2
    have hy1 : ∀ o, (wr.alloc o).cell? ⟨w.heap.size, 1, none⟩ = some (.slice A m.words.length cA) := fun o => (World.cell?_alloc_lt wr o _ (by simp; omega)).trans hx1
    by_cases hlt : k < m.words.length
    · obtain ⟨ad, rfl, hab, c0, c1, c2⟩ := hA'.at_ k hlt
      have hxe : m.words[k]? = some m.words[k] := List.getElem?_eq_getElem hlt
      generalize m.words[k] = x at *
      have HX := Lib.hid hxe
      clear hxe
      cases he : endB x.word
      · have H := Lib.hid (chk_word h0 (by omega) hlt HZ.out (show wErr m.words k = 1 by simp [wErr, HX.out, badW, he]) (by omega))
        go_wp2_with (go_at_call 13; refine (end13 _ _).mono ?_; rintro e w' ⟨rfl, rfl⟩)
        go_ret
        exact ⟨ret_int H.out.symm, (((Below.refl _ _).alloc (Nat.le_refl _) _).trans (hb.mono (by omega))).alloc (by omega) _⟩
      cases hc : costB x.cost
      · have H := Lib.hid (chk_word h0 (by omega) hlt HZ.out (show wErr m.words k = 1 by simp [wErr, HX.out, badW, he, hc]) (by omega))
        go_wp2_with (first | (go_at_call 13; refine (end13 _ _).mono ?_; rintro e w' ⟨rfl, rfl⟩) | (go_at_call 22; refine (cost22 _ _).mono ?_; rintro e w' ⟨rfl, rfl⟩))
        go_ret
        exact ⟨ret_int H.out.symm, (((Below.refl _ _).alloc (Nat.le_refl _) _).trans (hb.mono (by omega))).alloc (by omega) _⟩
      cases hc2 : costB x.back
      · have H := Lib.hid (chk_word h0 (by omega) hlt HZ.out (show wErr m.words k = 1 by simp [wErr, HX.out, badW, he, hc, hc2]) (by omega))
        go_wp2_with (first | (go_at_call 13; refine (end13 _ _).mono ?_; rintro e w' ⟨rfl, rfl⟩) | (go_at_call 22; refine (cost22 _ _).mono ?_; rintro e w' ⟨rfl, rfl⟩))
        go_ret
        exact ⟨ret_int H.out.symm, (((Below.refl _ _).alloc (Nat.le_refl _) _).trans (hb.mono (by omega))).alloc (by omega) _⟩
      have hbad : badW x = false := by simp [badW, he, hc, hc2]
      have HB := Lib.hid hbad
      clear hbad
      rcases Nat.eq_zero_or_pos k with hk0 | hk0
      · have H : Hid (∀ j, j < k + 1 → wErr m.words j = 0) := fun j hj => by
          obtain rfl : j = k := by omega
          have hxx := HX.out
          rw [hk0] at hxx ⊢
          simp [wErr, hxx, HB.out]
        have hd : decide ((0 : Int) < k) = false := by simp; omega
        have hd2 : decide (0 < k) = false := by simp; omega
        have HK0 := Lib.hid hk0
        clear hk0
        go_wp2_with (first | (go_at_call 13; refine (end13 _ _).mono ?_; rintro e w' ⟨rfl, rfl⟩) | (go_at_call 22; refine (cost22 _ _).mono ?_; rintro e w' ⟨rfl, rfl⟩))
        go_quiet (fail)
        go_wp2
        go_quiet (fail)
        go_wp2
        go_roundw
        case rel => exact ⟨k + 1, by omega, by go_num, H.out, below_drewN (hb.alloc (by omega) _) _⟩
        case measure => simp [intOf]; omega
      · obtain ⟨j, rfl⟩ : ∃ j, k = j + 1 := ⟨k - 1, by omega⟩
        obtain ⟨ad', hade, _, d0, _, _⟩ := hA'.at_ j (by omega)
        obtain rfl : ad = ad' := by simpa using hade
        have d0' : ∀ o, (wr.alloc o).cell? (ad.add (j * 3)) = _ := fun o => (World.cell?_alloc_lt wr o _ (by rw [block_add]; omega)).trans d0
        have hye : m.words[j]? = some m.words[j] := List.getElem?_eq_getElem (by omega)
        generalize m.words[j] = y at *
        have HY := Lib.hid hye
        clear hye hade
        cases hq : (y.word.toList == x.word.toList)
        · cases hg : (Op.bytesLess y.word.toList x.word.toList)
          · have H := Lib.hid (chk_word h0 (by omega) hlt HZ.out (show wErr m.words (j + 1) = 1 by simp [wErr, HX.out, HY.out, HB.out, eqB, gtB, hq, hg]) (by omega))
            go_wp2_with (first | (go_at_call 13; refine (end13 _ _).mono ?_; rintro e w' ⟨rfl, rfl⟩) | (go_at_call 22; refine (cost22 _ _).mono ?_; rintro e w' ⟨rfl, rfl⟩))
            go_quiet (fail)
            go_wp2
            go_quiet (fail)
            go_wp2
            go_ret
            exact ⟨ret_int H.out.symm, below_drewN (below_drewN ((((Below.refl _ _).alloc (Nat.le_refl _) _).trans (hb.mono (by omega))).alloc (by omega) _) _) _⟩
          · have H : Hid (∀ i, i < j + 1 + 1 → wErr m.words i = 0) := fun i hi => by
              by_cases e : i < j + 1
              · exact HZ.out i e
              · obtain rfl : i = j + 1 := by omega
                simp [wErr, HX.out, HY.out, HB.out, eqB, gtB, hq, hg]
            go_wp2_with (first | (go_at_call 13; refine (end13 _ _).mono ?_; rintro e w' ⟨rfl, rfl⟩) | (go_at_call 22; refine (cost22 _ _).mono ?_; rintro e w' ⟨rfl, rfl⟩))
            go_quiet (fail)
            go_wp2
            go_quiet (fail)
            go_wp2
            go_roundw
            case rel => exact ⟨j + 1 + 1, by omega, by go_num, H.out, below_drewN (hb.alloc (by omega) _) _⟩
            case measure => simp [intOf]; omega
        · have H := Lib.hid (chk_word h0 (by omega) hlt HZ.out (show wErr m.words (j + 1) = 6 by simp [wErr, HX.out, HY.out, HB.out, eqB, hq]) (by omega))
          go_wp2_with (first | (go_at_call 13; refine (end13 _ _).mono ?_; rintro e w' ⟨rfl, rfl⟩) | (go_at_call 22; refine (cost22 _ _).mono ?_; rintro e w' ⟨rfl, rfl⟩))
          go_quiet (fail)
          go_wp2
          go_ret
          exact ⟨ret_int H.out.symm, below_drewN ((((Below.refl _ _).alloc (Nat.le_refl _) _).trans (hb.mono (by omega))).alloc (by omega) _) _⟩
    · have HW : Hid (∀ j, j < m.words.length → wErr m.words j = 0) := fun j hj => HZ.out j (by omega)
      clear HZ
      have hC0 := (hC.below ((Below.refl _ _).alloc (Nat.le_refl _) (boxM m A C cA cC)) (Nat.le_refl _)).below hb (by omega)
      clear hA' hy1 hx0 hx1
      obtain ⟨wo, rfl⟩ : ∃ wo : World, wo = wr := ⟨_, rfl⟩
      go_wp2
      go_loopw [83] (fun i wr => ∃ k : Nat, k ≤ m.pairs.length ∧ i = .int .i64 k ∧ (∀ j, j < k → pErr m.pairs j = 0) ∧ Below wo.heap.size wo wr) (fun i _ => m.pairs.length - (intOf i).toNat)
      case atStart => exact ⟨0, by omega, rfl, by simp, Below.refl _ _⟩
      case round =>
        obtain ⟨n, hn, rfl, hz, hb2⟩ := hrel
        have HZ := Lib.hid hz
        clear hz
        have hsz2 := hb2.size
        have hfin : Below w.heap.size w wr := ((Below.refl _ _).alloc (Nat.le_refl _) _).trans ((hb.mono (by omega)).trans (hb2.mono (by omega)))
        have hC' := hC0.below hb2 (by omega)
        have hx2' : wr.cell? ⟨w.heap.size, 2, none⟩ = some (.slice C m.pairs.length cC) := (hb2.cell (by simp; omega)).trans hx2
        have hy2 : ∀ o, (wr.alloc o).cell? ⟨w.heap.size, 2, none⟩ = some (.slice C m.pairs.length cC) := fun o => (World.cell?_alloc_lt wr o _ (by simp; omega)).trans hx2'
        clear hx2
        by_cases hlt2 : n < m.pairs.length
        · obtain ⟨ad, rfl, hab, c0, c1, c2⟩ := hC'.at_ n hlt2
          have hxe : m.pairs[n]? = some m.pairs[n] := List.getElem?_eq_getElem hlt2
          generalize m.pairs[n] = x at *
          have HX := Lib.hid hxe
          clear hxe
          cases he : endB x.first
          · have H := Lib.hid (chk_pair h0 (by omega) hlt2 HW.out HZ.out (show pErr m.pairs n = 1 by simp [pErr, HX.out, badP, he]) (by omega))
            go_wp2_with (first | (go_at_call 13; refine (end13 _ _).mono ?_; rintro e w' ⟨rfl, rfl⟩) | (go_at_call 22; refine (cost22 _ _).mono ?_; rintro e w' ⟨rfl, rfl⟩))
            go_ret
            exact ⟨ret_int H.out.symm, hfin.alloc (by omega) _⟩
          cases he2 : endB x.second
          · have H := Lib.hid (chk_pair h0 (by omega) hlt2 HW.out HZ.out (show pErr m.pairs n = 1 by simp [pErr, HX.out, badP, he, he2]) (by omega))
            go_wp2_with (first | (go_at_call 13; refine (end13 _ _).mono ?_; rintro e w' ⟨rfl, rfl⟩) | (go_at_call 22; refine (cost22 _ _).mono ?_; rintro e w' ⟨rfl, rfl⟩))
            go_ret
            exact ⟨ret_int H.out.symm, hfin.alloc (by omega) _⟩
          cases hc : costB x.cost
          · have H := Lib.hid (chk_pair h0 (by omega) hlt2 HW.out HZ.out (show pErr m.pairs n = 1 by simp [pErr, HX.out, badP, he, he2, hc]) (by omega))
            go_wp2_with (first | (go_at_call 13; refine (end13 _ _).mono ?_; rintro e w' ⟨rfl, rfl⟩) | (go_at_call 22; refine (cost22 _ _).mono ?_; rintro e w' ⟨rfl, rfl⟩))
            go_ret
            exact ⟨ret_int H.out.symm, hfin.alloc (by omega) _⟩
          have hbad : badP x = false := by simp [badP, he, he2, hc]
          have HB := Lib.hid hbad
          clear hbad
          rcases Nat.eq_zero_or_pos n with hk0 | hk0
          · have H : Hid (∀ j, j < n + 1 → pErr m.pairs j = 0) := fun j hj => by
              obtain rfl : j = n := by omega
              have hxx := HX.out
              rw [hk0] at hxx ⊢
              simp [pErr, hxx, HB.out]
            have hd : ((n : Int) == 0) = true := by simp; omega
            have hd2 : (n == 0) = true := by simp; omega
            have HK0 := Lib.hid hk0
            clear hk0
            go_wp2_with (first | (go_at_call 13; refine (end13 _ _).mono ?_; rintro e w' ⟨rfl, rfl⟩) | (go_at_call 22; refine (cost22 _ _).mono ?_; rintro e w' ⟨rfl, rfl⟩))
            go_roundw
            case rel => exact ⟨n + 1, by omega, by go_num, H.out, hb2.alloc (by omega) _⟩
            case measure => simp [intOf]; omega
          · obtain ⟨j, rfl⟩ : ∃ j, n = j + 1 := ⟨n - 1, by omega⟩
            obtain ⟨ad', hade, _, d0, d1, d2⟩ := hC'.at_ j (by omega)
            obtain rfl : ad = ad' := by simpa using hade
            have e0 : ∀ o, (wr.alloc o).cell? (ad.add (j * 3)) = _ := fun o => (World.cell?_alloc_lt wr o _ (by rw [block_add]; omega)).trans d0
            have e1 : ∀ o, (wr.alloc o).cell? ⟨(ad.add (j * 3)).block, (ad.add (j * 3)).off + 1, none⟩ = _ := fun o => (World.cell?_alloc_lt wr o _ (by simp only [block_add]; omega)).trans d1
            have e2 : ∀ o, (wr.alloc o).cell? ⟨(ad.add (j * 3)).block, (ad.add (j * 3)).off + 2, none⟩ = _ := fun o => (World.cell?_alloc_lt wr o _ (by simp only [block_add]; omega)).trans d2
            have hye : m.pairs[j]? = some m.pairs[j] := List.getElem?_eq_getElem (by omega)
            generalize m.pairs[j] = y at *
            have HY := Lib.hid hye
            clear hye hade
            have hd : ((j : Int) + 1 == 0) = false := by simp; omega
            go_wp2_with (first | (go_at_call 13; refine (end13 _ _).mono ?_; rintro e w' ⟨rfl, rfl⟩) | (go_at_call 22; refine (cost22 _ _).mono ?_; rintro e w' ⟨rfl, rfl⟩))
            refine wp_still_tail' 10 (by kernel_rfl) (by kernel_rfl) ?_
            simp only [List.take_succ_cons, List.take_zero, List.drop_succ_cons, List.drop_zero]
            repeat still_step
            still_call ((cmp24 _ _ _).mono fun _ _ h => ⟨h.1, h.2.symm⟩)
            repeat still_step
            still_call ((cmp24 _ _ _).mono fun _ _ h => ⟨h.1, h.2.symm⟩)
            refine wpStill_nil ?_
            go_wp2_with fail
            refine (or23 (cmpS y.first x.first) (cmpS y.second x.second) _ _ (by go_simp) (by go_simp)).mono ?_
            rintro e w' ⟨rfl, rfl⟩
            have hp := pErr_of HX.out HY.out HB.out
            have ht := orI_three y.first x.first y.second x.second
            generalize orI (cmpS y.first x.first) (cmpS y.second x.second) = c at *
            rcases ht with rfl | rfl | rfl
            · have H := Lib.hid (chk_pair h0 (by omega) hlt2 HW.out HZ.out (show pErr m.pairs (j + 1) = 6 by rw [hp]; rfl) (by omega))
              clear hp
              go_wp2
              go_ret
              exact ⟨ret_int H.out.symm, ((hfin.alloc (by omega) _).alloc (by simp; omega) _).drew.alloc (by simp; omega) _⟩
            · have H := Lib.hid (chk_pair h0 (by omega) hlt2 HW.out HZ.out (show pErr m.pairs (j + 1) = 1 by rw [hp]; rfl) (by omega))
              clear hp
              go_wp2
              go_ret
              exact ⟨ret_int H.out.symm, ((hfin.alloc (by omega) _).alloc (by simp; omega) _).drew.alloc (by simp; omega) _⟩
            · have H : Hid (∀ i, i < j + 1 + 1 → pErr m.pairs i = 0) := fun i hi => by
                by_cases e : i < j + 1
                · exact HZ.out i e
                · obtain rfl : i = j + 1 := by omega
                  exact hp
              clear hp
              go_wp2
              go_roundw
              case rel => exact ⟨j + 1 + 1, by omega, by go_num, H.out, ((hb2.alloc (by omega) _).alloc (by simp; omega) _).drew.alloc (by simp; omega) _⟩
              case measure => simp [intOf]; omega
        · have H := Lib.hid (chk_ok h0 (by omega) HW.out (fun j hj => HZ.out j (by omega)))
          go_wp2
          go_ret
          exact ⟨ret_int H.out.symm, hfin⟩
end Go.Proofs.Ytcniiphmepgfeaa
