import Derived.Test.YtcniiphmepgfeaaB5
import Derived.Test.YtcniiphmepgfeaaB6
import Derived.Deep.RegionHeld3
namespace Go.Proofs.Ytcniiphmepgfeaa
open Go.RowKit

def taskBox (m : Mdl) (a b : ByteArray) (vs : Array Value) (A C : Option Addr) (cA cC : Nat) : Array Value :=
  #[.int .i64 m.unknown, .slice A m.words.length cA, .slice C m.pairs.length cC, .string a, .string b] ++ vs
structure Inv (m : Mdl) (a b : ByteArray) (l : List ByteArray) (w : World) (A C L : Option Addr) (cA cC : Nat) (wi : World) : Prop where
  c0 : wi.cell? ⟨w.heap.size, 0, none⟩ = some (.int .i64 m.unknown)
  c1 : wi.cell? ⟨w.heap.size, 1, none⟩ = some (.slice A m.words.length cA)
  c2 : wi.cell? ⟨w.heap.size, 2, none⟩ = some (.slice C m.pairs.length cC)
  c3 : wi.cell? ⟨w.heap.size, 3, none⟩ = some (.string a)
  c4 : wi.cell? ⟨w.heap.size, 4, none⟩ = some (.string b)
  hA : UniAt wi wi.heap.size A m.words
  hC : BiAt wi wi.heap.size C m.pairs
  hL : StrAt wi wi.heap.size L l
  below : Below w.heap.size w wi
  lt : w.heap.size < wi.heap.size
section
variable {m : Mdl} {a b : ByteArray} {l : List ByteArray} {w wi wj : World} {A C L : Option Addr} {cA cC : Nat}
theorem Inv.later (h : Inv m a b l w A C L cA cC wi) (hb : Below wi.heap.size wi wj) : Inv m a b l w A C L cA cC wj where
  c0 := (hb.cell h.lt).trans h.c0
  c1 := (hb.cell h.lt).trans h.c1
  c2 := (hb.cell h.lt).trans h.c2
  c3 := (hb.cell h.lt).trans h.c3
  c4 := (hb.cell h.lt).trans h.c4
  hA := (h.hA.below hb (Nat.le_refl _)).more hb.size
  hC := (h.hC.below hb (Nat.le_refl _)).more hb.size
  hL := (h.hL.below hb (Nat.le_refl _)).more hb.size
  below := h.below.trans (hb.mono h.below.size)
  lt := Nat.lt_of_lt_of_le h.lt hb.size
theorem Inv.drew (h : Inv m a b l w A C L cA cC wi) : Inv m a b l w A C L cA cC wi.drew where
  c0 := h.c0
  c1 := h.c1
  c2 := h.c2
  c3 := h.c3
  c4 := h.c4
  hA := h.hA.drew
  hC := h.hC.drew
  hL := h.hL.drew
  below := h.below.drew
  lt := h.lt
theorem Inv.start (vs : Array Value) (hA : UniAt w w.heap.size A m.words) (hC : BiAt w w.heap.size C m.pairs) (hL : StrAt w w.heap.size L l) : Inv m a b l w A C L cA cC (w.alloc (.cells (taskBox m a b vs A C cA cC) 34)) := by
  have hb : Below w.heap.size w (w.alloc (.cells (taskBox m a b vs A C cA cC) 34)) := (Below.refl _ _).alloc (Nat.le_refl _) _
  have hk := Blk.new w 34 (taskBox m a b vs A C cA cC)
  refine ⟨(hk.cell 0).trans ?_, (hk.cell 1).trans ?_, (hk.cell 2).trans ?_, (hk.cell 3).trans ?_, (hk.cell 4).trans ?_, (hA.below hb (Nat.le_refl _)).more (by simp), (hC.below hb (Nat.le_refl _)).more (by simp), (hL.below hb (Nat.le_refl _)).more (by simp), hb, by simp⟩ <;> simp [taskBox, Array.getElem?_append]
end

set_option maxRecDepth 100000 in
set_option maxHeartbeats 1000000 in
theorem law3 (m : Mdl) (a b : ByteArray) (l : List ByteArray) (v5 v6 v7 v8 v9 v10 v11 v12 v13 v14 : Value) (w : World) (A C L : Option Addr) (cA cC cL : Nat)
    (hA : UniAt w w.heap.size A m.words) (hC : BiAt w w.heap.size C m.pairs) (hL : StrAt w w.heap.size L l)
    (hlA : m.words.length ≤ 9223372036854775807) (hlC : m.pairs.length ≤ 9223372036854775807) (hlL : l.length ≤ 9223372036854775807) :
    Calls Try.prog 3 #[.agg #[.int .i64 m.unknown, .slice A m.words.length cA, .slice C m.pairs.length cC, .string a, .string b, v5, v6, v7, v8, v9, v10, v11, v12, v13, v14], .slice L l.length cL] w (LivesR w) := by
  have I0 : Hid (Inv m a b l w A C L cA cC (w.alloc (.cells #[.int .i64 m.unknown, .slice A m.words.length cA, .slice C m.pairs.length cC, .string a, .string b, v5, v6, v7, v8, v9, v10, v11, v12, v13, v14] 34))) :=
    Inv.start #[v5, v6, v7, v8, v9, v10, v11, v12, v13, v14] hA hC hL
  clear hA hC hL
  go_enter Try.func3, Try.ntmps3
  go_wp2_with fail
  refine (huge4 m _ _ _ _ _ I0.out.hA I0.out.hC hlA hlC).mono ?_
  rintro e w1 ⟨bb, rfl, hbb, hb⟩
  have I1 := Lib.hid (I0.out.later hb)
  clear hb
  cases bb
  · obtain ⟨g1, g2⟩ := hbb rfl
    by_cases g3 : 40 < l.length
    · go_wp2_with fail
      refine (lives5 _).mono ?_
      rintro e w2 ⟨rfl, hb⟩
      have I2 := Lib.hid (I1.out.later hb)
      clear hb
      go_wp2
      go_ret
      exact ⟨rfl, I2.out.below⟩
    · have c0 := I1.out.c0
      have c1 := I1.out.c1
      have c2 := I1.out.c2
      have c3 := I1.out.c3
      have c4 := I1.out.c4
      go_wp2_with fail
      refine (Step6 m a b _ _ _ _ _ I1.out.hA I1.out.hC (by omega) (by omega)).mono ?_
      rintro e w2 ⟨rfl, hb⟩
      have I2 := Lib.hid (I1.out.later hb)
      clear hb c0 c1 c2 c3 c4
      have c0 := I2.out.c0
      have c1 := I2.out.c1
      have c2 := I2.out.c2
      have c3 := I2.out.c3
      have c4 := I2.out.c4
      go_wp2_with fail
      refine (Step7 m a b _ _ _ _ _ I2.out.hA I2.out.hC (by omega) (by omega)).mono ?_
      rintro e w3 ⟨rfl, hb⟩
      have I3 := Lib.hid (I2.out.later hb)
      clear hb c0 c1 c2 c3 c4
      have c0 := I3.out.c0
      have c1 := I3.out.c1
      have c2 := I3.out.c2
      go_wp2_with fail
      refine (Score8 m l _ _ _ _ _ I3.out.hA I3.out.hC (by omega) (by omega) _ _ I3.out.hL hlL).mono ?_
      rintro e w4 ⟨rfl, hb⟩
      have I4 := Lib.hid (I3.out.later hb)
      clear hb c0 c1 c2
      have c0 := I4.out.c0
      have c1 := I4.out.c1
      have c2 := I4.out.c2
      go_wp2_with fail
      refine (Score9 m l _ _ _ _ _ I4.out.hA I4.out.hC (by omega) (by omega) _ _ I4.out.hL hlL).mono ?_
      rintro e w5 ⟨rfl, hb⟩
      have I5 := Lib.hid (I4.out.later hb)
      clear hb c0 c1 c2
      have c0 := I5.out.c0
      have c1 := I5.out.c1
      have c2 := I5.out.c2
      generalize (stepR m a b).1 = r1
      generalize (stepR m a b).2 = r2
      generalize (scoreR m l).1 = r3
      generalize (scoreR m l).2 = r4
      have hq : ∀ x : Int, (x == x) = true := fun x => by simp
      have HC := Lib.hid (fun W h1 h2 => check10 m W A C cA cC h1 h2 (by omega) (by omega))
      have HD := Lib.hid (fun W h1 h2 => check11 m W A C cA cC h1 h2 (by omega) (by omega))
      go_wp2_with fail
      go_region_held3 (fun w' => w'.cell? ⟨w.heap.size, 0, none⟩ = some (.int .i64 m.unknown) ∧ w'.cell? ⟨w.heap.size, 1, none⟩ = some (.slice A m.words.length cA) ∧ w'.cell? ⟨w.heap.size, 2, none⟩ = some (.slice C m.pairs.length cC))
        (first
          | exact ⟨I5.out.c0, I5.out.c1, I5.out.c2⟩
          | exact ⟨I6.out.c0, I6.out.c1, I6.out.c2⟩
          | exact ⟨I7.out.c0, I7.out.c1, I7.out.c2⟩
          | exact ⟨I8.out.c0, I8.out.c1, I8.out.c2⟩)
        (first
          | (go_at_call 10; refine (HC.out _ I5.out.drew.hA I5.out.drew.hC).mono ?_; rintro e w6 ⟨rfl, hb⟩; have I6 := Lib.hid (I5.out.drew.later hb); clear hb)
          | (go_at_call 11; refine (HD.out _ I6.out.hA I6.out.hC).mono ?_; rintro e w7 ⟨rfl, hb⟩; have I7 := Lib.hid (I6.out.later hb); clear hb)
          | (go_at_call 5; refine (lives5 _).mono ?_; rintro e w8 ⟨rfl, hb⟩; have I8 := Lib.hid (I7.out.later hb); clear hb))
      go_wp2
      go_ret
      exact ⟨rfl, I8.out.below⟩
  · go_wp2_with fail
    refine (lives5 _).mono ?_
    rintro e w2 ⟨rfl, hb⟩
    have I2 := Lib.hid (I1.out.later hb)
    clear hb
    go_wp2
    go_ret
    exact ⟨rfl, I2.out.below⟩
end Go.Proofs.Ytcniiphmepgfeaa
