/- The walk of common: the matches of two lists. -/
import Derived.Test.YtkklagdniaoghaaGreatDoorW2
import Derived.Laws.StructEq
namespace Go.Proofs.YtkklagdniaoghaaGreatDoor
open Go.RowKit Go.Proofs.MapEnt

theorem size9 (w : World) : (sizeOf 9).run Tryz.prog w = .ok 1 w := by kernel_rfl
theorem isAgg9 (w : World) : (isAgg 9).run Tryz.prog w = .ok false w := by kernel_rfl
theorem part4 (a0 a1 a2 a3 : ByteArray) (w : World) (i : Nat) (v : Value) (h : #[Value.string a0, .string a1, .string a2, .string a3][i]? = some v) : (part 9 #[Value.string a0, .string a1, .string a2, .string a3] i).run Tryz.prog w = .ok v w := by
  unfold part
  simp only [Sem.run_bind, isAgg9, Result.andThen_ok, Bool.false_eq_true, if_false]
  rw [h]
  rfl
theorem eq_four' (d : Nat) (a0 a1 a2 a3 b0 b1 b2 b3 : ByteArray) (w : World) : (Op.equalIn (d + 2) 102 (.agg #[.string a0, .string a1, .string a2, .string a3]) (.agg #[.string b0, .string b1, .string b2, .string b3])).run Tryz.prog w =
    .ok (a0.toList == b0.toList && (a1.toList == b1.toList && (a2.toList == b2.toList && a3.toList == b3.toList))) w := by
  have p0 := fun (x0 x1 x2 x3 : ByteArray) w => part4 x0 x1 x2 x3 w 0 (.string x0) rfl
  have p1 := fun (x0 x1 x2 x3 : ByteArray) w => part4 x0 x1 x2 x3 w 1 (.string x1) rfl
  have p2 := fun (x0 x1 x2 x3 : ByteArray) w => part4 x0 x1 x2 x3 w 2 (.string x2) rfl
  have p3 := fun (x0 x1 x2 x3 : ByteArray) w => part4 x0 x1 x2 x3 w 3 (.string x3) rfl
  have q := fun (x y : ByteArray) w => run_equalIn_string (P := Tryz.prog) w d 9 x y Tryz.underlying9
  rw [Op.equalIn]
  simp only [Sem.run_bind, run_underlying Tryz.underlying102, Result.andThen_ok, size9]
  simp only [Std.Legacy.Range.forIn_eq_forIn_range', Std.Legacy.Range.size]
  have e : List.range' 0 ((4 - 0 + 1 - 1) / 1) 1 = [0, 1, 2, 3] := rfl
  rw [e]
  simp only [List.forIn_cons, List.forIn_nil, Nat.mul_one, Sem.run_bind, p0, q, Result.andThen_ok]
  cases h0 : (a0.toList == b0.toList)
  · simp
  cases h1 : (a1.toList == b1.toList)
  · simp [p1, q, h1]
  cases h2 : (a2.toList == b2.toList)
  · simp [p1, p2, q, h1, h2]
  cases h3 : (a3.toList == b3.toList)
  · simp [p1, p2, p3, q, h1, h2, h3]
  · simp [p1, p2, p3, q, h1, h2, h3]
theorem eq_four (a0 a1 a2 a3 b0 b1 b2 b3 : ByteArray) (w : World) : (Op.equalIn 10000 102 (.agg #[.string a0, .string a1, .string a2, .string a3]) (.agg #[.string b0, .string b1, .string b2, .string b3])).run Tryz.prog w =
    .ok (a0.toList == b0.toList && (a1.toList == b1.toList && (a2.toList == b2.toList && a3.toList == b3.toList))) w := eq_four' 9998 a0 a1 a2 a3 b0 b1 b2 b3 w
theorem toList_nil {x : ByteArray} : (x.toList == ByteArray.empty.toList) = true ↔ x = ByteArray.empty := by
  rw [beq_iff_eq]
  constructor
  · intro h; rw [ByteArray.toList_eq, ByteArray.toList_eq] at h; exact WideShapes.bytes_inj h
  · rintro rfl; rfl
theorem enc_zero : ∀ {n : Nat}, n ≤ 4 → enc (zeroG n) = .agg #[.string .empty, .string .empty, .string .empty, .string .empty]
  | 0, _ => rfl
  | 1, _ => rfl
  | 2, _ => rfl
  | 3, _ => rfl
  | 4, _ => rfl
/-- Is a gram the one of empty words? -/
theorem zero_test {g : Gram} {n : Nat} {x0 x1 x2 x3 : ByteArray} (hg : g.length = n) (h4 : n ≤ 4) (he : enc g = .agg #[.string x0, .string x1, .string x2, .string x3]) :
    ∃ z : Bool, (z = true ↔ g = zeroG n) ∧ ∀ w : World, (Op.equalIn 10000 102 (.agg #[.string x0, .string x1, .string x2, .string x3]) (.agg #[.string .empty, .string .empty, .string .empty, .string .empty])).run Tryz.prog w = .ok z w := by
  refine ⟨_, ?_, fun w => eq_four x0 x1 x2 x3 .empty .empty .empty .empty w⟩
  simp only [Bool.and_eq_true, toList_nil]
  constructor
  · rintro ⟨rfl, rfl, rfl, rfl⟩
    refine enc_inj (by rw [hg]; simp [zeroG]) ?_
    rw [he, enc_zero h4]
  · rintro rfl
    rw [enc_zero h4] at he
    cases he
    exact ⟨rfl, rfl, rfl, rfl⟩
theorem look {w : World} {b n : Nat} {gs : List Gram} {g : Gram} (hn : ∀ g ∈ gs, g.length = n) (hg : g.length = n) (h4 : n ≤ 4) (hs : ∀ x ∈ g, x.size ≤ maxLen) (h : CMap Tryz.prog 102 w b gs) :
    (Instr.lookup 99 (.map (some b)) (enc g) false).run Tryz.prog w = .ok (.int .i64 (gs.count g : Nat)) w := by
  obtain ⟨q, hq⟩ := enc_keyOf (by omega) hs
  obtain ⟨ks, h1, h2, h3⟩ := h
  rcases h3.lookup gram_key Tryz.underlying99 (zero3 w) hq with ⟨⟨_, q⟩, r3⟩ | ⟨v, ⟨_, q⟩, r3⟩
  · rw [q, look_none h2 r3]
    rfl
  · rw [q, look_some h2 hn hg r3]
theorem gram_size {l : Ws} {n : Nat} (hs : ∀ x ∈ l, x.size ≤ maxLen) : ∀ g ∈ Bag.grams l n, ∀ x ∈ g, x.size ≤ maxLen := fun g hg => by
  obtain ⟨i, _, rfl⟩ := List.mem_map.1 hg
  exact win_size hs
theorem sumP_le {n : Nat} {gx gy ks : List Gram} (h1 : ks.Nodup) (h2 : ∀ g, g ∈ ks ↔ g ∈ gx) : sumP n gx gy ks ≤ Bag.mm gx gy := by
  by_cases e : n = 1
  · subst e
    rw [sumP_one h1 h2]
    exact Nat.le_refl _
  · have := sumP_all e (gx := gx) (gy := gy) h1 h2
    omega
theorem ret_int {k : IntKind} {a b : Int} (h : a = b) : Ending.returned (.int k a) = .returned (.int k b) := by rw [h]
set_option maxHeartbeats 1600000 in
set_option maxRecDepth 1000000 in
theorem common_one (a b : Ws) (w : World) (A C : Option Addr) (cA cC : Nat) (hA : In w A cA a) (hC : In w C cC b) (la : a.length ≤ 512) (lb : b.length ≤ 512) :
    Calls Tryz.prog 26 #[.slice A a.length cA, .slice C b.length cC, .int .i64 1] w fun e w' => e = .returned (.int .i64 (Bag.mt a b 1 : Nat)) ∧ w.Since w.heap.size w' := by
  have h1 : 1 ≤ 1 := by omega
  have h4 : 1 ≤ 4 := by omega
  have HA := Lib.hid hA
  have HC := Lib.hid hC
  clear hA hC
  go_enter Tryz.func26, Tryz.ntmps26
  go_wp2_with fail
  refine (grams_says a 1 w A cA HA.out h1 h4 la).mono ?_
  rintro e w1 ⟨bx, rfl, hbx, hx, hs⟩
  have X1 := Lib.hid hx
  have S1 := Lib.hid hs
  clear hx hs
  go_wp2_with fail
  refine (grams_says b 1 w1 C cC (HC.out.up S1.out) h1 h4 lb).mono ?_
  rintro e w2 ⟨by_, rfl, hby, hy, hs⟩
  have Y2 := Lib.hid hy
  have X2 : Hid (CMap Tryz.prog 102 w2 bx (Bag.grams a 1)) := Lib.hid (X1.out.same (hs.block bx X1.out.lt))
  have S2 := Lib.hid (since_two S1.out hs)
  have N2 : Hid (bx < w1.heap.size) := Lib.hid X1.out.lt
  clear hy hs X1
  go_wp2_with (refine wpList_range_c _ rfl (.tmp 18) 99 rfl 3 Tryz.underlying99 bx (Bag.grams a 1) rfl X2.out ?_)
  intro w3 ks hn hk hon hg3 hz3
  have ON := Lib.hid hon
  have S3 : Hid (w.Since w.heap.size w3) := Lib.hid (since_grown S2.out S2.out.size hg3 (fun k e => by cases e))
  have Y3 : Hid (CMap Tryz.prog 102 w3 by_ (Bag.grams b 1)) := Lib.hid (Y2.out.same (hg3.block by_ Y2.out.lt (by simp)))
  have HN := Lib.hid (And.intro hn hk)
  have NE : Hid (by_ ≠ w2.heap.size ∧ bx ≠ w2.heap.size ∧ w.heap.size ≤ by_ ∧ w.heap.size ≤ bx ∧ w.heap.size ≤ w2.heap.size ∧ bx ≠ by_) := Lib.hid ⟨by have := Y2.out.lt; omega, by have := X2.out.lt; omega, Nat.le_trans S1.out.size hby, hbx, S2.out.size, by have := N2.out; omega⟩
  have hst := Lib.hid (sumP_le (n := 1) (gx := Bag.grams a 1) (gy := Bag.grams b 1) hn hk)
  clear hon hg3 hz3 hn hk Y2 X2 S2 N2
  generalize w2.heap.size = r at *
  go_wp2_with fail
  go_loopg [9] ks.length (fun g o wr => ∃ (rk : List Gram) (N : Nat), g = rk.length ∧ o = .int .i64 N ∧ N + sumP 1 (Bag.grams a 1) (Bag.grams b 1) rk = sumP 1 (Bag.grams a 1) (Bag.grams b 1) ks ∧ Hid (COn Tryz.prog 102 wr bx r (Bag.grams a 1) rk) ∧ Hid (CMap Tryz.prog 102 wr by_ (Bag.grams b 1)) ∧ Hid (w.Since w.heap.size wr))
  case atStart => exact ⟨ks, 0, rfl, rfl, by simp, ON, Y3, S3⟩
  case round =>
    obtain ⟨rk, N, rfl, rfl, hsum, hon, hy, hs⟩ := hrel
    go_wp2_with (refine wpList_next_c _ rfl (.tmp 19) rfl bx r (Bag.grams a 1) rk rfl hon.out ?_ ?_)
    · intro hnil
      subst hnil
      simp only [sumP, List.map_nil, List.sum_nil, Nat.add_zero] at hsum
      have hmm : Bag.mm (Bag.grams a 1) (Bag.grams b 1) ≤ 513 := by have := Bag.mt_left a b 1; unfold Bag.mt at this; omega
      have hfin : N = Bag.mt a b 1 := by
        rw [hsum]
        exact sumP_one HN.out.1 HN.out.2
      have HF := Lib.hid (congrArg (fun x : Nat => (x : Int)) hfin)
      clear hfin hsum hon hy
      go_wp2_with fail
      go_ret
      exact ⟨ret_int HF.out, hs.out⟩
    · intro g rk' w4 hg hperm hon4 hg4 hz4 hen
      obtain ⟨x0, x1, x2, x3, he, q0, q1, q2, q3⟩ := enc_of (g := g) (by rw [gram_len g hg h1]; exact h4) (gram_size HA.out.size g hg)
      have hgl := gram_len g hg h1
      obtain ⟨z, hz, hzr0⟩ := zero_test hgl h4 he
      have hzr : ∀ w : World, (Op.equalIn 10000 102 (.agg #[.string x0, .string x1, .string x2, .string x3]) (.agg #[.string ⟨#[]⟩, .string ⟨#[]⟩, .string ⟨#[]⟩, .string ⟨#[]⟩])).run Tryz.prog w = .ok z w := hzr0
      clear hzr0
      have HY := Lib.hid (hy.out.same (hg4.block by_ hy.out.lt (by simp only [ne_eq, Option.some.injEq]; exact NE.out.1)))
      have HS := Lib.hid (since_grown hs.out hs.out.size hg4 (fun k e => by cases e; exact NE.out.2.2.2.2.1))
      have ON4 := Lib.hid hon4
      have hyl := look (w := w4.alloc (.cells #[.string x0, .string x1, .string x2, .string x3] 102)) (fun g hg => gram_len g hg h1) hgl h4 (gram_size HA.out.size g hg) (HY.out.same (Below.heap_alloc w4 _ _ HY.out.lt))
      have R5 := Lib.hid (hon4.kept (World.grownBy_alloc w4 (.cells #[.string x0, .string x1, .string x2, .string x3] 102) none) (by simp) (by simp))
      have Y5 := Lib.hid (HY.out.same (Below.heap_alloc w4 (.cells #[.string x0, .string x1, .string x2, .string x3] 102) _ HY.out.lt))
      have S5 := Lib.hid (since_alloc HS.out (.cells #[.string x0, .string x1, .string x2, .string x3] 102))
      have hlen := hperm.length_eq
      simp only [List.length_cons] at hlen
      rw [sumP_perm hperm, sumP_cons] at hsum
      have hpart : MapEnt.part 1 (Bag.grams a 1) (Bag.grams b 1) g = if g = zeroG 1 ∧ (1 : Nat) ≠ 1 then 0 else min ((Bag.grams a 1).count g) ((Bag.grams b 1).count g) := rfl
      rw [hpart] at hsum
      have hb := hst.out
      have hb2 : Bag.mm (Bag.grams a 1) (Bag.grams b 1) ≤ 513 := by have := Bag.mt_left a b 1; unfold Bag.mt at this; omega
      have hcl := List.count_le_length (a := g) (l := Bag.grams a 1)
      rw [Bag.grams_length] at hcl
      rw [he] at hen hyl ⊢
      generalize (Bag.grams a 1).count g = cx at *
      generalize (Bag.grams b 1).count g = cy at *
      have hcx : (N : Int) + min (cx : Int) cy ≤ 100000 := by split at hsum <;> omega
      have HL := Lib.hid hlen
      clear hlen hon hy hs hon4 hg4 hz4 hpart he
      rw [if_neg (fun h => h.2 rfl)] at hsum
      have HB := Lib.hid hsum
      clear hsum hz
      cases z
      all_goals
        go_wp2_with fail
        all_goals
          go_roundg rk'.length
          case measure => have := HL.out; omega
          case rel => exact ⟨rk', N + min cx cy, rfl, by congr 1; omega, by have h0 := HB.out; omega, R5, Y5, S5⟩
set_option maxHeartbeats 1600000 in
set_option maxRecDepth 1000000 in
theorem common_more (a b : Ws) (n : Nat) (w : World) (A C : Option Addr) (cA cC : Nat) (hA : In w A cA a) (hC : In w C cC b) (h2 : 2 ≤ n) (h4 : n ≤ 4) (la : a.length ≤ 512) (lb : b.length ≤ 512) :
    Calls Tryz.prog 26 #[.slice A a.length cA, .slice C b.length cC, .int .i64 n] w fun e w' => e = .returned (.int .i64 (Bag.mt a b n : Nat)) ∧ w.Since w.heap.size w' := by
  have h1 : 1 ≤ n := by omega
  have hn2 : ((n : Int) == 1) = false := by simp; omega
  have HA := Lib.hid hA
  have HC := Lib.hid hC
  clear hA hC
  go_enter Tryz.func26, Tryz.ntmps26
  go_wp2_with fail
  refine (grams_says a n w A cA HA.out h1 h4 la).mono ?_
  rintro e w1 ⟨bx, rfl, hbx, hx, hs⟩
  have X1 := Lib.hid hx
  have S1 := Lib.hid hs
  clear hx hs
  go_wp2_with fail
  refine (grams_says b n w1 C cC (HC.out.up S1.out) h1 h4 lb).mono ?_
  rintro e w2 ⟨by_, rfl, hby, hy, hs⟩
  have Y2 := Lib.hid hy
  have X2 : Hid (CMap Tryz.prog 102 w2 bx (Bag.grams a n)) := Lib.hid (X1.out.same (hs.block bx X1.out.lt))
  have S2 := Lib.hid (since_two S1.out hs)
  have N2 : Hid (bx < w1.heap.size) := Lib.hid X1.out.lt
  clear hy hs X1
  go_wp2_with (refine wpList_range_c _ rfl (.tmp 18) 99 rfl 3 Tryz.underlying99 bx (Bag.grams a n) rfl X2.out ?_)
  intro w3 ks hn hk hon hg3 hz3
  have ON := Lib.hid hon
  have S3 : Hid (w.Since w.heap.size w3) := Lib.hid (since_grown S2.out S2.out.size hg3 (fun k e => by cases e))
  have Y3 : Hid (CMap Tryz.prog 102 w3 by_ (Bag.grams b n)) := Lib.hid (Y2.out.same (hg3.block by_ Y2.out.lt (by simp)))
  have HN := Lib.hid (And.intro hn hk)
  have NE : Hid (by_ ≠ w2.heap.size ∧ bx ≠ w2.heap.size ∧ w.heap.size ≤ by_ ∧ w.heap.size ≤ bx ∧ w.heap.size ≤ w2.heap.size ∧ bx ≠ by_) := Lib.hid ⟨by have := Y2.out.lt; omega, by have := X2.out.lt; omega, Nat.le_trans S1.out.size hby, hbx, S2.out.size, by have := N2.out; omega⟩
  have hst := Lib.hid (sumP_le (n := n) (gx := Bag.grams a n) (gy := Bag.grams b n) hn hk)
  clear hon hg3 hz3 hn hk Y2 X2 S2 N2
  generalize w2.heap.size = r at *
  go_wp2_with fail
  go_loopg [9] ks.length (fun g o wr => ∃ (rk : List Gram) (N : Nat), g = rk.length ∧ o = .int .i64 N ∧ N + sumP n (Bag.grams a n) (Bag.grams b n) rk = sumP n (Bag.grams a n) (Bag.grams b n) ks ∧ Hid (COn Tryz.prog 102 wr bx r (Bag.grams a n) rk) ∧ Hid (CMap Tryz.prog 102 wr by_ (Bag.grams b n)) ∧ Hid (w.Since w.heap.size wr))
  case atStart => exact ⟨ks, 0, rfl, rfl, by simp, ON, Y3, S3⟩
  case round =>
    obtain ⟨rk, N, rfl, rfl, hsum, hon, hy, hs⟩ := hrel
    go_wp2_with (refine wpList_next_c _ rfl (.tmp 19) rfl bx r (Bag.grams a n) rk rfl hon.out ?_ ?_)
    · intro hnil
      subst hnil
      simp only [sumP, List.map_nil, List.sum_nil, Nat.add_zero] at hsum
      have hmm : Bag.mm (Bag.grams a n) (Bag.grams b n) ≤ 513 := by have := Bag.mt_left a b n; unfold Bag.mt at this; omega
      have hn1 : n ≠ 1 := by omega
      have hn3 : 1 < (n : Int) := by omega
      have hfin : N + min ((Bag.grams a n).count (zeroG n)) ((Bag.grams b n).count (zeroG n)) = Bag.mt a b n := by
        rw [hsum]
        exact sumP_all hn1 HN.out.1 HN.out.2
      have hxl := look (w := wr.drew) (fun g hg => gram_len g hg h1) (g := zeroG n) (by simp [zeroG]) h4 (zero_size n) hon.out.has
      have hyl := look (w := wr.drew) (fun g hg => gram_len g hg h1) (g := zeroG n) (by simp [zeroG]) h4 (zero_size n) hy.out
      rw [enc_zero h4] at hxl hyl
      have hxl' : (Instr.lookup 99 (.map (some bx)) (.agg #[.string ⟨#[]⟩, .string ⟨#[]⟩, .string ⟨#[]⟩, .string ⟨#[]⟩]) false).run Tryz.prog wr.drew = .ok (.int .i64 ((Bag.grams a n).count (zeroG n) : Nat)) wr.drew := hxl
      have hyl' : (Instr.lookup 99 (.map (some by_)) (.agg #[.string ⟨#[]⟩, .string ⟨#[]⟩, .string ⟨#[]⟩, .string ⟨#[]⟩]) false).run Tryz.prog wr.drew = .ok (.int .i64 ((Bag.grams b n).count (zeroG n) : Nat)) wr.drew := hyl
      clear hxl hyl
      generalize (Bag.grams a n).count (zeroG n) = cx at *
      generalize (Bag.grams b n).count (zeroG n) = cy at *
      have hcx : (N : Int) + min (cx : Int) cy ≤ 100000 := by unfold Bag.mt at hfin; omega
      have HF := Lib.hid hfin
      clear hfin hsum hon hy hn1
      go_wp2_with fail
      have HS3 : Hid (w.Since w.heap.size wr.drew) := Lib.hid ⟨hs.out.os, hs.out.tape, hs.out.output, hs.out.size, hs.out.block⟩
      have hcc : IntKind.i64.wrap ((N : Int) + min (cx : Int) cy) = (N : Int) + min (cx : Int) cy := IntWalk.i64_in _ (by omega)
      go_region_law (fail)
      all_goals
        go_wp2_with fail
        all_goals
          go_ret
          exact ⟨ret_int (by have := HF.out; omega), HS3.out⟩
    · intro g rk' w4 hg hperm hon4 hg4 hz4 hen
      obtain ⟨x0, x1, x2, x3, he, q0, q1, q2, q3⟩ := enc_of (g := g) (by rw [gram_len g hg h1]; exact h4) (gram_size HA.out.size g hg)
      have hgl := gram_len g hg h1
      obtain ⟨z, hz, hzr0⟩ := zero_test hgl h4 he
      have hzr : ∀ w : World, (Op.equalIn 10000 102 (.agg #[.string x0, .string x1, .string x2, .string x3]) (.agg #[.string ⟨#[]⟩, .string ⟨#[]⟩, .string ⟨#[]⟩, .string ⟨#[]⟩])).run Tryz.prog w = .ok z w := hzr0
      clear hzr0
      have HY := Lib.hid (hy.out.same (hg4.block by_ hy.out.lt (by simp only [ne_eq, Option.some.injEq]; exact NE.out.1)))
      have HS := Lib.hid (since_grown hs.out hs.out.size hg4 (fun k e => by cases e; exact NE.out.2.2.2.2.1))
      have ON4 := Lib.hid hon4
      have hyl := look (w := w4.alloc (.cells #[.string x0, .string x1, .string x2, .string x3] 102)) (fun g hg => gram_len g hg h1) hgl h4 (gram_size HA.out.size g hg) (HY.out.same (Below.heap_alloc w4 _ _ HY.out.lt))
      have R5 := Lib.hid (hon4.kept (World.grownBy_alloc w4 (.cells #[.string x0, .string x1, .string x2, .string x3] 102) none) (by simp) (by simp))
      have Y5 := Lib.hid (HY.out.same (Below.heap_alloc w4 (.cells #[.string x0, .string x1, .string x2, .string x3] 102) _ HY.out.lt))
      have S5 := Lib.hid (since_alloc HS.out (.cells #[.string x0, .string x1, .string x2, .string x3] 102))
      have hlen := hperm.length_eq
      simp only [List.length_cons] at hlen
      rw [sumP_perm hperm, sumP_cons] at hsum
      have hpart : MapEnt.part n (Bag.grams a n) (Bag.grams b n) g = if g = zeroG n ∧ n ≠ 1 then 0 else min ((Bag.grams a n).count g) ((Bag.grams b n).count g) := rfl
      rw [hpart] at hsum
      have hb := hst.out
      have hb2 : Bag.mm (Bag.grams a n) (Bag.grams b n) ≤ 513 := by have := Bag.mt_left a b n; unfold Bag.mt at this; omega
      have hcl := List.count_le_length (a := g) (l := Bag.grams a n)
      rw [Bag.grams_length] at hcl
      rw [he] at hen hyl ⊢
      generalize (Bag.grams a n).count g = cx at *
      generalize (Bag.grams b n).count g = cy at *
      have hcx : (N : Int) + min (cx : Int) cy ≤ 100000 := by split at hsum <;> omega
      have HL := Lib.hid hlen
      clear hlen hon hy hs hon4 hg4 hz4 hpart he
      cases z
      · have hz0 : g ≠ zeroG n := fun e => by have := hz.2 e; cases this
        rw [if_neg (fun h => hz0 h.1)] at hsum
        have HB := Lib.hid hsum
        clear hsum hz hz0
        go_wp2_with fail
        all_goals
          go_roundg rk'.length
          case measure => have := HL.out; omega
          case rel => exact ⟨rk', N + min cx cy, rfl, by congr 1; omega, by have h0 := HB.out; omega, R5, Y5, S5⟩
      · have hz0 : g = zeroG n := hz.1 rfl
        rw [if_pos ⟨hz0, by omega⟩] at hsum
        have HB := Lib.hid hsum
        clear hsum hz hz0
        go_wp2_with fail
        go_roundg rk'.length
        case measure => have := HL.out; omega
        case rel => exact ⟨rk', N, rfl, rfl, by have h0 := HB.out; omega, R5, Y5, S5⟩
theorem common_says (a b : Ws) (n : Nat) (w : World) (A C : Option Addr) (cA cC : Nat) (hA : In w A cA a) (hC : In w C cC b) (h1 : 1 ≤ n) (h4 : n ≤ 4) (la : a.length ≤ 512) (lb : b.length ≤ 512) :
    Calls Tryz.prog 26 #[.slice A a.length cA, .slice C b.length cC, .int .i64 n] w fun e w' => e = .returned (.int .i64 (Bag.mt a b n : Nat)) ∧ w.Since w.heap.size w' := by
  rcases Nat.eq_or_lt_of_le h1 with e | h
  · subst e
    exact common_one a b w A C cA cC hA hC la lb
  · exact common_more a b n w A C cA cC hA hC h h4 la lb
end Go.Proofs.YtkklagdniaoghaaGreatDoor
