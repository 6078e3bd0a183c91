import Derived.Test.YtcniiphmepgfeaaA2
import Derived.Test.YtcniiphmepgfeaaM1
namespace Go.Proofs.Ytcniiphmepgfeaa
open Go.RowKit
open Go.Maps (Keyed)

theorem key9 : Keyed Try.prog 9 := Keyed.of_law (WideMaps.string_law Try.underlying9)
theorem key61 : Keyed Try.prog 61 := Keyed.of_law (deep_law_laid (by kernel_rfl) (m := 2) (by omega) (by decide +kernel) (by kernel_rfl) (by kernel_rfl))
theorem keyOf9 {s : ByteArray} (h : s.size ≤ maxLen) : keyOf Try.prog 9 (.string s) = some (.string s.data.toList) := WideMaps.keyOf_string_mk Try.underlying9 h
theorem keyOf61 {a b : ByteArray} (ha : a.size ≤ maxLen) (hb : b.size ≤ maxLen) : ∃ q, keyOf Try.prog 61 (.agg #[.string a, .string b]) = some q := by
  have h1 : Try.prog.keyType 61 = true := by kernel_rfl
  have h2 : Value.formed Try.prog 61 (.agg #[.string a, .string b]) = true := by kernel_rfl
  obtain ⟨n, h3⟩ : ∃ n, Try.prog.types.size + 1 = n + 2 := ⟨87, by decide +kernel⟩
  have hc : Try.prog.cellsOf 61 = 2 := by kernel_rfl
  have hc9 : Try.prog.cellsOf 9 = 1 := by kernel_rfl
  unfold keyOf
  simp only [Try.underlying61, h1, h2, h3, Bool.and_self, if_true]
  simp [Program.keyLits, Try.underlying61, Try.underlying9, hc, hc9, Value.cells, ha, hb, List.range_succ]

def wVal (x : UniD) : Value := .agg #[.string x.word, .int .i64 x.cost, .int .i64 x.back]
def wEnt (x : UniD) : Value × Value := (.string x.word, wVal x)
def pEnt (x : BiD) : Value × Value := (.agg #[.string x.first, .string x.second], .int .i64 x.cost)
theorem take_one {α : Type} (l : List α) (k : Nat) (h : k < l.length) : l.take (k + 1) = l.take k ++ [l[k]] := by
  rw [List.take_succ_eq_append_getElem h]

/-- the world in the loops of 'scores': k words and n pairs are stored -/
structure S14 (m : Mdl) (w : World) (A C : Option Addr) (cA cC k n : Nat) (wr : World) : Prop where
  box : Blk wr w.heap.size 25 #[.int .i64 m.unknown, .slice A m.words.length cA, .slice C m.pairs.length cC]
  res : Blk wr (w.heap.size + 1) 53 #[.int .i64 0, .map none, .map none]
  var : Blk wr (w.heap.size + 4) 53 #[.int .i64 m.unknown, .map (some (w.heap.size + 2)), .map (some (w.heap.size + 3))]
  words : MapHas Try.prog 9 wr (w.heap.size + 2) ((m.words.take k).map wEnt)
  pairs : MapHas Try.prog 61 wr (w.heap.size + 3) ((m.pairs.take n).map pEnt)
  below : Below w.heap.size w wr
  size : w.heap.size + 5 ≤ wr.heap.size

theorem S14.start (m : Mdl) (w : World) (A C : Option Addr) (cA cC : Nat) : S14 m w A C cA cC 0 0
    (((((w.alloc (.cells #[.int .i64 m.unknown, .slice A m.words.length cA, .slice C m.pairs.length cC] 25)).alloc (.cells #[.int .i64 0, .map none, .map none] 53)).alloc (.map #[] 0)).alloc (.map #[] 0)).alloc
      (.cells #[.int .i64 m.unknown, .map (some (w.heap.size + 1 + 1)), .map (some (w.heap.size + 1 + 1 + 1))] 53)) where
  box := ((((Blk.new _ _ _).alloc _).alloc _).alloc _).alloc _
  res := (((by have := Blk.new (w.alloc (.cells #[.int .i64 m.unknown, .slice A m.words.length cA, .slice C m.pairs.length cC] 25)) 53 #[.int .i64 0, .map none, .map none]; simpa using this : Blk _ (w.heap.size + 1) 53 _).alloc _).alloc _).alloc _
  var := by
    have := Blk.new ((((w.alloc (.cells #[.int .i64 m.unknown, .slice A m.words.length cA, .slice C m.pairs.length cC] 25)).alloc (.cells #[.int .i64 0, .map none, .map none] 53)).alloc (.map #[] 0)).alloc (.map #[] 0)) 53
      #[.int .i64 m.unknown, .map (some (w.heap.size + 1 + 1)), .map (some (w.heap.size + 1 + 1 + 1))]
    simpa using this
  words := (MapHas.alloc (by have := MapHas.new Try.prog 9 ((w.alloc (.cells #[.int .i64 m.unknown, .slice A m.words.length cA, .slice C m.pairs.length cC] 25)).alloc (.cells #[.int .i64 0, .map none, .map none] 53)); simpa using this) _).alloc _
  pairs := MapHas.alloc (by have := MapHas.new Try.prog 61 (((w.alloc (.cells #[.int .i64 m.unknown, .slice A m.words.length cA, .slice C m.pairs.length cC] 25)).alloc (.cells #[.int .i64 0, .map none, .map none] 53)).alloc (.map #[] 0)); simpa using this) _
  below := (((((Below.refl _ _).alloc (Nat.le_refl _) _).alloc (by simp) _).alloc (by simp; omega) _).alloc (by simp; omega) _).alloc (by simp; omega) _
  size := by simp

theorem S14.word {m : Mdl} {w : World} {A C : Option Addr} {cA cC k n : Nat} {wr : World} (h : S14 m w A C cA cC k n wr) (hk : k < m.words.length) (o : Obj) (w1 : World)
    (h1 : MapHas Try.prog 9 w1 (w.heap.size + 2) ((m.words.take k).map wEnt ++ [wEnt m.words[k]])) (hg : (wr.alloc o).grownBy w1 (some (w.heap.size + 2))) : S14 m w A C cA cC (k + 1) n w1 where
  box := (h.box.alloc o).grown hg (by simp)
  res := (h.res.alloc o).grown hg (by simp)
  var := (h.var.alloc o).grown hg (by simp)
  words := by rw [take_one _ _ hk, List.map_append]; exact h1
  pairs := (h.pairs.alloc o).grown hg (by simp)
  below := (h.below.alloc (by have := h.size; omega) o).grown hg (by simp; have := h.size; omega) (fun q hq => by cases hq; omega)
  size := by have := hg.size; simp at this; have := h.size; omega

theorem S14.pair {m : Mdl} {w : World} {A C : Option Addr} {cA cC k n : Nat} {wr : World} (h : S14 m w A C cA cC k n wr) (hk : n < m.pairs.length) (o : Obj) (w1 : World)
    (h1 : MapHas Try.prog 61 w1 (w.heap.size + 3) ((m.pairs.take n).map pEnt ++ [pEnt m.pairs[n]])) (hg : (wr.alloc o).grownBy w1 (some (w.heap.size + 3))) : S14 m w A C cA cC k (n + 1) w1 where
  box := (h.box.alloc o).grown hg (by simp)
  res := (h.res.alloc o).grown hg (by simp)
  var := (h.var.alloc o).grown hg (by simp)
  pairs := by rw [take_one _ _ hk, List.map_append]; exact h1
  words := (h.words.alloc o).grown hg (by simp)
  below := (h.below.alloc (by have := h.size; omega) o).grown hg (by simp; have := h.size; omega) (fun q hq => by cases hq; omega)
  size := by have := hg.size; simp at this; have := h.size; omega

set_option maxRecDepth 100000 in
set_option maxHeartbeats 1000000 in
theorem scores14 (m : Mdl) (w : World) (A C : Option Addr) (cA cC : Nat) (hA : UniAt w w.heap.size A m.words) (hC : BiAt w w.heap.size C m.pairs) (hlA : m.words.length ≤ 100000) (hlC : m.pairs.length ≤ 100000)
    (hsw : ∀ x ∈ m.words, x.word.size ≤ 24) (hsp : ∀ x ∈ m.pairs, x.first.size ≤ 24 ∧ x.second.size ≤ 24)
    (hwu : ∀ k (h : k < m.words.length), ∀ x ∈ m.words.take k, x.word ≠ m.words[k].word)
    (hpu : ∀ k (h : k < m.pairs.length), ∀ x ∈ m.pairs.take k, ¬ (x.first = m.pairs[k].first ∧ x.second = m.pairs[k].second)) :
    Calls Try.prog 14 #[.agg #[.int .i64 m.unknown, .slice A m.words.length cA, .slice C m.pairs.length cC]] w fun e w' =>
      ∃ bw bp, e = .returned (.agg #[.int .i64 m.unknown, .map (some bw), .map (some bp)]) ∧ MapHas Try.prog 9 w' bw (m.words.map wEnt) ∧ MapHas Try.prog 61 w' bp (m.pairs.map pEnt) ∧ Below w.heap.size w w' := by
  have HSW := Lib.hid hsw
  have HSP := Lib.hid hsp
  have HWU := Lib.hid hwu
  have HPU := Lib.hid hpu
  clear hsw hsp hwu hpu
  have hmm := @run_makeMap Try.prog
  go_enter Try.func14, Try.ntmps14
  go_wp2
  go_loopw [16] (fun i wr => ∃ k : Nat, k ≤ m.words.length ∧ i = .int .i64 k ∧ S14 m w A C cA cC k 0 wr) (fun i _ => m.words.length - (intOf i).toNat)
  case atStart => exact ⟨0, by omega, rfl, S14.start _ _ _ _ _ _⟩
  case round =>
    obtain ⟨k, hk, rfl, hS⟩ := hrel
    obtain ⟨hb0, hb1, hb4, hmw, hmp, hbel, hsz⟩ := id hS
    have hx0 := hb0.cell 0
    have hx1 := hb0.cell 1
    have hx2 := hb0.cell 2
    have hs0 := hb4.cell 0
    have hs1 := hb4.cell 1
    have hs2 := hb4.cell 2
    simp at hx0 hx1 hx2 hs0 hs1 hs2
    have hA' := hA.below hbel (Nat.le_refl _)
    by_cases hlt : k < m.words.length
    · obtain ⟨ad, rfl, hab, c0, c1, c2⟩ := hA'.at_ k hlt
      have hs1' : ∀ o, (wr.alloc o).cell? ⟨w.heap.size + 4, 1, none⟩ = some (.map (some (w.heap.size + 2))) := fun o => (World.cell?_alloc_lt wr o _ (by simp; omega)).trans hs1
      have hnew : ∀ p ∈ (m.words.take k).map wEnt, p.1 ≠ .string m.words[k].word := fun p hp => by
        obtain ⟨x, hx, rfl⟩ := List.mem_map.1 hp
        intro e
        exact HWU.out k hlt x hx (by simpa [wEnt] using e)
      have hkey := keyOf9 (s := m.words[k].word) (by have := HSW.out _ (List.getElem_mem hlt); unfold maxLen; omega)
      have hst := hS.word hlt
      generalize m.words[k] = x at *
      have HN := Lib.hid hnew
      have HK := Lib.hid hkey
      have HT := Lib.hid hst
      clear hnew hkey hst
      go_wp2_with (at_mapUpdate; refine wpList_store_new _ rfl _ _ _ 50 rfl 9 45 key9 Try.underlying50 (w.heap.size + 2) _ rfl (hmw.alloc _) _ _ _ rfl rfl HK.out HN.out ?_; intro w1 h1 hg hz; have HT1 := Lib.hid (HT.out _ w1 h1 hg); clear h1 hg hz)
      go_roundw
      case rel => exact ⟨k + 1, by omega, by go_num, HT1.out⟩
      case measure => simp [intOf]; omega
    · obtain rfl : k = m.words.length := by omega
      obtain ⟨wo, rfl⟩ : ∃ wo : World, wo = wr := ⟨_, rfl⟩
      go_wp2
      clear hb0 hb1 hb4 hmw hmp hbel hsz hx0 hx1 hx2 hs0 hs1 hs2 hA'
      go_loopw [29] (fun i wr => ∃ k : Nat, k ≤ m.pairs.length ∧ i = .int .i64 k ∧ S14 m w A C cA cC m.words.length k wr) (fun i _ => m.pairs.length - (intOf i).toNat)
      case atStart => exact ⟨0, by omega, rfl, hS⟩
      case round =>
        clear hS
        obtain ⟨n, hn, rfl, hS⟩ := hrel
        obtain ⟨hb0, hb1, hb4, hmw, hmp, hbel, hsz⟩ := id hS
        have hx0 := hb0.cell 0
        have hx1 := hb0.cell 1
        have hx2 := hb0.cell 2
        have hs0 := hb4.cell 0
        have hs1 := hb4.cell 1
        have hs2 := hb4.cell 2
        simp at hx0 hx1 hx2 hs0 hs1 hs2
        have hC' := hC.below hbel (Nat.le_refl _)
        by_cases hlt2 : n < m.pairs.length
        · obtain ⟨ad, rfl, hab, c0, c1, c2⟩ := hC'.at_ n hlt2
          have hs2' : ∀ o, (wr.alloc o).cell? ⟨w.heap.size + 4, 2, none⟩ = some (.map (some (w.heap.size + 3))) := fun o => (World.cell?_alloc_lt wr o _ (by simp; omega)).trans hs2
          have hnew : ∀ p ∈ (m.pairs.take n).map pEnt, p.1 ≠ .agg #[.string m.pairs[n].first, .string m.pairs[n].second] := fun p hp => by
            obtain ⟨x, hx, rfl⟩ := List.mem_map.1 hp
            intro e
            exact HPU.out n hlt2 x hx (by simpa [pEnt] using e)
          have hkey := keyOf61 (a := m.pairs[n].first) (b := m.pairs[n].second) (by have := (HSP.out _ (List.getElem_mem hlt2)).1; unfold maxLen; omega) (by have := (HSP.out _ (List.getElem_mem hlt2)).2; unfold maxLen; omega)
          obtain ⟨kq, hkey⟩ := hkey
          have hst := hS.pair hlt2
          generalize m.pairs[n] = x at *
          have HN := Lib.hid hnew
          have HK := Lib.hid hkey
          have HT := Lib.hid hst
          clear hnew hkey hst
          go_wp2_with (at_mapUpdate; refine wpList_store_new _ rfl _ _ _ 51 rfl 61 3 key61 Try.underlying51 (w.heap.size + 3) _ rfl (hmp.alloc _) _ _ _ rfl rfl HK.out HN.out ?_; intro w1 h1 hg hz; have HT1 := Lib.hid (HT.out _ w1 h1 hg); clear h1 hg hz)
          go_roundw
          case rel => exact ⟨n + 1, by omega, by go_num, HT1.out⟩
          case measure => simp [intOf]; omega
        · obtain rfl : n = m.pairs.length := by omega
          have hr0 := hb1.cell 0
          have hr1 := hb1.cell 1
          have hr2 := hb1.cell 2
          have hf0 := hb1.frozen 0
          have hf1 := hb1.frozen 1
          have hf2 := hb1.frozen 2
          simp at hr0 hr1 hr2
          have HR : Hid (∃ bw bp, Ending.returned (.agg #[.int .i64 m.unknown, .map (some (w.heap.size + 2)), .map (some (w.heap.size + 3))]) = .returned (.agg #[.int .i64 m.unknown, .map (some bw), .map (some bp)]) ∧
              MapHas Try.prog 9 (((wr.setCell ⟨w.heap.size + 1, 0, none⟩ (.int .i64 m.unknown)).setCell ⟨w.heap.size + 1, 1, none⟩ (.map (some (w.heap.size + 2)))).setCell ⟨w.heap.size + 1, 2, none⟩ (.map (some (w.heap.size + 3)))) bw (m.words.map wEnt) ∧
              MapHas Try.prog 61 (((wr.setCell ⟨w.heap.size + 1, 0, none⟩ (.int .i64 m.unknown)).setCell ⟨w.heap.size + 1, 1, none⟩ (.map (some (w.heap.size + 2)))).setCell ⟨w.heap.size + 1, 2, none⟩ (.map (some (w.heap.size + 3)))) bp (m.pairs.map pEnt) ∧
              Below w.heap.size w (((wr.setCell ⟨w.heap.size + 1, 0, none⟩ (.int .i64 m.unknown)).setCell ⟨w.heap.size + 1, 1, none⟩ (.map (some (w.heap.size + 2)))).setCell ⟨w.heap.size + 1, 2, none⟩ (.map (some (w.heap.size + 3))))) := by
            rw [List.take_length] at hmw hmp
            exact ⟨_, _, rfl, ((hmw.far (by simp) _).far (by simp) _).far (by simp) _, ((hmp.far (by simp) _).far (by simp) _).far (by simp) _, ((hbel.setCell (by simp) _).setCell (by simp) _).setCell (by simp) _⟩
          go_wp2
          refine bodyPost_ret (v := .agg #[.int .i64 m.unknown, .map (some (w.heap.size + 2)), .map (some (w.heap.size + 3))]) ?_ rfl HR.out
          simp [results, Try.results14, go_sem, hr0, hr1, hr2]
end Go.Proofs.Ytcniiphmepgfeaa
