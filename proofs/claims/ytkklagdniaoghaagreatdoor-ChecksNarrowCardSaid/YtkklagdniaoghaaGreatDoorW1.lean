/- Lists of words in memory; grams as keys of a map: words for the walks. -/
import Derived.Test.YtkklagdniaoghaaGreatDoorRows
import Derived.Test.YtkklagdniaoghaaGreatDoorGA
import Derived.WalkKit
import Derived.WalkSpells
import Derived.WalkLawsBesides
import Derived.Lib.Hide
import Derived.Deep.QuietTactic
import Derived.BigQuiet
import Derived.Deep.OwnRows
import Derived.Deep.LoopGhost
import Derived.Deep.Slices
namespace Go.Proofs.YtkklagdniaoghaaGreatDoor
open Go.RowKit Go.Proofs.MapEnt
open Go.Maps (Keyed)

abbrev Ws := List ByteArray
/-- The slice A reads as l, below block B. -/
structure StrAt (w : World) (B : Nat) (A : Option Addr) (l : Ws) : Prop where
  at_ : ∀ i (h : i < l.length), ∃ ad, A = some ad ∧ ad.block < B ∧ w.cell? (ad.add i) = some (.string l[i])
theorem block_add (a : Addr) (n : Nat) : (a.add n).block = a.block := by unfold Addr.add; split <;> rfl
theorem StrAt.below {w w' : World} {B B' : Nat} {A : Option Addr} {l : Ws} (h : StrAt w B A l) (hb : w.Since B' w') (hB : B ≤ B') : StrAt w' B A l :=
  ⟨fun i hi => by
    obtain ⟨ad, h0, h1, h2⟩ := h.at_ i hi
    exact ⟨ad, h0, h1, by rw [hb.cell (by rw [block_add]; omega)]; exact h2⟩⟩
theorem strAt_in {w wk : World} {A : Option Addr} {l : Ws} (h : StrAt w w.heap.size A l) (hs : w.Since w.heap.size wk) : StrAt wk wk.heap.size A l :=
  ⟨fun i hi => by
    obtain ⟨ad, h0, h1, h2⟩ := (h.below hs (Nat.le_refl _)).at_ i hi
    exact ⟨ad, h0, Nat.lt_of_lt_of_le h1 hs.size, h2⟩⟩
theorem since_two {w w1 w2 : World} (h1 : w.Since w.heap.size w1) (h2 : w1.Since w1.heap.size w2) : w.Since w.heap.size w2 :=
  have hle := h1.size
  h1.trans ⟨h2.os, h2.tape, h2.output, h2.size, fun k hk => h2.block k (by omega)⟩
theorem since_alloc {w wk : World} (h : w.Since w.heap.size wk) (o : Obj) : w.Since w.heap.size (wk.alloc o) := h.alloc h.size o
theorem since_grown {B : Nat} {w wk w' : World} {blk : Option Nat} (h : w.Since B wk) (hB : B ≤ wk.heap.size) (hg : wk.grownBy w' blk) (hb : ∀ k, blk = some k → B ≤ k) : w.Since B w' :=
  ⟨hg.os.trans h.os, hg.tape.trans h.tape, hg.output.trans h.output, Nat.le_trans h.size hg.size, fun k hk => (hg.block k (by omega) (fun e => by have := hb k e.symm; omega)).trans (h.block k hk)⟩

/-- A list of words as it comes in: where it lies, how long it is, that each word can be a key's part. -/
structure In (w : World) (A : Option Addr) (c : Nat) (l : Ws) : Prop where
  at_ : StrAt w w.heap.size A l
  cap : l.length ≤ c
  size : ∀ x ∈ l, x.size ≤ maxLen
theorem In.up {w wk : World} {A : Option Addr} {c : Nat} {l : Ws} (h : In w A c l) (hs : w.Since w.heap.size wk) : In wk A c l := ⟨strAt_in h.at_ hs, h.cap, h.size⟩

theorem gram_key : Keyed Tryz.prog 102 := Keyed.of_law (deep_law_laid (by kernel_rfl) (m := 2) (by omega) (by decide +kernel) (by kernel_rfl) (by kernel_rfl))
theorem gram_keyOf {a b c d : ByteArray} (ha : a.size ≤ maxLen) (hb : b.size ≤ maxLen) (hc : c.size ≤ maxLen) (hd : d.size ≤ maxLen) : ∃ q, keyOf Tryz.prog 102 (.agg #[.string a, .string b, .string c, .string d]) = some q := by
  have h1 : Tryz.prog.keyType 102 = true := by kernel_rfl
  have h2 : Value.formed Tryz.prog 102 (.agg #[.string a, .string b, .string c, .string d]) = true := by kernel_rfl
  obtain ⟨n, h3⟩ : ∃ n, Tryz.prog.types.size + 1 = n + 2 := by
    have h0 : Tryz.prog.types.size = 433 := by kernel_rfl
    exact ⟨432, by rw [h0]⟩
  have hc9 : Tryz.prog.cellsOf 9 = 1 := by kernel_rfl
  have hc90 : Tryz.prog.cellsOf 102 = 4 := by kernel_rfl
  unfold keyOf
  simp only [Tryz.underlying102, h1, h2, h3, Bool.and_self, if_true]
  simp [Program.keyLits, Tryz.underlying102, Tryz.underlying9, hc9, hc90, Value.cells, ha, hb, hc, hd, List.range_succ]

theorem enc_of : ∀ {g : Gram}, g.length ≤ 4 → (∀ x ∈ g, x.size ≤ maxLen) → ∃ a b c d, enc g = .agg #[.string a, .string b, .string c, .string d] ∧ a.size ≤ maxLen ∧ b.size ≤ maxLen ∧ c.size ≤ maxLen ∧ d.size ≤ maxLen
  | [], _, _ => ⟨_, _, _, _, rfl, Nat.zero_le _, Nat.zero_le _, Nat.zero_le _, Nat.zero_le _⟩
  | [a], _, h => ⟨a, _, _, _, rfl, h a (by simp), Nat.zero_le _, Nat.zero_le _, Nat.zero_le _⟩
  | [a, b], _, h => ⟨a, b, _, _, rfl, h a (by simp), h b (by simp), Nat.zero_le _, Nat.zero_le _⟩
  | [a, b, c], _, h => ⟨a, b, c, _, rfl, h a (by simp), h b (by simp), h c (by simp), Nat.zero_le _⟩
  | [a, b, c, d], _, h => ⟨a, b, c, d, rfl, h a (by simp), h b (by simp), h c (by simp), h d (by simp)⟩
theorem enc_keyOf {g : Gram} (hl : g.length ≤ 4) (hs : ∀ x ∈ g, x.size ≤ maxLen) : ∃ q, keyOf Tryz.prog 102 (enc g) = some q := by
  obtain ⟨a, b, c, d, e, ha, hb, hc, hd⟩ := enc_of hl hs
  rw [e]
  exact gram_keyOf ha hb hc hd
theorem zero_size (n : Nat) : ∀ x ∈ zeroG n, x.size ≤ maxLen := fun x hx => by
  rw [List.eq_of_mem_replicate hx]
  exact Nat.zero_le _

/-- The window of a list that the i-th gram is. -/
def win (l : Ws) (i n : Nat) : Gram := (l.drop i).take n
theorem win_length {l : Ws} {i n : Nat} (h : i + n ≤ l.length) : (win l i n).length = n := by simp [win]; omega
theorem win_get {l : Ws} {i n j : Nat} (h : i + n ≤ l.length) (hj : j < n) : (win l i n)[j]? = some (l[i + j]'(by omega)) := by
  simp only [win, List.getElem?_take, if_pos hj, List.getElem?_drop]
  exact List.getElem?_eq_getElem (by omega)
theorem win_size {l : Ws} {i n : Nat} (hs : ∀ x ∈ l, x.size ≤ maxLen) : ∀ x ∈ win l i n, x.size ≤ maxLen := fun x hx => hs x (List.mem_of_mem_drop (List.mem_of_mem_take hx))
theorem grams_take {l : Ws} {i n : Nat} (h : i < l.length + 1 - n) : (Bag.grams l n).take (i + 1) = (Bag.grams l n).take i ++ [win l i n] := by
  rw [List.take_succ_eq_append_getElem (by rw [Bag.grams_length]; exact h)]
  simp [Bag.grams, win]
theorem grams_all {l : Ws} {n : Nat} : (Bag.grams l n).take (l.length + 1 - n) = Bag.grams l n := List.take_of_length_le (by rw [Bag.grams_length]; exact Nat.le_refl _)
theorem gram_len {l : Ws} {n : Nat} : ∀ g ∈ Bag.grams l n, 1 ≤ n → g.length = n := fun g hg hn => by
  obtain ⟨i, hi, rfl⟩ := List.mem_map.1 hg
  have := List.mem_range.1 hi
  exact win_length (l := l) (i := i) (by omega)
end Go.Proofs.YtkklagdniaoghaaGreatDoor
