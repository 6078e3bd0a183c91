/- Plain facts for the walk of Edits: scripts, the table of costs, memory. -/
import Derived.Test.YtdiamfejibicbaaGreatDoorRows
import Derived.Test.YtdiamfejibicbaaGreatDoorL1
import Derived.WalkKit
import Derived.WalkSpells
import Derived.WalkLawsBesides
import Derived.Lib.Hide
import Derived.Deep.QuietTactic
import Derived.BigQuiet
import Derived.Deep.OwnRows
import Derived.Deep.LoopGhost
namespace Go.Proofs.YtdiamfejibicbaaGreatDoor
open Go.RowKit Go.Proofs.Lev

abbrev Ws := List ByteArray
/-- The slice A reads as l, below block B. -/
structure StrAt (w : World) (B : Nat) (A : Option Addr) (l : Ws) : Prop where
  at_ : ∀ i (h : i < l.length), ∃ ad, A = some ad ∧ ad.block < B ∧ w.cell? (ad.add i) = some (.string l[i])
theorem block_add (a : Addr) (n : Nat) : (a.add n).block = a.block := by unfold Addr.add; split <;> rfl
theorem StrAt.below {w w' : World} {B B' : Nat} {A : Option Addr} {l : Ws} (h : StrAt w B A l) (hb : w.Since B' w') (hB : B ≤ B') : StrAt w' B A l :=
  ⟨fun i hi => by
    obtain ⟨ad, h0, h1, h2⟩ := h.at_ i hi
    exact ⟨ad, h0, h1, by rw [hb.cell (by rw [block_add]; omega)]; exact h2⟩⟩

theorem ret_bool {a b : Bool} (h : a = b) : Ending.returned (.bool a) = .returned (.bool b) := by rw [h]
theorem eqS_iff {a b : ByteArray} : (a.toList == b.toList) = true ↔ a = b := by
  rw [beq_iff_eq]
  constructor
  · intro h; rw [ByteArray.toList_eq, ByteArray.toList_eq] at h; exact WideShapes.bytes_inj h
  · rintro rfl; rfl
theorem eqS_false {a b : ByteArray} : (a.toList == b.toList) = false ↔ a ≠ b := by
  rw [← Bool.not_eq_true, eqS_iff]

/-! ### the table -/
def L (a b : Ws) (i k : Nat) : Nat := lev (a.drop i) (b.drop k)
theorem L_endA (a b : Ws) (k : Nat) : L a b a.length k = b.length - k := by simp [L, lev_nil]
theorem L_endB (a b : Ws) (i : Nat) : L a b i b.length = a.length - i := by simp [L, lev_end]
theorem L_step {a b : Ws} {i k : Nat} (hi : i < a.length) (hk : k < b.length) :
    L a b i k = if a[i] = b[k] then min (1 + min (min (L a b (i + 1) (k + 1)) (L a b (i + 1) k)) (L a b i (k + 1))) (L a b (i + 1) (k + 1)) else 1 + min (min (L a b (i + 1) (k + 1)) (L a b (i + 1) k)) (L a b i (k + 1)) := by
  unfold L
  rw [List.drop_eq_getElem_cons hi, List.drop_eq_getElem_cons hk, lev_cons]
theorem L_eq {a b : Ws} {i k : Nat} (hi : i < a.length) (hk : k < b.length) (e : a[i] = b[k]) :
    L a b i k = min (1 + min (min (L a b (i + 1) (k + 1)) (L a b (i + 1) k)) (L a b i (k + 1))) (L a b (i + 1) (k + 1)) := by rw [L_step hi hk, if_pos e]
theorem L_ne {a b : Ws} {i k : Nat} (hi : i < a.length) (hk : k < b.length) (e : a[i] ≠ b[k]) :
    L a b i k = 1 + min (min (L a b (i + 1) (k + 1)) (L a b (i + 1) k)) (L a b i (k + 1)) := by rw [L_step hi hk, if_neg e]
theorem L_le (a b : Ws) (i k : Nat) : L a b i k ≤ a.length + b.length := by
  have := lev_max (a.drop i) (b.drop k)
  simp only [List.length_drop] at this
  unfold L
  omega

/-! ### scripts -/
def run (a b : Ws) : List Nat → Nat → Nat → Nat → Option (Nat × Nat × Nat)
  | [], i, k, c => some (i, k, c)
  | 0 :: s, i, k, c => if i < a.length ∧ k < b.length ∧ a[i]? = b[k]? then run a b s (i + 1) (k + 1) c else none
  | 1 :: s, i, k, c => if i < a.length ∧ k < b.length then run a b s (i + 1) (k + 1) (c + 1) else none
  | 2 :: s, i, k, c => if i < a.length then run a b s (i + 1) k (c + 1) else none
  | 3 :: s, i, k, c => if k < b.length then run a b s i (k + 1) (c + 1) else none
  | _ :: _, _, _, _ => none
theorem run_app {a b : Ws} : ∀ {s t : List Nat} {i k c : Nat} {x : Nat × Nat × Nat}, run a b s i k c = some x → run a b (s ++ t) i k c = run a b t x.1 x.2.1 x.2.2
  | [], t, i, k, c, x, h => by cases h; rfl
  | o :: s, t, i, k, c, x, h => by
    match o, h with
    | 0, h => simp only [run] at h; split at h; exact (by rename_i q; simp only [List.cons_append, run, if_pos q]; exact run_app h); cases h
    | 1, h => simp only [run] at h; split at h; exact (by rename_i q; simp only [List.cons_append, run, if_pos q]; exact run_app h); cases h
    | 2, h => simp only [run] at h; split at h; exact (by rename_i q; simp only [List.cons_append, run, if_pos q]; exact run_app h); cases h
    | 3, h => simp only [run] at h; split at h; exact (by rename_i q; simp only [List.cons_append, run, if_pos q]; exact run_app h); cases h
    | n + 4, h => simp [run] at h
theorem run_len {a b : Ws} : ∀ {s : List Nat} {i k c : Nat} {x : Nat × Nat × Nat}, run a b s i k c = some x → i ≤ x.1 ∧ k ≤ x.2.1 ∧ s.length + i + k ≤ x.1 + x.2.1
  | [], i, k, c, x, h => by cases h; simp
  | o :: s, i, k, c, x, h => by
    match o, h with
    | 0, h => simp only [run] at h; split at h; exact (by have := run_len h; simp only [List.length_cons]; omega); cases h
    | 1, h => simp only [run] at h; split at h; exact (by have := run_len h; simp only [List.length_cons]; omega); cases h
    | 2, h => simp only [run] at h; split at h; exact (by have := run_len h; simp only [List.length_cons]; omega); cases h
    | 3, h => simp only [run] at h; split at h; exact (by have := run_len h; simp only [List.length_cons]; omega); cases h
    | n + 4, h => simp [run] at h

/-! ### memory -/
/-- The outer row: rows m and later are made. B: where it lies; al, bl: the lengths. -/
def topf (B al bl m : Nat) : Nat → Value := fun j => if m ≤ j then .slice (some ⟨B + 1 + (al - j), 0, none⟩) (bl + 1) (bl + 1) else .slice none 0 0
structure Outer (w wr : World) (a b : Ws) (m : Nat) : Prop where
  since : w.Since w.heap.size wr
  size : wr.heap.size = w.heap.size + 1 + (a.length + 1 - m)
  top : wr.rowIs w.heap.size 50 (a.length + 1) (topf w.heap.size a.length b.length m)
  done : ∀ j, m ≤ j → j ≤ a.length → wr.rowIs (w.heap.size + 1 + (a.length - j)) 3 (b.length + 1) (fun k => .int .i64 (L a b j k))
/-- Row i is made, its cells q and later are filled. -/
structure Inner (w wi : World) (a b : Ws) (i q : Nat) : Prop where
  since : w.Since w.heap.size wi
  size : wi.heap.size = w.heap.size + 1 + (a.length + 1 - i)
  top : wi.rowIs w.heap.size 50 (a.length + 1) (topf w.heap.size a.length b.length i)
  done : ∀ j, i + 1 ≤ j → j ≤ a.length → wi.rowIs (w.heap.size + 1 + (a.length - j)) 3 (b.length + 1) (fun k => .int .i64 (L a b j k))
  cur : wi.rowIs (w.heap.size + 1 + (a.length - i)) 3 (b.length + 1) (fun k => if q ≤ k then .int .i64 (L a b i k) else .int .i64 0)

theorem since_drewN {B : Nat} {w w' : World} (h : w.Since B w') : ∀ n, w.Since B (w'.drewN n) := fun n => ⟨h.os, h.tape, h.output, h.size, h.block⟩
theorem rowIs_drewN {w : World} {b t n : Nat} {f : Nat → Value} (h : w.rowIs b t n f) (k : Nat) : (w.drewN k).rowIs b t n f := h
theorem Outer.drewN {w wr : World} {a b : Ws} {m : Nat} (h : Outer w wr a b m) (n : Nat) : Outer w (wr.drewN n) a b m := ⟨since_drewN h.since n, h.size, h.top, h.done⟩
theorem Inner.drewN {w wr : World} {a b : Ws} {i q : Nat} (h : Inner w wr a b i q) (n : Nat) : Inner w (wr.drewN n) a b i q := ⟨since_drewN h.since n, h.size, h.top, h.done, h.cur⟩

theorem Inner.drewSet {w wr : World} {a b : Ws} {i q : Nat} {p : Addr} {v : Value} (h : Inner w (wr.setCell p v) a b i q) (n : Nat) : Inner w ((wr.drewN n).setCell p v) a b i q :=
  ⟨⟨h.since.os, h.since.tape, h.since.output, h.since.size, h.since.block⟩, h.size, h.top, h.done, h.cur⟩

theorem outer_start (w : World) (a b : Ws) : Outer w (w.alloc (.cells (madeCells #[.slice none 0 0] (a.length + 1)) 50)) a b (a.length + 1) :=
  ⟨(World.Since.refl _ _).alloc (Nat.le_refl _) _, by simp, (World.rowIs_made w _ _ 50).congr (fun j hj => by simp only [topf]; rw [if_neg (by omega)]), fun j hj hj' => by omega⟩
theorem inner_start {w wr : World} {a b : Ws} {i : Nat} (hi : i ≤ a.length) (h : Outer w wr a b (i + 1)) :
    Inner w ((wr.alloc (.cells (madeCells #[.int .i64 0] (b.length + 1)) 3)).setCell ⟨w.heap.size, i, none⟩ (.slice (some ⟨w.heap.size + 1 + (a.length - i), 0, none⟩) (b.length + 1) (b.length + 1))) a b i (b.length + 1) := by
  have hnew := World.rowIs_made wr (.int .i64 0) (b.length + 1) 3
  rw [h.size, show w.heap.size + 1 + (a.length + 1 - (i + 1)) = w.heap.size + 1 + (a.length - i) from by omega] at hnew
  refine ⟨(h.since.alloc (by rw [h.size]; omega) _).setCell (Nat.le_refl _) _, by simp [h.size]; omega, ((h.top.alloc _).set i _).congr (fun j hj => ?_), fun j hj hj' => ((h.done j hj hj').alloc _).setOther (by show w.heap.size + 1 + (a.length - j) ≠ w.heap.size; omega) _,
    (hnew.setOther (by show w.heap.size + 1 + (a.length - i) ≠ w.heap.size; omega) _).congr (fun k hk => by rw [if_neg (by omega)])⟩
  simp only [topf]
  by_cases e : j = i
  · subst e; simp
  · rw [if_neg e]
    by_cases hlt : i + 1 ≤ j
    · rw [if_pos hlt, if_pos (by omega)]
    · rw [if_neg hlt, if_neg (by omega)]
theorem inner_step {w wi : World} {a b : Ws} {i q : Nat} {v : Int} (hi : i ≤ a.length) (hv : v = (L a b i q : Nat)) (h : Inner w wi a b i (q + 1)) :
    Inner w (wi.setCell ⟨w.heap.size + 1 + (a.length - i), q, none⟩ (.int .i64 v)) a b i q := by
  subst hv
  refine ⟨h.since.setCell (by show w.heap.size ≤ w.heap.size + 1 + (a.length - i); omega) _, by simp [h.size], h.top.setOther (by show w.heap.size ≠ w.heap.size + 1 + (a.length - i); omega) _,
    fun j hj hj' => (h.done j hj hj').setOther (by show w.heap.size + 1 + (a.length - j) ≠ w.heap.size + 1 + (a.length - i); omega) _, (h.cur.set q _).congr (fun k hk => ?_)⟩
  by_cases e : k = q
  · subst e; simp
  · rw [if_neg e]
    by_cases hlt : q + 1 ≤ k
    · rw [if_pos hlt, if_pos (by omega)]
    · rw [if_neg hlt, if_neg (by omega)]
theorem inner_done {w wi : World} {a b : Ws} {i : Nat} (h : Inner w wi a b i 0) : Outer w wi a b i :=
  ⟨h.since, h.size, h.top, fun j hj hj' => by
    by_cases e : j = i
    · subst e
      exact h.cur.congr (fun k hk => by rw [if_pos (Nat.zero_le _)])
    · exact h.done j (by omega) hj'⟩
/-- The table stands: what the second loop reads. -/
theorem Outer.cell {w wr : World} {a b : Ws} (h : Outer w wr a b 0) {i : Nat} (hi : i ≤ a.length) :
    wr.cell? ⟨w.heap.size, i, none⟩ = some (.slice (some ⟨w.heap.size + 1 + (a.length - i), 0, none⟩) (b.length + 1) (b.length + 1)) := by
  have := h.top.cell (i := i) (by omega)
  simpa [topf] using this
theorem Outer.cost {w wr : World} {a b : Ws} (h : Outer w wr a b 0) {i k : Nat} (hi : i ≤ a.length) (hk : k ≤ b.length) :
    wr.cell? ⟨w.heap.size + 1 + (a.length - i), k, none⟩ = some (.int .i64 (L a b i k)) := (h.done i (Nat.zero_le _) hi).cell (by omega)
/-! ### the script as it grows -/
structure Scr (wt wi : World) (v : Value) (s : List Nat) : Prop where
  since : wt.Since wt.heap.size wi
  own : wi.ownsRow wt.heap.size 29 1 v s.length (s.map fun o => .int .u8 (o : Nat))
theorem scr_start (wt : World) : Scr wt wt (.slice none 0 0) [] := ⟨World.Since.refl _ _, World.ownsRow_nil _ _ _ _⟩
theorem cell_new {wd : World} {n t : Nat} {v : Value} (h : n = wd.heap.size) : (wd.alloc (.cells #[v] t)).cell? ⟨n, 0, none⟩ = some v := by subst h; simp
theorem scr_push {wt wi wd w1 : World} {v v' : Value} {s : List Nat} {x : Nat} {o : Obj} (hg : (wd.alloc o).grownBy w1 v.ownBlock) (ho : w1.ownsRow wt.heap.size 29 1 v' (s.length + 1) ((s.map fun o => .int .u8 (o : Nat)) ++ [.int .u8 (x : Nat)]))
    (h : Scr wt wi v s) (e1 : wd.heap = wi.heap) (e2 : wd.os = wi.os) (e3 : wd.tape = wi.tape) (e4 : wd.output = wi.output) : Scr wt w1 v' (s ++ [x]) := by
  have hs : wt.Since wt.heap.size wd := ⟨e2.trans h.since.os, e3.trans h.since.tape, e4.trans h.since.output, by rw [e1]; exact h.since.size, fun k hk => by rw [e1]; exact h.since.block k hk⟩
  refine ⟨(hs.alloc hs.size o).grown hg ?_ fun k hk => (h.own.lt k hk).1, ?_⟩
  · have := hs.size
    simp only [Deep.nblk_alloc]
    omega
  · rw [List.length_append, List.map_append]
    exact ho
theorem Scr.same {wt wi wd : World} {v : Value} {s : List Nat} (h : Scr wt wi v s) (e1 : wd.heap = wi.heap) (e2 : wd.os = wi.os) (e3 : wd.tape = wi.tape) (e4 : wd.output = wi.output) : Scr wt wd v s :=
  ⟨⟨e2.trans h.since.os, e3.trans h.since.tape, e4.trans h.since.output, by rw [e1]; exact h.since.size, fun k hk => by rw [e1]; exact h.since.block k hk⟩, by
    have := h.own
    unfold World.ownsRow at *
    rw [e1]
    exact this⟩
/-- How far a script has come, and what is still to pay. -/
structure Half (a b : Ws) (I K : Nat) (s : List Nat) : Prop where
  le : s.length ≤ I + K
  ex : ∃ c, run a b s 0 0 0 = some (I, K, c) ∧ c + L a b I K = L a b 0 0
theorem half_start (a b : Ws) : Half a b 0 0 [] := ⟨by simp, 0, rfl, by omega⟩
theorem half_keep {a b : Ws} {I K : Nat} {s : List Nat} (h : Half a b I K s) (hI : I < a.length) (hK : K < b.length) (e : a[I] = b[K]) (he : L a b (I + 1) (K + 1) = L a b I K) : Half a b (I + 1) (K + 1) (s ++ [0]) := by
  obtain ⟨h0, c, h1, h2⟩ := h
  refine ⟨by simp; omega, c, ?_, by omega⟩
  rw [run_app h1]
  simp only [run]
  rw [if_pos ⟨hI, hK, by rw [List.getElem?_eq_getElem hI, List.getElem?_eq_getElem hK, e]⟩]
theorem half_swap {a b : Ws} {I K : Nat} {s : List Nat} (h : Half a b I K s) (hI : I < a.length) (hK : K < b.length) (he : L a b (I + 1) (K + 1) + 1 = L a b I K) : Half a b (I + 1) (K + 1) (s ++ [1]) := by
  obtain ⟨h0, c, h1, h2⟩ := h
  refine ⟨by simp; omega, c + 1, ?_, by omega⟩
  rw [run_app h1]
  simp only [run]
  rw [if_pos ⟨hI, hK⟩]
theorem half_drop {a b : Ws} {I K : Nat} {s : List Nat} (h : Half a b I K s) (hI : I < a.length) (he : L a b (I + 1) K + 1 = L a b I K) : Half a b (I + 1) K (s ++ [2]) := by
  obtain ⟨h0, c, h1, h2⟩ := h
  refine ⟨by simp; omega, c + 1, ?_, by omega⟩
  rw [run_app h1]
  simp only [run]
  rw [if_pos hI]
theorem half_put {a b : Ws} {I K : Nat} {s : List Nat} (h : Half a b I K s) (hK : K < b.length) (he : L a b I (K + 1) + 1 = L a b I K) : Half a b I (K + 1) (s ++ [3]) := by
  obtain ⟨h0, c, h1, h2⟩ := h
  refine ⟨by simp; omega, c + 1, ?_, by omega⟩
  rw [run_app h1]
  simp only [run]
  rw [if_pos hK]
theorem half_done {a b : Ws} {s : List Nat} (h : Half a b a.length b.length s) : run a b s 0 0 0 = some (a.length, b.length, lev a b) := by
  obtain ⟨h0, c, h1, h2⟩ := h
  rw [L_endA] at h2
  have : L a b 0 0 = lev a b := by simp [L]
  rw [this] at h2
  rw [h1, ← h2]
  simp
theorem edits_done {a b : Ws} {w wt wr wd : World} {v : Value} {s : List Nat} (hO : Outer w wt a b 0) (hS : Scr wt wr v s) (e1 : wd.heap = wr.heap) (e2 : wd.os = wr.os) (e3 : wd.tape = wr.tape) (e4 : wd.output = wr.output) :
    wd.ownsRow w.heap.size 29 1 v s.length (s.map fun o => .int .u8 (o : Nat)) ∧ w.Since w.heap.size wd := by
  have hS' := hS.same e1 e2 e3 e4
  have hle := hO.since.size
  refine ⟨?_, hO.since.trans ⟨hS'.since.os, hS'.since.tape, hS'.since.output, hS'.since.size, fun k hk => hS'.since.block k (by omega)⟩⟩
  obtain ⟨h1, h2⟩ := hS'.own
  refine ⟨h1, h2.imp id ?_⟩
  rintro ⟨g, cap, cur, hv, hb, hr⟩
  exact ⟨g, cap, cur, hv, by omega, hr⟩
end Go.Proofs.YtdiamfejibicbaaGreatDoor
