/- The table of costs in memory; the script as it grows. -/
import Derived.Test.YtgbjcphhcfmpgaaGreatDoorW1
import Derived.Test.YtgbjcphhcfmpgaaGreatDoorL2
namespace Go.Proofs.YtgbjcphhcfmpgaaGreatDoor
open Go.RowKit
open Go.Proofs.Lev hiding Ws

theorem ret_bool {a b : Bool} (h : a = b) : Ending.returned (.bool a) = .returned (.bool b) := by rw [h]
theorem eqS_iff {a b : ByteArray} : (a.toList == b.toList) = true ↔ a = b := by
  rw [beq_iff_eq]
  constructor
  · intro h; rw [ByteArray.toList_eq, ByteArray.toList_eq] at h; exact WideShapes.bytes_inj h
  · rintro rfl; rfl
theorem eqS_false {a b : ByteArray} : (a.toList == b.toList) = false ↔ a ≠ b := by
  rw [← Bool.not_eq_true, eqS_iff]

/-! ### memory -/
/-- The outer row: rows m and later are made. B: where it lies; al, bl: the lengths. -/
def topf (B al bl m : Nat) : Nat → Value := fun j => if m ≤ j then .slice (some ⟨B + 1 + (al - j), 0, none⟩) (bl + 1) (bl + 1) else .slice none 0 0
structure Outer (w wr : World) (a b : Ws) (m : Nat) : Prop where
  since : w.Since w.heap.size wr
  size : wr.heap.size = w.heap.size + 1 + (a.length + 1 - m)
  top : wr.rowIs w.heap.size 57 (a.length + 1) (topf w.heap.size a.length b.length m)
  done : ∀ j, m ≤ j → j ≤ a.length → wr.rowIs (w.heap.size + 1 + (a.length - j)) 3 (b.length + 1) (fun k => .int .i64 (L a b j k))
/-- Row i is made, its cells q and later are filled. -/
structure Inner (w wi : World) (a b : Ws) (i q : Nat) : Prop where
  since : w.Since w.heap.size wi
  size : wi.heap.size = w.heap.size + 1 + (a.length + 1 - i)
  top : wi.rowIs w.heap.size 57 (a.length + 1) (topf w.heap.size a.length b.length i)
  done : ∀ j, i + 1 ≤ j → j ≤ a.length → wi.rowIs (w.heap.size + 1 + (a.length - j)) 3 (b.length + 1) (fun k => .int .i64 (L a b j k))
  cur : wi.rowIs (w.heap.size + 1 + (a.length - i)) 3 (b.length + 1) (fun k => if q ≤ k then .int .i64 (L a b i k) else .int .i64 0)

theorem since_drewN {B : Nat} {w w' : World} (h : w.Since B w') : ∀ n, w.Since B (w'.drewN n) := fun _ => ⟨h.os, h.tape, h.output, h.size, h.block⟩
theorem rowIs_drewN {w : World} {b t n : Nat} {f : Nat → Value} (h : w.rowIs b t n f) (k : Nat) : (w.drewN k).rowIs b t n f := h
theorem Outer.drewN {w wr : World} {a b : Ws} {m : Nat} (h : Outer w wr a b m) (n : Nat) : Outer w (wr.drewN n) a b m := ⟨since_drewN h.since n, h.size, h.top, h.done⟩
theorem Inner.drewN {w wr : World} {a b : Ws} {i q : Nat} (h : Inner w wr a b i q) (n : Nat) : Inner w (wr.drewN n) a b i q := ⟨since_drewN h.since n, h.size, h.top, h.done, h.cur⟩

theorem Inner.drewSet {w wr : World} {a b : Ws} {i q : Nat} {p : Addr} {v : Value} (h : Inner w (wr.setCell p v) a b i q) (n : Nat) : Inner w ((wr.drewN n).setCell p v) a b i q :=
  ⟨⟨h.since.os, h.since.tape, h.since.output, h.since.size, h.since.block⟩, h.size, h.top, h.done, h.cur⟩

theorem outer_start (w : World) (a b : Ws) : Outer w (w.alloc (.cells (madeCells #[.slice none 0 0] (a.length + 1)) 57)) a b (a.length + 1) :=
  ⟨(World.Since.refl _ _).alloc (Nat.le_refl _) _, by simp, (World.rowIs_made w _ _ 57).congr (fun j hj => by simp only [topf]; rw [if_neg (by omega)]), fun j hj hj' => by omega⟩
theorem inner_start {w wr : World} {a b : Ws} {i : Nat} (hi : i ≤ a.length) (h : Outer w wr a b (i + 1)) :
    Inner w ((wr.alloc (.cells (madeCells #[.int .i64 0] (b.length + 1)) 3)).setCell ⟨w.heap.size, i, none⟩ (.slice (some ⟨w.heap.size + 1 + (a.length - i), 0, none⟩) (b.length + 1) (b.length + 1))) a b i (b.length + 1) := by
  have hnew := World.rowIs_made wr (.int .i64 0) (b.length + 1) 3
  rw [h.size, show w.heap.size + 1 + (a.length + 1 - (i + 1)) = w.heap.size + 1 + (a.length - i) from by omega] at hnew
  refine ⟨(h.since.alloc (by rw [h.size]; omega) _).setCell (Nat.le_refl _) _, by simp [h.size]; omega, ((h.top.alloc _).set i _).congr (fun j hj => ?_), fun j hj hj' => ((h.done j hj hj').alloc _).setOther (by show w.heap.size + 1 + (a.length - j) ≠ w.heap.size; omega) _,
    (hnew.setOther (by show w.heap.size + 1 + (a.length - i) ≠ w.heap.size; omega) _).congr (fun k hk => by rw [if_neg (by omega)])⟩
  simp only [topf]
  by_cases e : j = i
  · subst e; simp
  · rw [if_neg e]
    by_cases hlt : i + 1 ≤ j
    · rw [if_pos hlt, if_pos (by omega)]
    · rw [if_neg hlt, if_neg (by omega)]
theorem inner_step {w wi : World} {a b : Ws} {i q : Nat} {v : Int} (hi : i ≤ a.length) (hv : v = (L a b i q : Nat)) (h : Inner w wi a b i (q + 1)) :
    Inner w (wi.setCell ⟨w.heap.size + 1 + (a.length - i), q, none⟩ (.int .i64 v)) a b i q := by
  subst hv
  refine ⟨h.since.setCell (by show w.heap.size ≤ w.heap.size + 1 + (a.length - i); omega) _, by simp [h.size], h.top.setOther (by show w.heap.size ≠ w.heap.size + 1 + (a.length - i); omega) _,
    fun j hj hj' => (h.done j hj hj').setOther (by show w.heap.size + 1 + (a.length - j) ≠ w.heap.size + 1 + (a.length - i); omega) _, (h.cur.set q _).congr (fun k hk => ?_)⟩
  by_cases e : k = q
  · subst e; simp
  · rw [if_neg e]
    by_cases hlt : q + 1 ≤ k
    · rw [if_pos hlt, if_pos (by omega)]
    · rw [if_neg hlt, if_neg (by omega)]
theorem inner_done {w wi : World} {a b : Ws} {i : Nat} (h : Inner w wi a b i 0) : Outer w wi a b i :=
  ⟨h.since, h.size, h.top, fun j hj hj' => by
    by_cases e : j = i
    · subst e
      exact h.cur.congr (fun k hk => by rw [if_pos (Nat.zero_le _)])
    · exact h.done j (by omega) hj'⟩
/-- The table stands: what the second loop reads. -/
theorem Outer.cell {w wr : World} {a b : Ws} (h : Outer w wr a b 0) {i : Nat} (hi : i ≤ a.length) :
    wr.cell? ⟨w.heap.size, i, none⟩ = some (.slice (some ⟨w.heap.size + 1 + (a.length - i), 0, none⟩) (b.length + 1) (b.length + 1)) := by
  have := h.top.cell (i := i) (by omega)
  simpa [topf] using this
theorem Outer.cost {w wr : World} {a b : Ws} (h : Outer w wr a b 0) {i k : Nat} (hi : i ≤ a.length) (hk : k ≤ b.length) :
    wr.cell? ⟨w.heap.size + 1 + (a.length - i), k, none⟩ = some (.int .i64 (L a b i k)) := (h.done i (Nat.zero_le _) hi).cell (by omega)
/-! ### the script as it grows -/
structure Scr (wt wi : World) (v : Value) (s : List Nat) : Prop where
  since : wt.Since wt.heap.size wi
  own : wi.ownsRow wt.heap.size 31 1 v s.length (s.map fun o => .int .u8 (o : Nat))
theorem scr_start (wt : World) : Scr wt wt (.slice none 0 0) [] := ⟨World.Since.refl _ _, World.ownsRow_nil _ _ _ _⟩
theorem cell_new {wd : World} {n t : Nat} {v : Value} (h : n = wd.heap.size) : (wd.alloc (.cells #[v] t)).cell? ⟨n, 0, none⟩ = some v := by subst h; simp
theorem scr_push {wt wi wd w1 : World} {v v' : Value} {s : List Nat} {x : Nat} {o : Obj} (hg : (wd.alloc o).grownBy w1 v.ownBlock) (ho : w1.ownsRow wt.heap.size 31 1 v' (s.length + 1) ((s.map fun o => .int .u8 (o : Nat)) ++ [.int .u8 (x : Nat)]))
    (h : Scr wt wi v s) (e1 : wd.heap = wi.heap) (e2 : wd.os = wi.os) (e3 : wd.tape = wi.tape) (e4 : wd.output = wi.output) : Scr wt w1 v' (s ++ [x]) := by
  have hs : wt.Since wt.heap.size wd := ⟨e2.trans h.since.os, e3.trans h.since.tape, e4.trans h.since.output, by rw [e1]; exact h.since.size, fun k hk => by rw [e1]; exact h.since.block k hk⟩
  refine ⟨(hs.alloc hs.size o).grown hg ?_ fun k hk => (h.own.lt k hk).1, ?_⟩
  · have := hs.size
    simp only [Deep.nblk_alloc]
    omega
  · rw [List.length_append, List.map_append]
    exact ho
theorem Scr.same {wt wi wd : World} {v : Value} {s : List Nat} (h : Scr wt wi v s) (e1 : wd.heap = wi.heap) (e2 : wd.os = wi.os) (e3 : wd.tape = wi.tape) (e4 : wd.output = wi.output) : Scr wt wd v s :=
  ⟨⟨e2.trans h.since.os, e3.trans h.since.tape, e4.trans h.since.output, by rw [e1]; exact h.since.size, fun k hk => by rw [e1]; exact h.since.block k hk⟩, by
    have := h.own
    unfold World.ownsRow at *
    rw [e1]
    exact this⟩
theorem edits_done {a b : Ws} {w wt wr wd : World} {v : Value} {s : List Nat} (hO : Outer w wt a b 0) (hS : Scr wt wr v s) (e1 : wd.heap = wr.heap) (e2 : wd.os = wr.os) (e3 : wd.tape = wr.tape) (e4 : wd.output = wr.output) :
    wd.ownsRow w.heap.size 31 1 v s.length (s.map fun o => .int .u8 (o : Nat)) ∧ w.Since w.heap.size wd := by
  have hS' := hS.same e1 e2 e3 e4
  have hle := hO.since.size
  refine ⟨?_, hO.since.trans ⟨hS'.since.os, hS'.since.tape, hS'.since.output, hS'.since.size, fun k hk => hS'.since.block k (by omega)⟩⟩
  obtain ⟨h1, h2⟩ := hS'.own
  refine ⟨h1, h2.imp id ?_⟩
  rintro ⟨g, cap, cur, hv, hb, hr⟩
  exact ⟨g, cap, cur, hv, by omega, hr⟩
theorem info3 : (Tryz.prog.info? 3).map (fun i => (i.zero, i.size, i.bytes)) = some (some (.int .i64 0), 1, 8) := by kernel_rfl
theorem info57 : (Tryz.prog.info? 57).map (fun i => (i.zero, i.size, i.bytes)) = some (some (.slice none 0 0), 1, 24) := by kernel_rfl
theorem info31 : (Tryz.prog.info? 31).map (fun i => (i.zero, i.size, i.bytes)) = some (some (.int .u8 0), 1, 1) := by kernel_rfl

end Go.Proofs.YtgbjcphhcfmpgaaGreatDoor
