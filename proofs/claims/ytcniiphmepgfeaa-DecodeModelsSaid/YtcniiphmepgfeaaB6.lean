import Derived.Test.YtcniiphmepgfeaaB4
namespace Go.Proofs.Ytcniiphmepgfeaa
open Go.RowKit

def sDer : ByteArray := { data := #[100, 101, 114] }
def sHund : ByteArray := { data := #[104, 117, 110, 100] }
def sHunde : ByteArray := { data := #[104, 117, 110, 100, 101] }
def sSehen : ByteArray := { data := #[115, 101, 104, 101, 110] }
def exM : Mdl := { unknown := 4, words := [⟨.empty, 1, 2⟩, ⟨sDer, 1, 1⟩], pairs := [⟨sDer, sHund, 0⟩] }
def exL : List ByteArray := [sDer, sHund, sDer, sHunde, sSehen]
theorem ex_score : scoreR exM exL = (14, 0) := by decide +kernel

def exW (w : World) : World :=
  ((w.alloc (.cells #[.int .i64 4, .slice (some ⟨w.heap.size + 1, 0, none⟩) 2 2, .slice (some ⟨w.heap.size + 1 + 1, 0, none⟩) 1 1] 25)).alloc
    (.cells #[.string { data := #[] }, .int .i64 1, .int .i64 2, .string { data := #[100, 101, 114] }, .int .i64 1, .int .i64 1] 45)).alloc
    (.cells #[.string { data := #[100, 101, 114] }, .string { data := #[104, 117, 110, 100] }, .int .i64 0] 47)
theorem exW_size (w : World) : (exW w).heap.size = w.heap.size + 3 := by simp [exW]
theorem exW_below (w : World) : Below w.heap.size w (exW w) := (((Below.refl _ _).alloc (Nat.le_refl _) _).alloc (by simp) _).alloc (by simp; omega) _
theorem exW_box (w : World) : Blk (exW w) w.heap.size 25 #[.int .i64 4, .slice (some ⟨w.heap.size + 1, 0, none⟩) 2 2, .slice (some ⟨w.heap.size + 1 + 1, 0, none⟩) 1 1] :=
  ((Blk.new _ _ _).alloc _).alloc _
theorem exW_words (w : World) : Blk (exW w) (w.heap.size + 1) 45 #[.string { data := #[] }, .int .i64 1, .int .i64 2, .string { data := #[100, 101, 114] }, .int .i64 1, .int .i64 1] := by
  have := (Blk.new (w.alloc (.cells #[.int .i64 4, .slice (some ⟨w.heap.size + 1, 0, none⟩) 2 2, .slice (some ⟨w.heap.size + 1 + 1, 0, none⟩) 1 1] 25)) 45
    #[.string { data := #[] }, .int .i64 1, .int .i64 2, .string { data := #[100, 101, 114] }, .int .i64 1, .int .i64 1]).alloc (.cells #[.string { data := #[100, 101, 114] }, .string { data := #[104, 117, 110, 100] }, .int .i64 0] 47)
  unfold exW
  simpa using this
theorem exW_pairs (w : World) : Blk (exW w) (w.heap.size + 1 + 1) 47 #[.string { data := #[100, 101, 114] }, .string { data := #[104, 117, 110, 100] }, .int .i64 0] := by
  have := Blk.new ((w.alloc (.cells #[.int .i64 4, .slice (some ⟨w.heap.size + 1, 0, none⟩) 2 2, .slice (some ⟨w.heap.size + 1 + 1, 0, none⟩) 1 1] 25)).alloc
    (.cells #[.string { data := #[] }, .int .i64 1, .int .i64 2, .string { data := #[100, 101, 114] }, .int .i64 1, .int .i64 1] 45)) 47
    #[.string { data := #[100, 101, 114] }, .string { data := #[104, 117, 110, 100] }, .int .i64 0]
  unfold exW
  simpa using this
theorem ex_uni {w : World} {b B : Nat} (h : Blk w b 45 #[.string { data := #[] }, .int .i64 1, .int .i64 2, .string { data := #[100, 101, 114] }, .int .i64 1, .int .i64 1]) (hB : b < B) : UniAt w B (some ⟨b, 0, none⟩) exM.words :=
  ⟨fun i hi => by
    have h2 : i = 0 ∨ i = 1 := by simp [exM] at hi; omega
    rcases h2 with rfl | rfl
    · exact ⟨_, rfl, hB, (h.cell 0), (h.cell 1), (h.cell 2)⟩
    · exact ⟨_, rfl, hB, (h.cell 3), (h.cell 4), (h.cell 5)⟩⟩
theorem ex_bi {w : World} {b B : Nat} (h : Blk w b 47 #[.string { data := #[100, 101, 114] }, .string { data := #[104, 117, 110, 100] }, .int .i64 0]) (hB : b < B) : BiAt w B (some ⟨b, 0, none⟩) exM.pairs :=
  ⟨fun i hi => by
    have h2 : i = 0 := by simp [exM] at hi; omega
    rcases h2 with rfl
    exact ⟨_, rfl, hB, (h.cell 0), (h.cell 1), (h.cell 2)⟩⟩
theorem ex_str {w : World} {b B : Nat} (h : Blk w b 9 #[.string { data := #[100, 101, 114] }, .string { data := #[104, 117, 110, 100] }, .string { data := #[100, 101, 114] }, .string { data := #[104, 117, 110, 100, 101] }, .string { data := #[115, 101, 104, 101, 110] }]) (hB : b < B) :
    StrAt w B (some ⟨b, 0, none⟩) exL :=
  ⟨fun i hi => by
    have h2 : i = 0 ∨ i = 1 ∨ i = 2 ∨ i = 3 ∨ i = 4 := by simp [exL] at hi; omega
    rcases h2 with rfl | rfl | rfl | rfl | rfl
    · exact ⟨_, rfl, hB, h.cell 0⟩
    · exact ⟨_, rfl, hB, h.cell 1⟩
    · exact ⟨_, rfl, hB, h.cell 2⟩
    · exact ⟨_, rfl, hB, h.cell 3⟩
    · exact ⟨_, rfl, hB, h.cell 4⟩⟩

def ExR (w : World) (e : Ending) (w' : World) : Prop :=
  ∃ b1 b2, e = .returned (.agg #[.int .i64 exM.unknown, .slice (some ⟨b1, 0, none⟩) exM.words.length 2, .slice (some ⟨b2, 0, none⟩) exM.pairs.length 1]) ∧
    UniAt w' w'.heap.size (some ⟨b1, 0, none⟩) exM.words ∧ BiAt w' w'.heap.size (some ⟨b2, 0, none⟩) exM.pairs ∧ Below w.heap.size w w'

set_option maxHeartbeats 1000000 in
theorem example12 (w : World) : Calls Try.prog 12 #[] w (ExR w) := by
  have HF : Hid (ExR w (.returned (.agg #[.int .i64 4, .slice (some ⟨w.heap.size + 1, 0, none⟩) 2 2, .slice (some ⟨w.heap.size + 1 + 1, 0, none⟩) 1 1])) (exW w)) :=
    ⟨_, _, rfl, ex_uni (exW_words w) (by rw [exW_size]; omega), ex_bi (exW_pairs w) (by rw [exW_size]; omega), exW_below w⟩
  have hb := exW_box w
  have h0 := hb.cell 0
  have h1 := hb.cell 1
  have h2 := hb.cell 2
  unfold exW at h0 h1 h2
  clear hb
  simp only [List.getElem?_toArray, List.getElem?_cons_zero, List.getElem?_cons_succ] at h0 h1 h2
  have H0 := Lib.hid h0
  have H1 := Lib.hid h1
  have H2 := Lib.hid h2
  clear h0 h1 h2
  go_enter Try.func12, Try.ntmps12
  go_wp2
  refine bodyPost_ret (v := .agg #[.int .i64 4, .slice (some ⟨w.heap.size + 1, 0, none⟩) 2 2, .slice (some ⟨w.heap.size + 1 + 1, 0, none⟩) 1 1]) ?_ rfl HF.out
  simp [results, Try.results12, go_sem]

def LivesR (w : World) (e : Ending) (w' : World) : Prop := e = .returned (.bool true) ∧ Below w.heap.size w w'
set_option maxHeartbeats 1000000 in
theorem lives5 (w : World) : Calls Try.prog 5 #[] w (LivesR w) := by
  go_enter Try.func5, Try.ntmps5
  go_wp2_with fail
  refine (example12 _).mono ?_
  rintro e w1 ⟨b1, b2, rfl, hU, hB, hb⟩
  have HU := Lib.hid hU
  have HB := Lib.hid hB
  have Hb := Lib.hid hb
  clear hU hB hb
  go_wp2_with fail
  have hb1 : Below w1.heap.size w1 (w1.alloc (.cells #[.string { data := #[100, 101, 114] }, .string { data := #[104, 117, 110, 100] }, .string { data := #[100, 101, 114] }, .string { data := #[104, 117, 110, 100, 101] }, .string { data := #[115, 101, 104, 101, 110] }] 9)) :=
    (Below.refl _ _).alloc (Nat.le_refl _) _
  have hs := ex_str (Blk.new w1 9 #[.string { data := #[100, 101, 114] }, .string { data := #[104, 117, 110, 100] }, .string { data := #[100, 101, 114] }, .string { data := #[104, 117, 110, 100, 101] }, .string { data := #[115, 101, 104, 101, 110] }])
    (B := w1.heap.size + 1) (by omega)
  refine (Score8 exM exL _ _ _ _ _ ((HU.out.below hb1 (Nat.le_refl _)).more (by simp)) ((HB.out.below hb1 (Nat.le_refl _)).more (by simp)) (by decide) (by decide) _ _ (hs.more (by simp)) (by decide)).mono ?_
  rw [ex_score]
  rintro e w2 ⟨rfl, hb2⟩
  have Hb2 := Lib.hid ((Hb.out.trans (hb1.mono Hb.out.size)).trans (hb2.mono (by have := Hb.out.size; simp; omega)))
  clear hb2 hb1 hs
  go_wp2
  go_ret
  exact ⟨rfl, Hb2.out⟩
end Go.Proofs.Ytcniiphmepgfeaa
