/- The walk of the interval. -/
import Derived.Test.YtkklagdniaoghaaGreatDoorPA
import Derived.Test.YtkklagdniaoghaaGreatDoorPB
import Derived.Test.YtkklagdniaoghaaGreatDoorK11
import Derived.Test.YtkklagdniaoghaaGreatDoorDA
namespace Go.Proofs.YtkklagdniaoghaaGreatDoor
open Go.RowKit Go.Proofs.Rank Go.Sort Go.Proofs.MapEnt
open Go.Proofs.Frac (fr)

/-- What both intervals say. -/
def IvlSay (ps : List (Int × Int)) (ds : List (List Int)) (out : Int) (w : World) (e : Ending) (w' : World) : Prop :=
  ∃ lo hi : Nat × Nat, e = .returned (.tuple #[frV lo, frV hi, .int .u8 (ivlE ps ds out : Nat)]) ∧ w.Since w.heap.size w' ∧
    (ivlE ps ds out ≠ 0 → lo = (0, 0) ∧ hi = (0, 0)) ∧
    (ivlE ps ds out = 0 → ∃ L, Ranks ps ds L ∧ lo = L.getD (place ds.length out.toNat) (0, 0) ∧ hi = L.getD (ds.length - 1 - place ds.length out.toNat) (0, 0))
/-- The two boxes of the results, empty. -/
def TwoB (B : Nat) (w : World) : Prop := w.heap[B]? = some (.cells #[.int .i64 0, .int .i64 0] 25) ∧ w.heap[B + 1]? = some (.cells #[.int .i64 0, .int .i64 0] 25) ∧ B + 2 ≤ w.heap.size
theorem TwoB.up {B : Nat} {w w' : World} (h : TwoB B w) (hs : w.Since w.heap.size w') : TwoB B w' :=
  ⟨(hs.block B (by have := h.2.2; omega)).trans h.1, (hs.block (B + 1) (by have := h.2.2; omega)).trans h.2.1, Nat.le_trans h.2.2 hs.size⟩
theorem twoB_new (w : World) : TwoB w.heap.size ((w.alloc (.cells #[.int .i64 0, .int .i64 0] 25)).alloc (.cells #[.int .i64 0, .int .i64 0] 25)) := by
  have e1 : (w.alloc (.cells #[.int .i64 0, .int .i64 0] 25)).heap.size = w.heap.size + 1 := by simp
  refine ⟨?_, ?_, by simp⟩
  · rw [Below.heap_alloc _ _ _ (by simp)]
    exact heap_alloc_new w _
  · have := heap_alloc_new (w.alloc (.cells #[.int .i64 0, .int .i64 0] 25)) (.cells #[.int .i64 0, .int .i64 0] 25)
    rwa [e1] at this
theorem TwoB.cells {B : Nat} {w : World} (h : TwoB B w) : w.cell? ⟨B, 0, none⟩ = some (.int .i64 0) ∧ w.cell? ⟨B, 1, none⟩ = some (.int .i64 0) ∧ w.cell? ⟨B + 1, 0, none⟩ = some (.int .i64 0) ∧ w.cell? ⟨B + 1, 1, none⟩ = some (.int .i64 0) := by
  obtain ⟨h1, h2, _⟩ := h
  exact ⟨by simp [World.cell?, h1], by simp [World.cell?, h1], by simp [World.cell?, h2], by simp [World.cell?, h2]⟩
theorem TwoB.frozen {B : Nat} {w : World} (h : TwoB B w) : w.frozen? ⟨B, 0, none⟩ = false ∧ w.frozen? ⟨B, 1, none⟩ = false ∧ w.frozen? ⟨B + 1, 0, none⟩ = false ∧ w.frozen? ⟨B + 1, 1, none⟩ = false := by
  obtain ⟨h1, h2, _⟩ := h
  exact ⟨by simp [World.frozen?, h1], by simp [World.frozen?, h1], by simp [World.frozen?, h2], by simp [World.frozen?, h2]⟩
theorem ivlE_s {ps : List (Int × Int)} {ds : List (List Int)} {out : Int} (h : sampE ps ds ≠ 0) : ivlE ps ds out = sampE ps ds := by unfold ivlE; rw [if_pos h]
theorem ivlE_1 {ps : List (Int × Int)} {ds : List (List Int)} {out : Int} (h : sampE ps ds = 0) (h1 : out < 0 ∨ 499 < out) : ivlE ps ds out = 1 := by unfold ivlE; rw [if_neg (by omega), if_pos h1]
theorem ivlE_0 {ps : List (Int × Int)} {ds : List (List Int)} {out : Int} (h : sampE ps ds = 0) (h1 : ¬ (out < 0 ∨ 499 < out)) : ivlE ps ds out = 0 := by unfold ivlE; rw [if_neg (by omega), if_neg h1]
theorem info25 : (Tryz.prog.info? 25).map (fun i => (i.zero, i.size, i.bytes)) = some (some (.agg #[.int .i64 0, .int .i64 0]), 2, 16) := by kernel_rfl
theorem ivl_err {ps : List (Int × Int)} {ds : List (List Int)} {out : Int} {w w' : World} {n : Nat} (hn : ivlE ps ds out = n) (hn0 : n ≠ 0) (hs : w.Since w.heap.size w') :
    IvlSay ps ds out w (.returned (.tuple #[.agg #[.int .i64 0, .int .i64 0], .agg #[.int .i64 0, .int .i64 0], .int .u8 (n : Nat)])) w' :=
  ⟨(0, 0), (0, 0), by rw [hn]; rfl, hs, fun _ => ⟨rfl, rfl⟩, fun h => absurd (hn.symm.trans h) hn0⟩
/-- The cells of a list of quotients. -/
def qCells (l : List Qs) : List Value := l.flatMap fun q => [.int .i64 (q.1.1 : Nat), .int .i64 (q.1.2 : Nat)]
theorem qCells_add (l m : List Qs) : qCells (l ++ m) = qCells l ++ qCells m := List.flatMap_append
theorem qCells_len (l : List Qs) : (qCells l).length = l.length * 2 := by
  induction l with
  | nil => rfl
  | cons q l ih =>
    have e : qCells (q :: l) = .int .i64 (q.1.1 : Nat) :: .int .i64 (q.1.2 : Nat) :: qCells l := rfl
    rw [e]
    simp only [List.length_cons, ih]
    omega
theorem qCells_at : ∀ (l : List Qs) (i : Nat) (h : i < l.length), (qCells l)[i * 2]? = some (.int .i64 (l[i].1.1 : Nat)) ∧ (qCells l)[i * 2 + 1]? = some (.int .i64 (l[i].1.2 : Nat))
  | q :: l, 0, _ => ⟨rfl, rfl⟩
  | q :: l, i + 1, h => by
    have := qCells_at l i (by simpa using h)
    have e : qCells (q :: l) = .int .i64 (q.1.1 : Nat) :: .int .i64 (q.1.2 : Nat) :: qCells l := rfl
    rw [e, show (i + 1) * 2 = i * 2 + 1 + 1 by omega]
    exact this
theorem rowQ_of {w : World} {base n : Nat} {v : Value} {l : List Qs} (h : w.ownsRow base 25 2 v n (qCells l)) (hn : 0 < n) : ∃ g cap, v = .slice (some ⟨g, 0, none⟩) n cap ∧ base ≤ g ∧ l.length = n ∧ RowQ w g l.toArray w := by
  have hl : l.length = n := by have := h.1; rw [qCells_len] at this; omega
  obtain ⟨h1, ⟨rfl, h2⟩ | ⟨g, cap, cur, rfl, hb, hr, hr2⟩⟩ := id h
  · omega
  · refine ⟨g, cap, rfl, hb, hl, ⟨rfl, rfl, rfl, Nat.le_refl _, fun _ _ _ => rfl, (h.lt g rfl).2, fun i hi => ?_, fun i hi => ?_, fun o => by simp [World.frozen?, hr]⟩⟩
    · have hi' : i < l.length := by simpa using hi
      have e : l.toArray[i]! = l[i] := (getB hi).trans (by simp)
      have h3 := h.cells (g := g) rfl (i * 2) _ (qCells_at l i hi').1
      have ea : ({ block := g, off := 0 } : Addr).add (i * 2) = ⟨g, i * 2, none⟩ := by
        unfold Addr.add
        split
        · rename_i h0
          rw [h0]
        · simp
      rw [ea] at h3
      exact h3.trans (congrArg (fun q : Qs => some (Value.int .i64 (q.1.1 : Nat))) e.symm)
    · have hi' : i < l.length := by simpa using hi
      have e : l.toArray[i]! = l[i] := (getB hi).trans (by simp)
      have h3 := h.cells (g := g) rfl (i * 2 + 1) _ (qCells_at l i hi').2
      simp only [Addr.add, Nat.zero_add] at h3
      exact h3.trans (congrArg (fun q : Qs => some (Value.int .i64 (q.1.2 : Nat))) e.symm)
theorem since_row {B g : Nat} {w wl w3 : World} {d : Array Qs} (hs : w.Since B wl) (hB : B ≤ g) (hw : B ≤ wl.heap.size) (h : RowQ wl g d w3) : w.Since B w3 :=
  ⟨h.os.trans hs.os, h.tape.trans hs.tape, h.output.trans hs.output, Nat.le_trans hs.size h.size, fun k hk => (h.block k (by omega) (by omega)).trans (hs.block k hk)⟩
theorem TwoB.row {B g : Nat} {w w' : World} {d : Array Qs} (h : TwoB B w) (hg : B + 2 ≤ g) (hr : RowQ w g d w') : TwoB B w' :=
  ⟨(hr.block B (by have := h.2.2; omega) (by omega)).trans h.1, (hr.block (B + 1) (by have := h.2.2; omega) (by omega)).trans h.2.1, Nat.le_trans h.2.2 hr.size⟩
theorem sc_mk {ps : List (Int × Int)} {ds : List (List Int)} (h : OkS ps ds) {i : Nat} (hi : i < ds.length) : (mkQ (sc ps ds[i])).1 = sc ps ds[i] := by
  obtain ⟨h1, h2, h3⟩ := sc_small h ds[i] (h.dd _ (List.getElem_mem hi)).2.1
  exact mkQ_val ⟨h1, h3, h2⟩
theorem okQ_of {ps : List (Int × Int)} {ds : List (List Int)} (h : OkS ps ds) {i : Nat} (hi : i < ds.length) : OkQ ps ds[i] := ⟨h.pp, (h.dd _ (List.getElem_mem hi)).2.1, (h.dd _ (List.getElem_mem hi)).2.2⟩
theorem getD_ranks {d : Array Qs} {i : Nat} (h : i < d.size) : (d.toList.map (·.1)).getD i (0, 0) = d[i]!.1 := by
  rw [getB h]
  simp [List.getD, h]
set_option maxHeartbeats 6400000 in
set_option maxRecDepth 1000000 in
theorem interval_says (ps : List (Int × Int)) (ds : List (List Int)) (out : Int) (A D : Option Addr) (c k : Nat) (w : World) (hP : PIn w A c ps) (hD : DIn w D k ds) (hl : c ≤ 9223372036854775807) (hk : k ≤ 9223372036854775807) (hd : ∀ d ∈ ds, d.length ≤ 9223372036854775807)
    (ho1 : -9223372036854775808 ≤ out) (ho2 : out ≤ 9223372036854775807) (h40 : ds.length ≤ 40 ∨ 1000 < ds.length) :
    Calls Tryz.prog 12 #[.slice A ps.length c, .slice D ds.length k, .int .i64 out] w (IvlSay ps ds out w) := by
  obtain ⟨i25, hi25, hz20, hz21, hz22⟩ := info_parts info25
  have hp1 := hP.cap
  have hp2 := hD.cap
  have S0 := Lib.hid (since_alloc (since_alloc (World.Since.refl w.heap.size w) (.cells #[.int .i64 0, .int .i64 0] 25)) (.cells #[.int .i64 0, .int .i64 0] 25))
  have T0 := Lib.hid (twoB_new w)
  have KD := Lib.hid (drawn_says ps ds A D c k _ (hP.up S0.out) (hD.up S0.out) hl hk hd)
  have HP := Lib.hid hP
  have HD := Lib.hid hD
  have HE := Lib.hid (fun (n : Nat) (h : ivlE ps ds out = n) (h0 : n ≠ 0) (w' : World) (hs : w.Since w.heap.size w') => ivl_err h h0 hs)
  have HES := Lib.hid (ivlE_s (ps := ps) (ds := ds) (out := out))
  have HE1 := Lib.hid (ivlE_1 (ps := ps) (ds := ds) (out := out))
  have HE0 := Lib.hid (ivlE_0 (ps := ps) (ds := ds) (out := out))
  have HOK := Lib.hid (okS_of (ps := ps) (ds := ds))
  unfold SampSay at KD
  generalize sampE ps ds = E at *
  clear hP hD hd
  go_enter Tryz.func12, Tryz.ntmps12
  go_wp2_with fail
  refine KD.out.mono ?_
  rintro e w2 ⟨rfl, hs⟩
  have T2 := Lib.hid (T0.out.up hs)
  have S2 := Lib.hid (since_two S0.out hs)
  clear hs KD T0 S0
  by_cases hz : E = 0
  case neg =>
    have hz1 : ((E : Int) == 0) = false := by simp; omega
    have hz2 : ((E : Int) != 0) = true := by simp; omega
    have HF := Lib.hid (HE.out E (HES.out hz) hz)
    clear HE HES HE1 HE0 HOK hz
    obtain ⟨k0, k1, k2, k3⟩ := T2.out.cells
    obtain ⟨f0, f1, f2, f3⟩ := T2.out.frozen
    go_wp2_with fail
    go_region
    go_wp2_with fail
    exact bodyPost_ret (v := .tuple #[.agg #[.int .i64 0, .int .i64 0], .agg #[.int .i64 0, .int .i64 0], .int .u8 E]) (by simp [results, Tryz.results12, go_sem, k0, k1, k2, k3]) rfl (HF.out _ (((((S2.out.setCell (Nat.le_refl _) _).setCell (Nat.le_refl _) _).setCell (Nat.le_succ _) _).setCell (Nat.le_succ _) _).drew))
  case pos =>
    subst hz
    by_cases ho : out < 0
    · have HF := Lib.hid (HE.out 1 (HE1.out (by trivial) (.inl ho)) (by decide))
      clear HE HES HE1 HE0 HOK
      obtain ⟨k0, k1, k2, k3⟩ := T2.out.cells
      obtain ⟨f0, f1, f2, f3⟩ := T2.out.frozen
      go_wp2_with fail
      go_region
      go_wp2_with fail
      exact bodyPost_ret (v := .tuple #[.agg #[.int .i64 0, .int .i64 0], .agg #[.int .i64 0, .int .i64 0], .int .u8 1]) (by simp [results, Tryz.results12, go_sem, k0, k1, k2, k3]) rfl (HF.out _ (((((S2.out.setCell (Nat.le_refl _) _).setCell (Nat.le_refl _) _).setCell (Nat.le_succ _) _).setCell (Nat.le_succ _) _).drew))
    by_cases ho3 : 499 < out
    · have HF := Lib.hid (HE.out 1 (HE1.out (by trivial) (.inr ho3)) (by decide))
      clear HE HES HE1 HE0 HOK
      obtain ⟨k0, k1, k2, k3⟩ := T2.out.cells
      obtain ⟨f0, f1, f2, f3⟩ := T2.out.frozen
      go_wp2_with fail
      go_region
      go_wp2_with fail
      exact bodyPost_ret (v := .tuple #[.agg #[.int .i64 0, .int .i64 0], .agg #[.int .i64 0, .int .i64 0], .int .u8 1]) (by simp [results, Tryz.results12, go_sem, k0, k1, k2, k3]) rfl (HF.out _ (((((S2.out.setCell (Nat.le_refl _) _).setCell (Nat.le_refl _) _).setCell (Nat.le_succ _) _).setCell (Nat.le_succ _) _).drew))
    obtain ⟨O, rfl⟩ : ∃ O : Nat, out = O := ⟨out.toNat, by omega⟩
    have hE0 := Lib.hid (HE0.out (by trivial) (by omega))
    have hOK := Lib.hid (HOK.out (by trivial))
    have hn40 : ds.length ≤ 40 := by have := hOK.out.ld; omega
    have hn0 : 0 < ds.length := hOK.out.nd
    clear HE HES HE1 HE0 HOK h40
    go_wp2_with fail
    go_loopg [10, 32] ds.length (fun gk o i wr => ∃ I : Nat, I ≤ ds.length ∧ gk = ds.length - I ∧ i = .int .i64 I ∧ Hid (wr.ownsRow (w.heap.size + 2) 25 2 o I (qCells (scQ ps (ds.take I)))) ∧ Hid (TwoB w.heap.size wr) ∧ Hid (w.Since w.heap.size wr))
    case atStart => exact ⟨0, by omega, by omega, rfl, Lib.hid (World.ownsRow_nil _ _ _ _), T2, S2⟩
    case round =>
      clear T2 S2
      obtain ⟨I, hI, rfl, rfl, hO, hT, hS⟩ := hrel
      by_cases hlt : I < ds.length
      · obtain ⟨ad, R, kk, rfl, hab, c0, hIn⟩ := (HD.out.up hS.out).at_ I hlt
        have hltI : (I : Int) < (ds.length : Int) := by omega
        have KS := Lib.hid (score_says ps ds[I] A R c kk wr (HP.out.up hS.out) hIn (okQ_of hOK.out hlt) (by omega))
        have HX : Hid (qCells (scQ ps (ds.take (I + 1))) = qCells (scQ ps (ds.take I)) ++ [.int .i64 ((sc ps ds[I]).1 : Nat), .int .i64 ((sc ps ds[I]).2 : Nat)]) := Lib.hid (by rw [scQ_take hlt, qCells_add]; exact congrArg (qCells (scQ ps (ds.take I)) ++ ·) (congrArg (fun q : Nat × Nat => [Value.int .i64 (q.1 : Nat), .int .i64 (q.2 : Nat)]) (sc_mk hOK.out hlt)))
        generalize sc ps ds[I] = q at *
        generalize ds[I] = d at *
        obtain ⟨q1, q2⟩ := q
        unfold frV at KS
        simp only at KS HX
        clear hab hIn
        go_wp2_with fail
        refine KS.out.mono ?_
        rintro e w3 ⟨rfl, hs⟩
        have hO2 := Lib.hid (ownsRow_since hO.out hs)
        have hT2 := Lib.hid (hT.out.up hs)
        have hS2 := Lib.hid (since_two hS.out hs)
        have hsz := hS2.out.size
        have hsz2 := hT2.out.2.2
        clear hs KS hO hT hS
        go_wp2_with (first | (at_builtin; refine wpList_append_own _ rfl _ _ 34 rfl (w.heap.size + 2) 25 i25 (.agg #[.int .i64 0, .int .i64 0]) 2 16 Tryz.underlying34 hi25 hz20 hz21 hz22 rfl (by decide) _ I _ rfl (hO2.out.alloc _) ⟨w3.heap.size, 0, none⟩ 1 1 [.int .i64 q1, .int .i64 q2] rfl rfl ?c1 ?c2 ?c3 ?c4 ?c5 ?_))
        case c1 =>
          intro j u hj
          match j, hj with
          | 0, hj => simp at hj; subst hj; simp [Addr.add]
          | 1, hj => simp at hj; subst hj; simp [Addr.add]
        case c2 => intro u hu; simp at hu; rcases hu with rfl | rfl <;> rfl
        case c3 => unfold maxLen; omega
        case c4 => omega
        case c5 => simp; omega
        intro v' w1 hown' hgrow _
        have S1 := Lib.hid (since_grown (hS2.out.alloc hsz _) (by simp; omega) hgrow (fun k e => Nat.le_trans (by omega) (hO2.out.lt k e).1))
        have T1 : Hid (TwoB w.heap.size w1) := Lib.hid (by
          have hn : ∀ j, j < w.heap.size + 2 → w1.heap[j]? = w3.heap[j]? := fun j hj => by
            rw [hgrow.block j (by simp; omega) (fun e => by have := (hO2.out.lt j e.symm).1; omega)]
            exact Below.heap_alloc _ _ _ (by omega)
          exact ⟨(hn _ (by omega)).trans hT2.out.1, (hn _ (by omega)).trans hT2.out.2.1, by have := hgrow.size; simp at this; omega⟩)
        have O1 : Hid (w1.ownsRow (w.heap.size + 2) 25 2 v' (I + 1) (qCells (scQ ps (ds.take (I + 1))))) := Lib.hid (by rw [HX.out]; exact hown')
        clear hown' hgrow hO2 hT2 hS2 HX
        go_wp2_with fail
        go_roundg (ds.length - (I + 1))
        case measure => omega
        case rel => exact ⟨I + 1, by omega, rfl, by go_num, O1, T1, S1⟩
      · obtain rfl : I = ds.length := by omega
        obtain ⟨g, cap, rfl, hg, hlen, hrow⟩ := rowQ_of hO.out hn0
        rw [List.take_length] at hrow
        have KS := Lib.hid (sortFunc_says _ g cap ds.length wr hrow (by simp [scQ]) (by omega))
        have HRk := Lib.hid (sorted_ranks hOK.out ds.length (Lib.bitLen ds.length) rfl)
        have hds : Hid ((pdq ltQ (scQ ps ds).toArray 0 ds.length (Lib.bitLen ds.length) true true).size = ds.length) := Lib.hid (by
          have hp := pdq_sorts ltQ swoQ (scQ ps ds).toArray 0 ds.length (Lib.bitLen ds.length) true true (Nat.zero_le _) (by simp [scQ]) (Or.inl rfl)
          rw [hp.1.1]; simp [scQ])
        generalize pdq ltQ (scQ ps ds).toArray 0 ds.length (Lib.bitLen ds.length) true true = d at *
        unfold SortSay at KS
        unfold cmpV at KS
        clear hrow hlen hO
        have hsz := hS.out.size
        go_wp2_with fail
        refine KS.out.mono ?_
        rintro e w3 ⟨rfl, hr⟩
        have R3 := Lib.hid hr
        have T3 := Lib.hid (hT.out.row hg hr)
        have S3 := Lib.hid (since_row hS.out (by omega) hsz hr)
        clear hr KS hT hS
        obtain ⟨M, hM⟩ : ∃ M, M = ds.length * O := ⟨_, rfl⟩
        have hMb : M ≤ 20000 := by rw [hM]; exact Nat.le_trans (Nat.mul_le_mul hn40 (show O ≤ 500 by omega)) (by decide)
        have hMi : (ds.length : Int) * (O : Int) = (M : Int) := by rw [hM]; simp
        have hpl : Hid (place ds.length O = M / 1000 ∧ 2 * place ds.length O < ds.length) := Lib.hid ⟨by rw [hM]; rfl, place_half hn0 (by omega)⟩
        obtain ⟨K, hK⟩ : ∃ K, K = M / 1000 := ⟨_, rfl⟩
        have hKi : (M : Int) / 1000 = (K : Int) := by omega
        have hK2 : 2 * K < ds.length := by have := hpl.out; omega
        have hpl2 : Hid (place ds.length O = K) := Lib.hid (by rw [hK]; exact hpl.out.1)
        clear hM hpl
        have HL := Lib.hid (getD_ranks (d := d) (i := K) (by have := hds.out; omega))
        have HH := Lib.hid (getD_ranks (d := d) (i := ds.length - 1 - K) (by have := hds.out; omega))
        obtain ⟨J, hJ⟩ : ∃ J, J = ds.length - 1 - K := ⟨_, rfl⟩
        rw [← hJ] at HH
        have hJi : (ds.length : Int) - 1 - (K : Int) = (J : Int) := by omega
        have hJ2 : J < ds.length := by omega
        have hK3 : K < ds.length := by omega
        have b0 := R3.out.c0 K (by have := hds.out; omega)
        have b1 := R3.out.c1 K (by have := hds.out; omega)
        have b2 := R3.out.c0 J (by have := hds.out; omega)
        have b3 := R3.out.c1 J (by have := hds.out; omega)
        have HJ : Hid (J = ds.length - 1 - K) := Lib.hid hJ
        clear hJ hK
        generalize d[K]! = x at *
        generalize d[J]! = y at *
        obtain ⟨⟨x1, x2⟩, hx⟩ := x
        obtain ⟨⟨y1, y2⟩, hy⟩ := y
        simp only at b0 b1 b2 b3 HL HH
        clear hx hy
        obtain ⟨k0, k1, k2, k3⟩ := T3.out.cells
        obtain ⟨f0, f1, f2, f3⟩ := T3.out.frozen
        go_wp2_with fail
        go_region
        go_wp2_with fail
        exact bodyPost_ret (v := .tuple #[.agg #[.int .i64 x1, .int .i64 x2], .agg #[.int .i64 y1, .int .i64 y2], .int .u8 0]) (by simp [results, Tryz.results12, go_sem, k0, k1, k2, k3]) rfl
          ⟨(x1, x2), (y1, y2), by rw [hE0.out]; rfl, ((((S3.out.setCell (Nat.le_refl _) _).setCell (Nat.le_refl _) _).setCell (Nat.le_succ _) _).setCell (Nat.le_succ _) _).drew, fun h => absurd hE0.out h, fun _ => ⟨_, HRk.out, by rw [Int.toNat_natCast, hpl2.out]; exact HL.out.symm, by rw [Int.toNat_natCast, hpl2.out, ← HJ.out]; exact HH.out.symm⟩⟩
end Go.Proofs.YtkklagdniaoghaaGreatDoor
