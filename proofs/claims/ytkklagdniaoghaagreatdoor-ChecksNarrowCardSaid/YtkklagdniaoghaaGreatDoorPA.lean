/- Parts and draws in memory; the walks of what looks for a bad one among them. The walks of what says whether parts and draws are good, on both sides. The specification's word on parts and draws. The walk of busy: are parts and draws too many to be asked? -/
import Derived.Test.YtkklagdniaoghaaGreatDoorW16
import Derived.Test.YtkklagdniaoghaaGreatDoorI2
import Derived.Outline
import Derived.Laws.EntriesVeiled
namespace Go.Proofs.YtkklagdniaoghaaGreatDoor
open Go.RowKit Go.Proofs.Rank

/-- A slice of parts, below block B. -/
structure PIn (w : World) (A : Option Addr) (c : Nat) (ps : List (Int × Int)) : Prop where
  at_ : ∀ i (h : i < ps.length), ∃ ad, A = some ad ∧ ad.block < w.heap.size ∧ w.cell? (ad.add (i * 2)) = some (.int .i64 ps[i].1) ∧ w.cell? ⟨(ad.add (i * 2)).block, (ad.add (i * 2)).off + 1, none⟩ = some (.int .i64 ps[i].2)
  cap : ps.length ≤ c
  rng : ∀ p ∈ ps, (-9223372036854775808 ≤ p.1 ∧ p.1 ≤ 9223372036854775807) ∧ (-9223372036854775808 ≤ p.2 ∧ p.2 ≤ 9223372036854775807)
theorem PIn.up {w w' : World} {A : Option Addr} {c : Nat} {ps : List (Int × Int)} (h : PIn w A c ps) (hs : w.Since w.heap.size w') : PIn w' A c ps :=
  ⟨fun i hi => by
    obtain ⟨ad, h0, h1, h2, h3⟩ := h.at_ i hi
    exact ⟨ad, h0, Nat.lt_of_lt_of_le h1 hs.size, by rw [hs.cell (by rw [block_add]; exact h1)]; exact h2, by rw [hs.cell (by simp only [block_add]; exact h1)]; exact h3⟩, h.cap, h.rng⟩
/-- A slice of numbers. -/
structure IIn (w : World) (A : Option Addr) (c : Nat) (l : List Int) : Prop where
  at_ : ∀ i (h : i < l.length), ∃ ad, A = some ad ∧ ad.block < w.heap.size ∧ w.cell? (ad.add i) = some (.int .i64 l[i])
  cap : l.length ≤ c
  rng : ∀ x ∈ l, -9223372036854775808 ≤ x ∧ x ≤ 9223372036854775807
theorem IIn.up {w w' : World} {A : Option Addr} {c : Nat} {l : List Int} (h : IIn w A c l) (hs : w.Since w.heap.size w') : IIn w' A c l :=
  ⟨fun i hi => by
    obtain ⟨ad, h0, h1, h2⟩ := h.at_ i hi
    exact ⟨ad, h0, Nat.lt_of_lt_of_le h1 hs.size, by rw [hs.cell (by rw [block_add]; exact h1)]; exact h2⟩, h.cap, h.rng⟩
/-- A slice of draws. -/
structure DIn (w : World) (A : Option Addr) (c : Nat) (ds : List (List Int)) : Prop where
  at_ : ∀ i (h : i < ds.length), ∃ ad R k, A = some ad ∧ ad.block < w.heap.size ∧ w.cell? (ad.add i) = some (.slice R ds[i].length k) ∧ IIn w R k ds[i]
  cap : ds.length ≤ c
theorem DIn.up {w w' : World} {A : Option Addr} {c : Nat} {ds : List (List Int)} (h : DIn w A c ds) (hs : w.Since w.heap.size w') : DIn w' A c ds :=
  ⟨fun i hi => by
    obtain ⟨ad, R, k, h0, h1, h2, h3⟩ := h.at_ i hi
    exact ⟨ad, R, k, h0, Nat.lt_of_lt_of_le h1 hs.size, by rw [hs.cell (by rw [block_add]; exact h1)]; exact h2, h3.up hs⟩, h.cap⟩

def badN (n : Int) : Bool := decide (n < 0) || decide (1000000 < n)
theorem badP_eq (p : Int × Int) : badP p = (badN p.1 || badN p.2) := by
  unfold badP badN
  rw [Bool.eq_iff_iff]
  simp only [Bool.or_eq_true, decide_eq_true_eq]
  omega
theorem badI_eq (n : Nat) (x : Int) : badI n x = (decide (x < 0) || decide ((n : Int) ≤ x)) := by
  unfold badI
  rw [Bool.eq_iff_iff]
  simp only [Bool.or_eq_true, decide_eq_true_eq]
set_option maxHeartbeats 1600000 in
theorem bad_says (n : Int) (w : World) : Calls Tryz.prog 50 #[.int .i64 n] w fun e w' => e = .returned (.bool (badN n)) ∧ w = w' := by
  have HF : Hid (badN n = (decide (n < 0) || decide (1000000 < n))) := Lib.hid rfl
  rw [HF.out]
  clear HF
  by_cases h1 : n < 0
  · rw [decide_eq_true h1]
    go_enter Tryz.func50, Tryz.ntmps50
    go_wp2
    go_ret
    exact ⟨rfl, rfl⟩
  · rw [decide_eq_false h1]
    by_cases h2 : 1000000 < n
    · rw [decide_eq_true h2]
      go_enter Tryz.func50, Tryz.ntmps50
      go_wp2
      go_ret
      exact ⟨rfl, rfl⟩
    · rw [decide_eq_false h2]
      go_enter Tryz.func50, Tryz.ntmps50
      go_wp2
      go_ret
      exact ⟨rfl, rfl⟩
set_option maxHeartbeats 1600000 in
set_option maxRecDepth 100000 in
/-- The closure over 'bad', at a part. -/
theorem badPart_says (p : Int × Int) (b : Nat) (w : World) (hb : b < w.heap.size) (hf : w.cell? ⟨b, 0, none⟩ = some (.func (.func 50) #[] #[])) :
    Calls Tryz.prog 52 #[.agg #[.int .i64 p.1, .int .i64 p.2], .pointer (some ⟨b, 0, none⟩)] w fun e w' => e = .returned (.bool (badP p)) ∧ w.Since w.heap.size w' := by
  rw [badP_eq]
  obtain ⟨x, y⟩ := p
  have KX := Lib.hid (fun wx => bad_says x wx)
  have KY := Lib.hid (fun wx => bad_says y wx)
  have S0 := Lib.hid ((World.Since.refl w.heap.size w).alloc (Nat.le_refl _) (.cells #[.int .i64 x, .int .i64 y] 25))
  have hf2 : ∀ o, (w.alloc o).cell? ⟨b, 0, none⟩ = some (.func (.func 50) #[] #[]) := fun o => (World.cell?_alloc_lt w o _ hb).trans hf
  simp only
  generalize badN x = u at *
  generalize badN y = v at *
  clear hf
  cases u
  · go_enter Tryz.func52, Tryz.ntmps52
    go_wp2_with fail
    refine (KX.out _).mono ?_
    rintro e w1 ⟨rfl, rfl⟩
    go_wp2_with fail
    refine (KY.out _).mono ?_
    rintro e w1 ⟨rfl, rfl⟩
    go_wp2_with fail
    go_ret
    exact ⟨rfl, S0.out⟩
  · go_enter Tryz.func52, Tryz.ntmps52
    go_wp2_with fail
    refine (KX.out _).mono ?_
    rintro e w1 ⟨rfl, rfl⟩
    go_wp2_with fail
    go_ret
    exact ⟨rfl, S0.out⟩
set_option maxHeartbeats 1600000 in
set_option maxRecDepth 100000 in
/-- The closure over the parts, at a number. -/
theorem badDraw_says (x : Int) (n b : Nat) (A : Option Addr) (c : Nat) (w : World) (hf : w.cell? ⟨b, 0, none⟩ = some (.slice A n c)) :
    Calls Tryz.prog 54 #[.int .i64 x, .pointer (some ⟨b, 0, none⟩)] w fun e w' => e = .returned (.bool (badI n x)) ∧ w = w' := by
  rw [badI_eq]
  by_cases h1 : x < 0
  · rw [decide_eq_true h1]
    go_enter Tryz.func54, Tryz.ntmps54
    go_wp2
    go_ret
    exact ⟨rfl, rfl⟩
  · rw [decide_eq_false h1]
    by_cases h2 : (n : Int) ≤ x
    · rw [decide_eq_true h2]
      go_enter Tryz.func54, Tryz.ntmps54
      go_wp2
      go_ret
      exact ⟨rfl, rfl⟩
    · rw [decide_eq_false h2]
      go_enter Tryz.func54, Tryz.ntmps54
      go_wp2
      go_ret
      exact ⟨rfl, rfl⟩
def FindSay (y : Bool) (w : World) (e : Ending) (w' : World) : Prop := ∃ k : Int, e = .returned (.int .i64 k) ∧ (0 ≤ k ↔ y = true) ∧ w.Since w.heap.size w'
theorem any_take {α : Type} {p : α → Bool} {l : List α} {I : Nat} (hI : I < l.length) (h : (l.take I).any p = false) (h2 : p l[I] = false) : (l.take (I + 1)).any p = false := by
  rw [List.take_succ_eq_append_getElem hI, List.any_append, h]
  simp [h2]
theorem any_hit {α : Type} {p : α → Bool} {l : List α} {I : Nat} (hI : I < l.length) (h2 : p l[I] = true) : l.any p = true := List.any_eq_true.2 ⟨_, List.getElem_mem hI, h2⟩
set_option maxHeartbeats 3200000 in
set_option maxRecDepth 1000000 in
theorem findPart_says (ps : List (Int × Int)) (A : Option Addr) (c b : Nat) (w : World) (hP : PIn w A c ps) (hl : ps.length ≤ 9223372036854775807) (hb : b < w.heap.size) (hf : w.cell? ⟨b, 0, none⟩ = some (.func (.func 50) #[] #[])) :
    Calls Tryz.prog 81 #[.slice A ps.length c, .func (.func 52) #[] #[.pointer (some ⟨b, 0, none⟩)]] w (FindSay (ps.any badP) w) := by
  have HP := Lib.hid hP
  have HB := Lib.hid (And.intro hb hf)
  clear hP hb hf
  go_enter Tryz.func81, Tryz.ntmps81
  go_wp2_with fail
  go_loopg [8] ps.length (fun g i wr => ∃ I : Nat, I ≤ ps.length ∧ g = ps.length - I ∧ i = .int .i64 I ∧ Hid ((ps.take I).any badP = false) ∧ Hid (w.Since w.heap.size wr))
  case atStart => exact ⟨0, by omega, by omega, rfl, Lib.hid rfl, Lib.hid (World.Since.refl _ _)⟩
  case round =>
    obtain ⟨I, hI, rfl, rfl, hN, hS⟩ := hrel
    by_cases hlt : I < ps.length
    · obtain ⟨ad, rfl, hab, c0, c1⟩ := (HP.out.up hS.out).at_ I hlt
      have hltI : (I : Int) < (ps.length : Int) := by omega
      have KB := Lib.hid (badPart_says ps[I] b wr (Nat.lt_of_lt_of_le HB.out.1 hS.out.size) ((hS.out.cell HB.out.1).trans HB.out.2))
      have HT := Lib.hid (fun (h : badP ps[I] = false) => any_take hlt hN.out h)
      have HH := Lib.hid (fun (h : badP ps[I] = true) => any_hit hlt h)
      generalize ps[I] = q at *
      obtain ⟨x, y⟩ := q
      simp only at c0 c1
      clear hab hN
      go_wp2_with fail
      refine KB.out.mono ?_
      rintro e w2 ⟨rfl, hs⟩
      have S2 := Lib.hid (since_two hS.out hs)
      clear hs KB
      cases hq : badP (x, y)
      · have HT2 := Lib.hid (HT.out hq)
        clear HT HH hq c0 c1
        go_wp2_with fail
        go_roundg (ps.length - (I + 1))
        case measure => omega
        case rel => exact ⟨I + 1, by omega, rfl, by go_num, HT2, S2⟩
      · have HT2 := Lib.hid (HH.out hq)
        clear HT HH hq c0 c1
        go_wp2_with fail
        go_ret
        exact ⟨(I : Int), rfl, ⟨fun _ => HT2.out, fun _ => by omega⟩, S2.out⟩
    · obtain rfl : I = ps.length := by omega
      have HF : Hid (ps.any badP = false) := Lib.hid (by have := hN.out; rwa [List.take_length] at this)
      clear hN
      go_wp2_with fail
      go_ret
      exact ⟨-1, rfl, ⟨fun h => by omega, fun h => by rw [HF.out] at h; cases h⟩, hS.out⟩
set_option maxHeartbeats 3200000 in
set_option maxRecDepth 1000000 in
theorem findDraw_says (l : List Int) (R : Option Addr) (k b n : Nat) (A : Option Addr) (c : Nat) (w : World) (hP : IIn w R k l) (hl : l.length ≤ 9223372036854775807) (hf : w.cell? ⟨b, 0, none⟩ = some (.slice A n c)) :
    Calls Tryz.prog 82 #[.slice R l.length k, .func (.func 54) #[] #[.pointer (some ⟨b, 0, none⟩)]] w (FindSay (l.any (badI n)) w) := by
  have HP := Lib.hid hP
  have HB := Lib.hid hf
  clear hP hf
  go_enter Tryz.func82, Tryz.ntmps82
  go_wp2_with fail
  go_loop [8] (fun i => ∃ I : Nat, I ≤ l.length ∧ i = .int .i64 I ∧ Hid ((l.take I).any (badI n) = false)) (fun i => l.length - (intOf i).toNat)
  case atStart => exact ⟨0, by omega, rfl, Lib.hid rfl⟩
  case round =>
    obtain ⟨I, hI, rfl, hN⟩ := hrel
    by_cases hlt : I < l.length
    · obtain ⟨ad, rfl, hab, c0⟩ := HP.out.at_ I hlt
      have hltI : (I : Int) < (l.length : Int) := by omega
      have KB := Lib.hid (badDraw_says l[I] n b A c w HB.out)
      have HT := Lib.hid (fun (h : badI n l[I] = false) => any_take hlt hN.out h)
      have HH := Lib.hid (fun (h : badI n l[I] = true) => any_hit hlt h)
      generalize l[I] = x at *
      clear hab hN
      go_wp2_with fail
      refine KB.out.mono ?_
      rintro e w2 ⟨rfl, rfl⟩
      clear KB
      cases hq : badI n x
      · have HT2 := Lib.hid (HT.out hq)
        clear HT HH hq c0
        go_wp2_with fail
        go_round
        case measure => simp [intOf]; omega
        case rel => exact ⟨I + 1, by omega, by go_num, HT2⟩
      · have HT2 := Lib.hid (HH.out hq)
        clear HT HH hq c0
        go_wp2_with fail
        go_ret
        exact ⟨(I : Int), rfl, ⟨fun _ => HT2.out, fun _ => by omega⟩, World.Since.refl _ _⟩
    · obtain rfl : I = l.length := by omega
      have HF : Hid (l.any (badI n) = false) := Lib.hid (by have := hN.out; rwa [List.take_length] at this)
      clear hN
      go_wp2_with fail
      go_ret
      exact ⟨-1, rfl, ⟨fun h => by omega, fun h => by rw [HF.out] at h; cases h⟩, World.Since.refl _ _⟩
theorem decide_find {k : Int} {y : Bool} (h : 0 ≤ k ↔ y = true) : decide (0 ≤ k) = y := by
  rw [Bool.eq_iff_iff]
  simp [h]
set_option maxHeartbeats 1600000 in
set_option maxRecDepth 100000 in
theorem hasPart_says (ps : List (Int × Int)) (A : Option Addr) (c b : Nat) (w : World) (hP : PIn w A c ps) (hl : ps.length ≤ 9223372036854775807) (hb : b < w.heap.size) (hf : w.cell? ⟨b, 0, none⟩ = some (.func (.func 50) #[] #[])) :
    Calls Tryz.prog 51 #[.slice A ps.length c, .func (.func 52) #[] #[.pointer (some ⟨b, 0, none⟩)]] w fun e w' => e = .returned (.bool (ps.any badP)) ∧ w.Since w.heap.size w' := by
  have K := Lib.hid (findPart_says ps A c b w hP hl hb hf)
  unfold FindSay at K
  generalize ps.any badP = y at *
  clear hP hb hf
  go_enter Tryz.func51, Tryz.ntmps51
  go_wp2_with fail
  refine K.out.mono ?_
  rintro e w2 ⟨k, rfl, hk, hs⟩
  have HK := Lib.hid (decide_find hk)
  have S2 := Lib.hid hs
  clear hk hs
  go_wp2_with fail
  go_ret
  exact ⟨congrArg (fun b => Ending.returned (.bool b)) HK.out, S2.out⟩
set_option maxHeartbeats 1600000 in
set_option maxRecDepth 100000 in
theorem hasDraw_says (l : List Int) (R : Option Addr) (k b n : Nat) (A : Option Addr) (c : Nat) (w : World) (hP : IIn w R k l) (hl : l.length ≤ 9223372036854775807) (hf : w.cell? ⟨b, 0, none⟩ = some (.slice A n c)) :
    Calls Tryz.prog 53 #[.slice R l.length k, .func (.func 54) #[] #[.pointer (some ⟨b, 0, none⟩)]] w fun e w' => e = .returned (.bool (l.any (badI n))) ∧ w.Since w.heap.size w' := by
  have K := Lib.hid (findDraw_says l R k b n A c w hP hl hf)
  unfold FindSay at K
  generalize l.any (badI n) = y at *
  clear hP hf
  go_enter Tryz.func53, Tryz.ntmps53
  go_wp2_with fail
  refine K.out.mono ?_
  rintro e w2 ⟨k, rfl, hk, hs⟩
  have HK := Lib.hid (decide_find hk)
  have S2 := Lib.hid hs
  clear hk hs
  go_wp2_with fail
  go_ret
  exact ⟨congrArg (fun b => Ending.returned (.bool b)) HK.out, S2.out⟩
end Go.Proofs.YtkklagdniaoghaaGreatDoor
namespace Go.Proofs.YtkklagdniaoghaaGreatDoor
open Go.RowKit Go.Proofs.Rank

theorem sampE_none {ps : List (Int × Int)} {ds : List (List Int)} (h : ps.length = 0) : sampE ps ds = 1 := by unfold sampE; rw [if_pos (.inl h)]
theorem sampE_bad {ps : List (Int × Int)} {ds : List (List Int)} (h : ps.any badP = true) : sampE ps ds = 1 := by unfold sampE; rw [if_pos (.inr h)]
theorem sampE_many {ps : List (Int × Int)} {ds : List (List Int)} (h0 : ¬ ps.length = 0) (h1 : ps.any badP = false) (h2 : 256 < ps.length) : sampE ps ds = 3 := by
  unfold sampE; rw [if_neg (by rw [h1]; simpa using h0), if_pos h2]
theorem sampE_nod {ps : List (Int × Int)} {ds : List (List Int)} (h0 : ¬ ps.length = 0) (h1 : ps.any badP = false) (h2 : ¬ 256 < ps.length) (h3 : ds.length = 0) : sampE ps ds = 1 := by
  unfold sampE; rw [if_neg (by rw [h1]; simpa using h0), if_neg h2, if_pos h3]
theorem sampE_manyd {ps : List (Int × Int)} {ds : List (List Int)} (h0 : ¬ ps.length = 0) (h1 : ps.any badP = false) (h2 : ¬ 256 < ps.length) (h3 : ¬ ds.length = 0) (h4 : 1000 < ds.length) : sampE ps ds = 3 := by
  unfold sampE; rw [if_neg (by rw [h1]; simpa using h0), if_neg h2, if_neg h3, if_pos h4]
theorem sampE_rest {ps : List (Int × Int)} {ds : List (List Int)} (h0 : ¬ ps.length = 0) (h1 : ps.any badP = false) (h2 : ¬ 256 < ps.length) (h3 : ¬ ds.length = 0) (h4 : ¬ 1000 < ds.length) : sampE ps ds = if ds.any (badD ps.length) = true then 1 else 0 := by
  unfold sampE; rw [if_neg (by rw [h1]; simpa using h0), if_neg h2, if_neg h3, if_neg h4]
theorem ret_err {E q : Nat} (h : E = q) : Ending.returned (.int .u8 (q : Int)) = Ending.returned (.int .u8 (E : Int)) := by rw [h]
/-- What both say of parts and draws. -/
def SampSay (q : Nat) (w : World) (e : Ending) (w' : World) : Prop := e = .returned (.int .u8 (q : Nat)) ∧ w.Since w.heap.size w'
theorem badD_eq (n : Nat) (d : List Int) : badD n d = (decide (d.length = 0) || decide (256 < d.length) || d.any (badI n)) := by
  unfold badD
  congr 1
  rw [Bool.eq_iff_iff]
  simp
set_option maxHeartbeats 6400000 in
set_option maxRecDepth 1000000 in
theorem drawn_says (ps : List (Int × Int)) (ds : List (List Int)) (A D : Option Addr) (c k : Nat) (w : World) (hP : PIn w A c ps) (hD : DIn w D k ds) (hl : c ≤ 9223372036854775807) (hk : k ≤ 9223372036854775807) (hd : ∀ d ∈ ds, d.length ≤ 9223372036854775807) :
    Calls Tryz.prog 34 #[.slice A ps.length c, .slice D ds.length k] w (SampSay (sampE ps ds) w) := by
  have hp1 := hP.cap
  have hp2 := hD.cap
  have HP := Lib.hid hP
  have HD := Lib.hid hD
  have HL := Lib.hid hd
  have S0 := Lib.hid (since_alloc (since_alloc (World.Since.refl w.heap.size w) (.cells #[.slice A ps.length c] 34)) (.cells #[.func (.func 50) #[] #[]] 106))
  have e1 : (w.alloc (.cells #[.slice A ps.length c] 34)).heap.size = w.heap.size + 1 := by simp
  have C0 : Hid (((w.alloc (.cells #[.slice A ps.length c] 34)).alloc (.cells #[.func (.func 50) #[] #[]] 106)).cell? ⟨w.heap.size, 0, none⟩ = some (.slice A ps.length c) ∧ ((w.alloc (.cells #[.slice A ps.length c] 34)).alloc (.cells #[.func (.func 50) #[] #[]] 106)).cell? ⟨w.heap.size + 1, 0, none⟩ = some (.func (.func 50) #[] #[]) ∧ w.heap.size + 1 < ((w.alloc (.cells #[.slice A ps.length c] 34)).alloc (.cells #[.func (.func 50) #[] #[]] 106)).heap.size) := Lib.hid (by
    refine ⟨by simp, ?_, by simp⟩
    rw [← e1]
    simp)
  clear hP hD hd e1
  by_cases h0 : ps.length = 0
  · rw [sampE_none h0]
    have h0b : ((ps.length : Int) == 0) = true := by rw [beq_iff_eq]; omega
    have S1 := S0.out
    rw [h0] at S1
    have S1 := Lib.hid S1
    go_enter Tryz.func34, Tryz.ntmps34
    go_wp2_with fail
    go_ret
    exact ⟨rfl, S1.out⟩
  have h0b : ((ps.length : Int) == 0) = false := by rw [beq_eq_false_iff_ne]; omega
  have KB := Lib.hid (fun wx hPx hbx hfx => hasPart_says ps A c (w.heap.size + 1) wx hPx (by omega) hbx hfx)
  have HR := Lib.hid (fun h1 => sampE_bad (ps := ps) (ds := ds) h1)
  have HR1 := Lib.hid (fun h1 h2 => sampE_many (ps := ps) (ds := ds) h0 h1 h2)
  have HR2 := Lib.hid (fun h1 h2 h3 => sampE_nod (ps := ps) (ds := ds) h0 h1 h2 h3)
  have HR3 := Lib.hid (fun h1 h2 h3 h4 => sampE_manyd (ps := ps) (ds := ds) h0 h1 h2 h3 h4)
  have HR4 := Lib.hid (fun h1 h2 h3 h4 => sampE_rest (ps := ps) (ds := ds) h0 h1 h2 h3 h4)
  generalize sampE ps ds = E at *
  generalize ps.any badP = y at *
  clear h0
  go_enter Tryz.func34, Tryz.ntmps34
  go_wp2_with fail
  refine (KB.out _ (HP.out.up S0.out) C0.out.2.2 C0.out.2.1).mono ?_
  rintro e w2 ⟨rfl, hs⟩
  have S2 := Lib.hid (since_two S0.out hs)
  have C2 : Hid (w2.cell? ⟨w.heap.size, 0, none⟩ = some (.slice A ps.length c) ∧ w.heap.size < w2.heap.size) := Lib.hid ⟨(hs.cell (by have := C0.out.2.2; show w.heap.size < _; omega)).trans C0.out.1, by have := hs.size; have := C0.out.2.2; omega⟩
  clear hs C0 S0 KB
  cases y
  case true =>
    obtain rfl := HR.out rfl
    clear HR HR1 HR2 HR3 HR4
    go_wp2_with fail
    go_ret
    exact ⟨rfl, S2.out⟩
  case false =>
    by_cases h2 : 256 < ps.length
    · obtain rfl := HR1.out rfl h2
      clear HR HR1 HR2 HR3 HR4
      have g2 : (256 : Int) < (ps.length : Int) := by omega
      have c2 := C2.out.1
      go_wp2_with fail
      go_ret
      exact ⟨rfl, S2.out⟩
    have g2 : ¬ (256 : Int) < (ps.length : Int) := by omega
    by_cases h3 : ds.length = 0
    · obtain rfl := HR2.out rfl h2 h3
      have g3 : ((ds.length : Int) == 0) = true := by rw [beq_iff_eq]; omega
      clear HR HR1 HR2 HR3 HR4 h3
      have c2 := C2.out.1
      go_wp2_with fail
      go_ret
      exact ⟨rfl, S2.out⟩
    have g3 : ((ds.length : Int) == 0) = false := by rw [beq_eq_false_iff_ne]; omega
    by_cases h4 : 1000 < ds.length
    · obtain rfl := HR3.out rfl h2 h3 h4
      have g4 : (1000 : Int) < (ds.length : Int) := by omega
      clear HR HR1 HR2 HR3 HR4 h3
      have c2 := C2.out.1
      go_wp2_with fail
      go_ret
      exact ⟨rfl, S2.out⟩
    have g4 : ¬ (1000 : Int) < (ds.length : Int) := by omega
    have HE := Lib.hid (HR4.out rfl h2 h3 h4)
    clear HR HR1 HR2 HR3 HR4 h3
    have c2 := C2.out.1
    go_wp2_with fail
    clear c2
    have hn : ps.length ≤ 256 := by omega
    generalize ps.length = n at *
    go_loopg [31] ds.length (fun g i wr => ∃ I : Nat, I ≤ ds.length ∧ g = ds.length - I ∧ i = .int .i64 I ∧ Hid ((ds.take I).any (badD n) = false) ∧ Hid (wr.cell? ⟨w.heap.size, 0, none⟩ = some (.slice A n c) ∧ w.heap.size < wr.heap.size) ∧ Hid (w.Since w.heap.size wr))
    case atStart => exact ⟨0, by omega, by omega, rfl, Lib.hid rfl, C2, S2⟩
    case round =>
      obtain ⟨I, hI, rfl, rfl, hN, hC, hS⟩ := hrel
      by_cases hlt : I < ds.length
      · obtain ⟨ad, R, kk, rfl, hab, c0, hIn⟩ := (HD.out.up hS.out).at_ I hlt
        have hltI : (I : Int) < (ds.length : Int) := by omega
        have hdl := HL.out ds[I] (List.getElem_mem hlt)
        have KD := Lib.hid (hasDraw_says ds[I] R kk w.heap.size n A c wr hIn hdl hC.out.1)
        have HT := Lib.hid (fun (h : badD n ds[I] = false) => any_take hlt hN.out h)
        have HH := Lib.hid (fun (h : badD n ds[I] = true) => any_hit hlt h)
        have HQ := Lib.hid (badD_eq n ds[I])
        generalize badD n ds[I] = q at *
        generalize ds[I] = d at *
        clear hab hIn hN
        by_cases z1 : d.length = 0
        · have hz : ((d.length : Int) == 0) = true := by rw [beq_iff_eq]; omega
          have HE2 : Hid (E = 1) := Lib.hid (by rw [HE.out, HH.out (by rw [HQ.out, decide_eq_true z1]; rfl)]; rfl)
          clear HE HH HT HQ KD z1
          go_wp2_with fail
          go_ret
          exact ⟨ret_err HE2.out, hS.out⟩
        have hz : ((d.length : Int) == 0) = false := by rw [beq_eq_false_iff_ne]; omega
        by_cases z2 : 256 < d.length
        · have hz2 : (256 : Int) < (d.length : Int) := by omega
          have HE2 : Hid (E = 1) := Lib.hid (by rw [HE.out, HH.out (by rw [HQ.out, decide_eq_true z2]; simp)]; rfl)
          clear HE HH HT HQ KD z1
          go_wp2_with fail
          go_ret
          exact ⟨ret_err HE2.out, hS.out⟩
        have hz2 : ¬ (256 : Int) < (d.length : Int) := by omega
        have HQ2 : Hid (q = d.any (badI n)) := Lib.hid (by rw [HQ.out, decide_eq_false z1, decide_eq_false z2]; rfl)
        clear HQ z1
        generalize d.any (badI n) = u at *
        obtain rfl := HQ2.out
        clear HQ2
        go_wp2_with fail
        refine KD.out.mono ?_
        rintro e w3 ⟨rfl, hs⟩
        have S3 := Lib.hid (since_two hS.out hs)
        have C3 : Hid (w3.cell? ⟨w.heap.size, 0, none⟩ = some (.slice A n c) ∧ w.heap.size < w3.heap.size) := Lib.hid ⟨(hs.cell hC.out.2).trans hC.out.1, Nat.lt_of_lt_of_le hC.out.2 hs.size⟩
        clear hs KD c0
        cases q
        · have HT2 := Lib.hid (HT.out rfl)
          clear HT HH
          go_wp2_with fail
          go_roundg (ds.length - (I + 1))
          case measure => omega
          case rel => exact ⟨I + 1, by omega, rfl, by go_num, HT2, C3, S3⟩
        · have HE2 : Hid (E = 1) := Lib.hid (by rw [HE.out, HH.out rfl]; rfl)
          clear HE HH HT
          go_wp2_with fail
          go_ret
          exact ⟨ret_err HE2.out, S3.out⟩
      · obtain rfl : I = ds.length := by omega
        have HE2 : Hid (E = 0) := Lib.hid (by
          have h := hN.out
          rw [List.take_length] at h
          rw [HE.out, h]
          rfl)
        clear hN HE
        go_wp2_with fail
        go_ret
        exact ⟨ret_err HE2.out, hS.out⟩
end Go.Proofs.YtkklagdniaoghaaGreatDoor
namespace Go.Proofs.YtkklagdniaoghaaGreatDoor
open Go.RowKit Go.Proofs.Rank

theorem badP_1 {p : Int × Int} (h : p.1 < 0 ∨ 1000000 < p.1 ∨ p.2 < 0 ∨ 1000000 < p.2) : badP p = true := decide_eq_true h
theorem badP_0 {p : Int × Int} (h : ¬ (p.1 < 0 ∨ 1000000 < p.1 ∨ p.2 < 0 ∨ 1000000 < p.2)) : badP p = false := decide_eq_false h
set_option maxHeartbeats 6400000 in
set_option maxRecDepth 1000000 in
theorem sampled_says (ps : List (Int × Int)) (ds : List (List Int)) (A D : Option Addr) (c k : Nat) (w : World) (hP : PIn w A c ps) (hD : DIn w D k ds) (hl : c ≤ 9223372036854775807) (hk : k ≤ 9223372036854775807) (hd : ∀ d ∈ ds, d.length ≤ 9223372036854775807) :
    Calls Tryz.prog 38 #[.slice A ps.length c, .slice D ds.length k] w fun e w' => e = .returned (.int .u8 (sampE ps ds : Nat)) ∧ w = w' := by
  have hp1 := hP.cap
  have hp2 := hD.cap
  have HP := Lib.hid hP
  have HD := Lib.hid hD
  have HL := Lib.hid hd
  clear hP hD hd
  by_cases h0 : ps.length = 0
  · rw [sampE_none h0]
    have h0b : ((ps.length : Int) == 0) = true := by rw [beq_iff_eq]; omega
    go_enter Tryz.func38, Tryz.ntmps38
    go_wp2_with fail
    go_ret
    exact ⟨rfl, rfl⟩
  have h0b : ((ps.length : Int) == 0) = false := by rw [beq_eq_false_iff_ne]; omega
  have HR := Lib.hid (fun h1 => sampE_bad (ps := ps) (ds := ds) h1)
  have HR1 := Lib.hid (fun h1 h2 => sampE_many (ps := ps) (ds := ds) h0 h1 h2)
  have HR2 := Lib.hid (fun h1 h2 h3 => sampE_nod (ps := ps) (ds := ds) h0 h1 h2 h3)
  have HR3 := Lib.hid (fun h1 h2 h3 h4 => sampE_manyd (ps := ps) (ds := ds) h0 h1 h2 h3 h4)
  have HR4 := Lib.hid (fun h1 h2 h3 h4 => sampE_rest (ps := ps) (ds := ds) h0 h1 h2 h3 h4)
  generalize sampE ps ds = E at *
  clear h0
  go_enter Tryz.func38, Tryz.ntmps38
  go_wp2_with fail
  go_loop [5] (fun i => ∃ I : Nat, I ≤ ps.length ∧ i = .int .i64 I ∧ Hid ((ps.take I).any badP = false)) (fun i => ps.length - (intOf i).toNat)
  case atStart => exact ⟨0, by omega, rfl, Lib.hid rfl⟩
  case round =>
    obtain ⟨I, hI, rfl, hN⟩ := hrel
    by_cases hlt : I < ps.length
    · obtain ⟨ad, rfl, hab, c0, c1⟩ := HP.out.at_ I hlt
      have hltI : (I : Int) < (ps.length : Int) := by omega
      have HT := Lib.hid (fun (h : badP ps[I] = false) => any_take hlt hN.out h)
      have HH := Lib.hid (fun (h : badP ps[I] = true) => any_hit hlt h)
      have HB1 := Lib.hid (badP_1 (p := ps[I]))
      have HB0 := Lib.hid (badP_0 (p := ps[I]))
      generalize badP ps[I] = q at *
      generalize ps[I] = p at *
      obtain ⟨x, y⟩ := p
      simp only at c0 c1
      clear hab hN
      by_cases a1 : x < 0
      · have HE : Hid (E = 1) := Lib.hid (HR.out (HH.out (HB1.out (.inl a1))))
        clear HT HH HB1 HB0 HR HR1 HR2 HR3 HR4
        go_wp2_with fail
        go_ret
        exact ⟨ret_err HE.out, rfl⟩
      by_cases a2 : 1000000 < x
      · have HE : Hid (E = 1) := Lib.hid (HR.out (HH.out (HB1.out (.inr (.inl a2)))))
        clear HT HH HB1 HB0 HR HR1 HR2 HR3 HR4
        go_wp2_with fail
        go_ret
        exact ⟨ret_err HE.out, rfl⟩
      by_cases a3 : y < 0
      · have HE : Hid (E = 1) := Lib.hid (HR.out (HH.out (HB1.out (.inr (.inr (.inl a3))))))
        clear HT HH HB1 HB0 HR HR1 HR2 HR3 HR4
        go_wp2_with fail
        go_ret
        exact ⟨ret_err HE.out, rfl⟩
      by_cases a4 : 1000000 < y
      · have HE : Hid (E = 1) := Lib.hid (HR.out (HH.out (HB1.out (.inr (.inr (.inr a4))))))
        clear HT HH HB1 HB0 HR HR1 HR2 HR3 HR4
        go_wp2_with fail
        go_ret
        exact ⟨ret_err HE.out, rfl⟩
      have HT2 := Lib.hid (HT.out (HB0.out (by simp only; omega)))
      clear HT HH HB1 HB0
      go_wp2_with fail
      go_round
      case measure => simp [intOf]; omega
      case rel => exact ⟨I + 1, by omega, by go_num, HT2⟩
    · obtain rfl : I = ps.length := by omega
      have hbad : ps.any badP = false := by have := hN.out; rwa [List.take_length] at this
      have HR1 := Lib.hid (fun h2 => HR1.out hbad h2)
      have HR2 := Lib.hid (fun h2 h3 => HR2.out hbad h2 h3)
      have HR3 := Lib.hid (fun h2 h3 h4 => HR3.out hbad h2 h3 h4)
      have HR4 := Lib.hid (fun h2 h3 h4 => HR4.out hbad h2 h3 h4)
      clear hN hbad HR
      by_cases h2 : 256 < ps.length
      · obtain rfl := HR1.out h2
        clear HR1 HR2 HR3 HR4
        have g2 : (256 : Int) < (ps.length : Int) := by omega
        go_wp2_with fail
        go_ret
        exact ⟨rfl, rfl⟩
      have g2 : ¬ (256 : Int) < (ps.length : Int) := by omega
      by_cases h3 : ds.length = 0
      · obtain rfl := HR2.out h2 h3
        have g3 : ((ds.length : Int) == 0) = true := by rw [beq_iff_eq]; omega
        clear HR1 HR2 HR3 HR4 h3
        go_wp2_with fail
        go_ret
        exact ⟨rfl, rfl⟩
      have g3 : ((ds.length : Int) == 0) = false := by rw [beq_eq_false_iff_ne]; omega
      by_cases h4 : 1000 < ds.length
      · obtain rfl := HR3.out h2 h3 h4
        have g4 : (1000 : Int) < (ds.length : Int) := by omega
        clear HR1 HR2 HR3 HR4 h3
        go_wp2_with fail
        go_ret
        exact ⟨rfl, rfl⟩
      have g4 : ¬ (1000 : Int) < (ds.length : Int) := by omega
      have HE := Lib.hid (HR4.out h2 h3 h4)
      clear HR1 HR2 HR3 HR4 h3
      go_wp2_with fail
      go_loop [6] (fun i => ∃ I : Nat, I ≤ ds.length ∧ i = .int .i64 I ∧ Hid ((ds.take I).any (badD ps.length) = false)) (fun i => ds.length - (intOf i).toNat)
      case atStart => exact ⟨0, by omega, rfl, Lib.hid rfl⟩
      case round =>
        obtain ⟨I, hI, rfl, hN⟩ := hrel
        by_cases hlt : I < ds.length
        · obtain ⟨ad, R, kk, rfl, hab, c0, hIn⟩ := HD.out.at_ I hlt
          have hltI : (I : Int) < (ds.length : Int) := by omega
          have hdl := HL.out ds[I] (List.getElem_mem hlt)
          have HI := Lib.hid hIn
          have HT := Lib.hid (fun (h : badD ps.length ds[I] = false) => any_take hlt hN.out h)
          have HH := Lib.hid (fun (h : badD ps.length ds[I] = true) => any_hit hlt h)
          have HQ := Lib.hid (badD_eq ps.length ds[I])
          generalize badD ps.length ds[I] = q at *
          generalize ds[I] = d at *
          clear hab hIn hN
          by_cases z1 : d.length = 0
          · have hz : ((d.length : Int) == 0) = true := by rw [beq_iff_eq]; omega
            have HE2 : Hid (E = 1) := Lib.hid (by rw [HE.out, HH.out (by rw [HQ.out, decide_eq_true z1]; rfl)]; rfl)
            clear HE HH HT HQ z1
            go_wp2_with fail
            go_ret
            exact ⟨ret_err HE2.out, rfl⟩
          have hz : ((d.length : Int) == 0) = false := by rw [beq_eq_false_iff_ne]; omega
          by_cases z2 : 256 < d.length
          · have hz2 : (256 : Int) < (d.length : Int) := by omega
            have HE2 : Hid (E = 1) := Lib.hid (by rw [HE.out, HH.out (by rw [HQ.out, decide_eq_true z2]; simp)]; rfl)
            clear HE HH HT HQ z1
            go_wp2_with fail
            go_ret
            exact ⟨ret_err HE2.out, rfl⟩
          have hz2 : ¬ (256 : Int) < (d.length : Int) := by omega
          have HQ2 : Hid (q = d.any (badI ps.length)) := Lib.hid (by rw [HQ.out, decide_eq_false z1, decide_eq_false z2]; rfl)
          clear HQ z1
          go_wp2_with fail
          go_loop [7] (fun i => ∃ J : Nat, J ≤ d.length ∧ i = .int .i64 J ∧ Hid ((d.take J).any (badI ps.length) = false)) (fun i => d.length - (intOf i).toNat)
          case atStart => exact ⟨0, by omega, rfl, Lib.hid rfl⟩
          case round =>
            obtain ⟨J, hJ, rfl, hN⟩ := hrel
            have hltI : (I : Int) < (ds.length : Int) := by omega
            by_cases hjl : J < d.length
            · obtain ⟨ad2, rfl, hab2, e0⟩ := HI.out.at_ J hjl
              have hltJ : (J : Int) < (d.length : Int) := by omega
              have HT3 := Lib.hid (fun (h : badI ps.length d[J] = false) => any_take hjl hN.out h)
              have HH3 := Lib.hid (fun (h : badI ps.length d[J] = true) => any_hit hjl h)
              have HQ3 := Lib.hid (badI_eq ps.length d[J])
              generalize badI ps.length d[J] = v at *
              generalize d[J] = x at *
              clear hab2 hN
              by_cases a1 : x < 0
              · have HE2 : Hid (E = 1) := Lib.hid (by rw [HE.out, HH.out (by rw [HQ2.out, HH3.out (by rw [HQ3.out, decide_eq_true a1]; rfl)])]; rfl)
                clear HE HH HT HQ2 HH3 HT3 HQ3
                go_wp2_with fail
                go_ret
                exact ⟨ret_err HE2.out, rfl⟩
              by_cases a2 : (ps.length : Int) ≤ x
              · have HE2 : Hid (E = 1) := Lib.hid (by rw [HE.out, HH.out (by rw [HQ2.out, HH3.out (by rw [HQ3.out, decide_eq_true a2]; simp)])]; rfl)
                clear HE HH HT HQ2 HH3 HT3 HQ3
                go_wp2_with fail
                go_ret
                exact ⟨ret_err HE2.out, rfl⟩
              have HT4 := Lib.hid (HT3.out (by rw [HQ3.out, decide_eq_false a1, decide_eq_false a2]; rfl))
              clear HT3 HH3 HQ3
              go_wp2_with fail
              go_round
              case measure => simp [intOf]; omega
              case rel => exact ⟨J + 1, by omega, by go_num, HT4⟩
            · obtain rfl : J = d.length := by omega
              have HT2 := Lib.hid (HT.out (by
                have h := hN.out
                rw [List.take_length] at h
                rw [HQ2.out, h]))
              clear hN HT HH HQ2
              go_wp2_with fail
              go_round
              case measure => simp [intOf]; omega
              case rel => exact ⟨I + 1, by omega, by go_num, HT2⟩
        · obtain rfl : I = ds.length := by omega
          have HE2 : Hid (E = 0) := Lib.hid (by
            have h := hN.out
            rw [List.take_length] at h
            rw [HE.out, h]
            rfl)
          clear hN HE
          go_wp2_with fail
          go_ret
          exact ⟨ret_err HE2.out, rfl⟩
end Go.Proofs.YtkklagdniaoghaaGreatDoor
namespace Go.Proofs.YtkklagdniaoghaaGreatDoor
open Go.RowKit Go.Proofs.Rank

def bigD (d : List Int) : Bool := decide (60 < d.length ∧ d.length ≤ 256 ∨ 300 < d.length)
/-- Too many parts, or draws, or too long ones. -/
def busyF (n : Nat) (ds : List (List Int)) : Bool :=
  decide (40 < n ∧ n ≤ 256 ∨ 300 < n ∨ 40 < ds.length ∧ ds.length ≤ 1000 ∨ 1100 < ds.length) || ds.any bigD
theorem busy_yes {n : Nat} {ds : List (List Int)} (h : 40 < n ∧ n ≤ 256 ∨ 300 < n ∨ 40 < ds.length ∧ ds.length ≤ 1000 ∨ 1100 < ds.length) : busyF n ds = true := by unfold busyF; rw [decide_eq_true h]; rfl
theorem busy_rest {n : Nat} {ds : List (List Int)} (h : ¬ (40 < n ∧ n ≤ 256 ∨ 300 < n ∨ 40 < ds.length ∧ ds.length ≤ 1000 ∨ 1100 < ds.length)) : busyF n ds = ds.any bigD := by unfold busyF; rw [decide_eq_false h]; rfl
theorem ret_bl {x y : Bool} (h : x = y) : Ending.returned (.bool y) = Ending.returned (.bool x) := by rw [h]
set_option maxHeartbeats 1600000 in
set_option maxRecDepth 1000000 in
theorem busy_says (n : Nat) (ds : List (List Int)) (A D : Option Addr) (c k : Nat) (w : World) (hD : DIn w D k ds) (hk : k ≤ 9223372036854775807) (hn : n ≤ c) (hc : c ≤ 9223372036854775807) (hd : ∀ d ∈ ds, d.length ≤ 9223372036854775807) :
    Calls Tryz.prog 11 #[.slice A n c, .slice D ds.length k] w fun e w' => e = .returned (.bool (busyF n ds)) ∧ w = w' := by
  have hp2 := hD.cap
  have HD := Lib.hid hD
  have HL := Lib.hid hd
  have HY := Lib.hid (busy_yes (n := n) (ds := ds))
  have HR := Lib.hid (busy_rest (n := n) (ds := ds))
  generalize busyF n ds = F at *
  clear hD hd
  by_cases h1 : 300 < n
  · have HF := Lib.hid (HY.out (by omega))
    have g1 : (40 : Int) < (n : Int) := by omega
    have g2 : ¬ (n : Int) ≤ 256 := by omega
    have g3 : (300 : Int) < (n : Int) := by omega
    clear HY HR
    go_enter Tryz.func11, Tryz.ntmps11
    go_wp2_with fail
    go_ret
    exact ⟨ret_bl HF.out, rfl⟩
  have g3 : ¬ (300 : Int) < (n : Int) := by omega
  by_cases h2 : 40 < n ∧ n ≤ 256
  · have HF := Lib.hid (HY.out (by omega))
    have g1 : (40 : Int) < (n : Int) := by omega
    have g2 : (n : Int) ≤ 256 := by omega
    clear HY HR
    go_enter Tryz.func11, Tryz.ntmps11
    go_wp2_with fail
    go_ret
    exact ⟨ret_bl HF.out, rfl⟩
  have hsplit : n ≤ 40 ∨ 256 < n := by omega
  have hsplit2 : (40 < ds.length ∧ ds.length ≤ 1000) ∨ 1100 < ds.length ∨ ds.length ≤ 40 ∨ (1000 < ds.length ∧ ds.length ≤ 1100) := by omega
  have HNo : Hid (ds.length ≤ 40 ∨ (1000 < ds.length ∧ ds.length ≤ 1100) → F = ds.any bigD) := Lib.hid (fun h => HR.out (by omega))
  have HYs : Hid ((40 < ds.length ∧ ds.length ≤ 1000) ∨ 1100 < ds.length → F = true) := Lib.hid (fun h => HY.out (by omega))
  clear HY HR h1 h2
  have hN : (∃ b : Bool, decide ((40 : Int) < (n : Int)) = b ∧ (b = true → ¬ (n : Int) ≤ 256)) := ⟨_, rfl, fun h => by have := of_decide_eq_true h; omega⟩
  rcases hsplit with g1 | g1
  all_goals
    first
      | (have g1i : ¬ (40 : Int) < (n : Int) := by omega)
      | (have g1i : (40 : Int) < (n : Int) := by omega
         have g1j : ¬ (n : Int) ≤ 256 := by omega)
    clear hN g1
    rcases hsplit2 with hm | hm | hm
    · have HF := Lib.hid (HYs.out (.inl hm))
      have m1 : (40 : Int) < (ds.length : Int) := by omega
      have m2 : (ds.length : Int) ≤ 1000 := by omega
      clear hm HYs HNo
      go_enter Tryz.func11, Tryz.ntmps11
      go_wp2_with fail
      go_ret
      exact ⟨ret_bl HF.out, rfl⟩
    · have HF := Lib.hid (HYs.out (.inr hm))
      have m1 : (40 : Int) < (ds.length : Int) := by omega
      have m2 : ¬ (ds.length : Int) ≤ 1000 := by omega
      have m3 : (1100 : Int) < (ds.length : Int) := by omega
      clear hm HYs HNo
      go_enter Tryz.func11, Tryz.ntmps11
      go_wp2_with fail
      go_ret
      exact ⟨ret_bl HF.out, rfl⟩
    · have HF := Lib.hid (HNo.out hm)
      have m3 : ¬ (1100 : Int) < (ds.length : Int) := by omega
      clear HYs HNo
      rcases hm with hm | hm
      all_goals
        first
          | (have m1 : ¬ (40 : Int) < (ds.length : Int) := by omega)
          | (have m1 : (40 : Int) < (ds.length : Int) := by omega
             have m2 : ¬ (ds.length : Int) ≤ 1000 := by omega)
        clear hm
        go_enter Tryz.func11, Tryz.ntmps11
        go_wp2_with fail
        go_loop [5] (fun i => ∃ I : Nat, I ≤ ds.length ∧ i = .int .i64 I ∧ Hid ((ds.take I).any bigD = false)) (fun i => ds.length - (intOf i).toNat)
        case atStart => exact ⟨0, by omega, rfl, Lib.hid rfl⟩
        case round =>
          obtain ⟨I, hI, rfl, hN⟩ := hrel
          by_cases hlt : I < ds.length
          · obtain ⟨ad, R, kk, rfl, hab, c0, hIn⟩ := HD.out.at_ I hlt
            have hltI : (I : Int) < (ds.length : Int) := by omega
            have hdl := HL.out ds[I] (List.getElem_mem hlt)
            have HT := Lib.hid (fun (h : bigD ds[I] = false) => any_take hlt hN.out h)
            have HH := Lib.hid (fun (h : bigD ds[I] = true) => any_hit hlt h)
            have HQ : Hid (bigD ds[I] = decide (60 < ds[I].length ∧ ds[I].length ≤ 256 ∨ 300 < ds[I].length)) := Lib.hid rfl
            generalize bigD ds[I] = q at *
            generalize ds[I] = d at *
            clear hab hIn hN
            by_cases z1 : d.length ≤ 60
            · have HT2 := Lib.hid (HT.out (by rw [HQ.out]; exact decide_eq_false (by omega)))
              have zz : ¬ (60 : Int) < (d.length : Int) := by omega
              have zz3 : ¬ (300 : Int) < (d.length : Int) := by omega
              clear HT HH HQ z1
              go_wp2_with fail
              go_round
              case measure => simp [intOf]; omega
              case rel => exact ⟨I + 1, by omega, by go_num, HT2⟩
            have zz : (60 : Int) < (d.length : Int) := by omega
            by_cases z2 : d.length ≤ 256
            · have HE2 : Hid (F = true) := Lib.hid (by rw [HF.out, HH.out (by rw [HQ.out]; exact decide_eq_true (by omega))])
              have zz2 : (d.length : Int) ≤ 256 := by omega
              clear HT HH HQ z1 z2
              go_wp2_with fail
              go_ret
              exact ⟨ret_bl HE2.out, rfl⟩
            have zz2 : ¬ (d.length : Int) ≤ 256 := by omega
            by_cases z3 : 300 < d.length
            · have HE2 : Hid (F = true) := Lib.hid (by rw [HF.out, HH.out (by rw [HQ.out]; exact decide_eq_true (by omega))])
              have zz3 : (300 : Int) < (d.length : Int) := by omega
              clear HT HH HQ z1 z2 z3
              go_wp2_with fail
              go_ret
              exact ⟨ret_bl HE2.out, rfl⟩
            · have HT2 := Lib.hid (HT.out (by rw [HQ.out]; exact decide_eq_false (by omega)))
              have zz3 : ¬ (300 : Int) < (d.length : Int) := by omega
              clear HT HH HQ z1 z2 z3
              go_wp2_with fail
              go_round
              case measure => simp [intOf]; omega
              case rel => exact ⟨I + 1, by omega, by go_num, HT2⟩
          · obtain rfl : I = ds.length := by omega
            have HE2 : Hid (F = false) := Lib.hid (by
              have h := hN.out
              rw [List.take_length] at h
              rw [HF.out, h])
            clear hN HF
            go_wp2_with fail
            go_ret
            exact ⟨ret_bl HE2.out, rfl⟩
end Go.Proofs.YtkklagdniaoghaaGreatDoor
