/- Runes of a string: plain facts on decoding and encoding. -/
import Derived.Lib.TrimUEq
import Derived.Lib.ValidU
namespace Go.Proofs.Uni
open Go Go.Lib

/-- The bytes of a rune that may be. -/
def eN (c : Nat) : List Nat :=
  if c < 128 then [c] else if c < 2048 then [192 + c / 64, 128 + c % 64] else if c < 65536 then [224 + c / 4096, 128 + c / 64 % 64, 128 + c % 64] else [240 + c / 262144, 128 + c / 4096 % 64, 128 + c / 64 % 64, 128 + c % 64]
def okN (c : Nat) : Prop := c < 55296 ∨ (57344 ≤ c ∧ c ≤ 1114111)
theorem enc_eN {c : Nat} (h : okN c) : (Utf8.encode (c : Int)).data.toList = (eN c).map UInt8.ofNat := by
  have hv : Utf8.valid (c : Int) = true := by
    unfold okN at h
    simp only [Utf8.valid, Bool.or_eq_true, Bool.and_eq_true, decide_eq_true_eq]
    omega
  unfold Utf8.encode eN
  simp only [hv, if_true, Int.toNat_natCast]
  split
  · rfl
  · split
    · rfl
    · split <;> rfl
theorem dec_N {n b0 b1 b2 b3 : Nat} (hn : 1 ≤ n) (h0 : b0 < 256) (h1 : b1 < 256) (_h2 : b2 < 256) (h3 : b3 < 256) (hv : ¬ ((decodeN n b0 b1 b2 b3).1 = 65533 ∧ (decodeN n b0 b1 b2 b3).2 = 1)) :
    okN (decodeN n b0 b1 b2 b3).1 ∧ (decodeN n b0 b1 b2 b3).2 ≤ n ∧ 1 ≤ (decodeN n b0 b1 b2 b3).2 ∧ (decodeN n b0 b1 b2 b3).2 ≤ 4 ∧ eN (decodeN n b0 b1 b2 b3).1 = [b0, b1, b2, b3].take (decodeN n b0 b1 b2 b3).2 := by
  unfold decodeN at hv ⊢
  split
  · rename_i h
    refine ⟨.inl (by simp only; omega), hn, Nat.le_refl _, by simp, ?_⟩
    simp only [eN, List.take_succ_cons, List.take_zero]
    rw [if_pos h]
  · rename_i n0
    rw [if_neg n0] at hv
    split
    · rename_i h
      rw [if_pos h] at hv
      split
      · rename_i g
        have e1 : (b0 % 32 * 64 + b1 % 64) / 64 = b0 % 32 := by omega
        have e2 : (b0 % 32 * 64 + b1 % 64) % 64 = b1 % 64 := by omega
        refine ⟨.inl (by simp only; omega), by simp only; omega, by simp, by simp, ?_⟩
        simp only [eN, List.take_succ_cons, List.take_zero]
        rw [if_neg (by omega), if_pos (by omega), e1, e2]
        simp only [List.cons.injEq, and_true]
        omega
      · rename_i g
        rw [if_neg g] at hv
        exact absurd ⟨rfl, rfl⟩ hv
    · rename_i n1
      rw [if_neg n1] at hv
      split
      · rename_i h
        rw [if_pos h] at hv
        split
        · rename_i g
          have e1 : (b0 % 16 * 4096 + b1 % 64 * 64 + b2 % 64) / 4096 = b0 % 16 := by omega
          have e2 : (b0 % 16 * 4096 + b1 % 64 * 64 + b2 % 64) / 64 % 64 = b1 % 64 := by omega
          have e3 : (b0 % 16 * 4096 + b1 % 64 * 64 + b2 % 64) % 64 = b2 % 64 := by omega
          refine ⟨g.2, by simp only; omega, by simp, by simp, ?_⟩
          simp only [eN, List.take_succ_cons, List.take_zero]
          rw [if_neg (by omega), if_neg (by omega), if_pos (by omega), e1, e2, e3]
          simp only [List.cons.injEq, and_true]
          omega
        · rename_i g
          rw [if_neg g] at hv
          exact absurd ⟨rfl, rfl⟩ hv
      · rename_i n2
        rw [if_neg n2] at hv
        split
        · rename_i h
          rw [if_pos h] at hv
          split
          · rename_i g
            have e1 : (b0 % 8 * 262144 + b1 % 64 * 4096 + b2 % 64 * 64 + b3 % 64) / 262144 = b0 % 8 := by omega
            have e2 : (b0 % 8 * 262144 + b1 % 64 * 4096 + b2 % 64 * 64 + b3 % 64) / 4096 % 64 = b1 % 64 := by omega
            have e3 : (b0 % 8 * 262144 + b1 % 64 * 4096 + b2 % 64 * 64 + b3 % 64) / 64 % 64 = b2 % 64 := by omega
            have e4 : (b0 % 8 * 262144 + b1 % 64 * 4096 + b2 % 64 * 64 + b3 % 64) % 64 = b3 % 64 := by omega
            refine ⟨g.2, by simp only; omega, by simp, by simp, ?_⟩
            simp only [eN, List.take_succ_cons, List.take_zero]
            rw [if_neg (by omega), if_neg (by omega), if_neg (by omega), e1, e2, e3, e4]
            simp only [List.cons.injEq, and_true]
            omega
          · rename_i g
            rw [if_neg g] at hv
            exact absurd ⟨rfl, rfl⟩ hv
        · rename_i n3
          rw [if_neg n3] at hv
          exact absurd ⟨rfl, rfl⟩ hv
theorem take4 (l : List UInt8) : ∀ w, w ≤ 4 → w ≤ l.length → [l.getD 0 0, l.getD 1 0, l.getD 2 0, l.getD 3 0].take w = l.take w
  | 0, _, _ => rfl
  | 1, _, h => by match l, h with | a :: l, _ => rfl
  | 2, _, h => by match l, h with | a :: b :: l, _ => rfl
  | 3, _, h => by match l, h with | a :: b :: c :: l, _ => rfl
  | 4, _, h => by match l, h with | a :: b :: c :: d :: l, _ => rfl
/-- A rune as a string. -/
def enc (r : Nat) : ByteArray := Utf8.encode (r : Nat)
/-- A step of the decoder that is no error gives a rune whose encoding is what it read. -/
theorem dec_enc (l : List UInt8) (h : l ≠ []) (hv : ¬ ((decodeL l).1 = 65533 ∧ (decodeL l).2 = 1)) :
    okN (decodeL l).1 ∧ (decodeL l).2 ≤ l.length ∧ (enc (decodeL l).1).data.toList = l.take (decodeL l).2 := by
  unfold enc
  rw [decodeL_N] at hv ⊢
  have hl : 1 ≤ l.length := List.length_pos_iff.2 h
  obtain ⟨h1, h2, _, h4, h5⟩ := dec_N (n := l.length) (b0 := (l.getD 0 0).toNat) (b1 := (l.getD 1 0).toNat) (b2 := (l.getD 2 0).toNat) (b3 := (l.getD 3 0).toNat) hl (UInt8.toNat_lt _) (UInt8.toNat_lt _) (UInt8.toNat_lt _) (UInt8.toNat_lt _) hv
  refine ⟨h1, h2, ?_⟩
  rw [enc_eN h1, h5, ← take4 l _ h4 h2, List.map_take]
  simp
theorem bad_enc : (enc 65533).data.toList.length = 3 := by unfold enc; rw [enc_eN (.inr (by omega))]; rfl
/-- The runes of a list of bytes. -/
def runesF : Nat → List UInt8 → List Nat
  | 0, _ => []
  | f + 1, l => if l = [] then [] else (decodeL l).1 :: runesF f (l.drop (decodeL l).2)
def runes (l : List UInt8) : List Nat := runesF l.length l
def cat (rs : List Nat) : List UInt8 := (rs.map fun r => (enc r).data.toList).flatten
set_option maxRecDepth 100000 in
theorem valid_cat : ∀ (f : Nat) (l : List UInt8), l.length ≤ f → validGoD f l = true → cat (runesF f l) = l
  | 0, l, h, _ => by
    have : l = [] := List.eq_nil_of_length_eq_zero (by omega)
    subst this; rfl
  | f + 1, l, h, hv => by
    by_cases hl : l = []
    · subst hl; rfl
    · simp only [validGoD, if_neg hl] at hv
      simp only [runesF, if_neg hl]
      split at hv
      · cases hv
      · rename_i hb
        have q := dec_enc l hl hb; have h2 := q.2.1; have h3 := q.2.2
        have hw := decodeL_width l
        have ih := valid_cat f (l.drop (decodeL l).2) (by simp only [List.length_drop]; omega) hv
        simp only [cat, List.map_cons, List.flatten_cons] at ih ⊢
        rw [ih]
        rw [h3, List.take_append_drop]
set_option maxRecDepth 100000 in
theorem cat_len : ∀ (f : Nat) (l : List UInt8), l.length ≤ f → l.length ≤ (cat (runesF f l)).length ∧ (validGoD f l = false → l.length < (cat (runesF f l)).length)
  | 0, l, h => ⟨by omega, fun hv => by cases hv⟩
  | f + 1, l, h => by
    by_cases hl : l = []
    · subst hl; exact ⟨Nat.zero_le _, fun hv => by simp [validGoD] at hv⟩
    · have hw := decodeL_width l
      have hlp : 1 ≤ l.length := List.length_pos_iff.2 hl
      obtain ⟨i1, i2⟩ := cat_len f (l.drop (decodeL l).2) (by simp only [List.length_drop]; omega)
      simp only [validGoD, if_neg hl, runesF, cat, List.map_cons, List.flatten_cons, List.length_append, List.length_drop] at i1 i2 ⊢
      by_cases hb : (decodeL l).1 = 65533 ∧ (decodeL l).2 = 1
      · obtain ⟨b1, b2⟩ := id hb
        have e3 : (enc (decodeL l).1).data.toList.length = 3 := by rw [b1]; exact bad_enc
        rw [e3]
        rw [b2] at i1 i2 ⊢
        exact ⟨by omega, fun _ => by omega⟩
      · have q := dec_enc l hl hb; have h2 := q.2.1; have h3 := q.2.2
        have e3 : (enc (decodeL l).1).data.toList.length = (decodeL l).2 := by
          rw [h3, List.length_take]; omega
        rw [e3]
        refine ⟨by omega, fun hv => ?_⟩
        rw [if_neg hb] at hv
        have := i2 hv
        omega
set_option maxRecDepth 100000 in
/-- A string is valid just if its runes, encoded, are the string. -/
theorem valid_iff (l : List UInt8) : validD l = true ↔ cat (runes l) = l := by
  constructor
  · exact valid_cat l.length l (Nat.le_refl _)
  · intro h
    cases hv : validD l with
    | true => rfl
    | false =>
      have := (cat_len l.length l (Nat.le_refl _)).2 hv
      have e : (cat (runesF l.length l)).length = l.length := congrArg List.length h
      omega
end Go.Proofs.Uni
