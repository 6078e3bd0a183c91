/- From the sort's word to the ranks of the scores, plain. -/
import Derived.Test.YtkklagdniaoghaaGreatDoorK1
namespace Go.Proofs.YtkklagdniaoghaaGreatDoor
open Go.Proofs.Rank Go.Sort
open Go.Proofs.Frac (fr)

/-- A quotient that is small. -/
def mkQ (q : Nat × Nat) : Qs := if h : q.1 ≤ 256000000 ∧ 0 < q.2 ∧ q.2 ≤ 256000000 then ⟨q, h⟩ else default
theorem mkQ_eq {q : Nat × Nat} (h : q.1 ≤ 256000000 ∧ 0 < q.2 ∧ q.2 ≤ 256000000) : mkQ q = (⟨q, h⟩ : Qs) := dif_pos h
theorem mkQ_val {q : Nat × Nat} (h : q.1 ≤ 256000000 ∧ 0 < q.2 ∧ q.2 ≤ 256000000) : (mkQ q).1 = q := congrArg Subtype.val (mkQ_eq h)
/-- The scores, as they stand ahead of the sort. -/
def scQ (ps : List (Int × Int)) (ds : List (List Int)) : List Qs := ds.map fun d => mkQ (sc ps d)
theorem scQ_val {ps : List (Int × Int)} {ds : List (List Int)} (h : OkS ps ds) : (scQ ps ds).map (·.1) = ds.map (sc ps) := by
  unfold scQ
  rw [List.map_map]
  refine List.map_congr_left (fun d hd => ?_)
  obtain ⟨h1, h2, h3⟩ := sc_small h d (h.dd d hd).2.1
  exact mkQ_val ⟨h1, h3, h2⟩
theorem scQ_take {ps : List (Int × Int)} {ds : List (List Int)} {I : Nat} (hI : I < ds.length) : scQ ps (ds.take (I + 1)) = scQ ps (ds.take I) ++ [mkQ (sc ps ds[I])] := by
  unfold scQ
  rw [List.take_succ_eq_append_getElem hI, List.map_append]
  rfl
theorem getB {d : Array Qs} {i : Nat} (h : i < d.size) : d[i]! = d[i] := by simp [h]
theorem ranks_of_sort {ps : List (Int × Int)} {ds : List (List Int)} (h : OkS ps ds) {d : Array Qs} (hp : PermIn 0 (scQ ps ds).toArray.size (scQ ps ds).toArray d) (hs : SortedIn ltQ 0 (scQ ps ds).toArray.size d) :
    Ranks ps ds (d.toList.map (·.1)) := by
  obtain ⟨p1, _, p3⟩ := hp
  have e1 : (d.extract 0 (scQ ps ds).toArray.size) = d := by rw [← p1]; exact Array.extract_size
  have e2 : ((scQ ps ds).toArray.extract 0 (scQ ps ds).toArray.size) = (scQ ps ds).toArray := Array.extract_size
  rw [e1, e2] at p3
  have hperm : (d.toList.map (·.1)).Perm (ds.map (sc ps)) := by
    rw [← scQ_val h]
    exact p3.map _
  refine ⟨⟨?_, fun a ha => ?_⟩, hperm⟩
  · rw [List.pairwise_map, List.pairwise_iff_getElem]
    intro i j hi hj hij
    rw [Array.length_toList] at hi hj
    have h1 := hs i j (Nat.zero_le _) hij (by rw [← p1]; exact hj)
    rw [getB hi, getB hj] at h1
    rw [Array.getElem_toList, Array.getElem_toList]
    cases Decidable.em (le d[i].1 d[j].1) with
    | inl h2 => exact h2
    | inr h2 => rw [(ltQ_iff _ _).2 h2] at h1; cases h1
  · obtain ⟨x, _, rfl⟩ := List.mem_map.1 (hperm.mem_iff.1 ha)
    exact sc_red _ _
end Go.Proofs.YtkklagdniaoghaaGreatDoor
