/- ChecksParses: the contract of the row. -/
import Derived.Test.YthbdlnflmfchjaaGreatDoorXH
import Derived.LaidMore
import Derived.Lay
import Derived.Stop.Joined
namespace Go.Proofs.YthbdlnflmfchjaaGreatDoor
open Go.Proofs.Tryz
open Go.RowKit Go.ChangeShapes Go.WideShapes Go.ChangeAt Go.Deep
theorem Di:∀t∈[9,39,39],prog.readableRec t=true∧t<prog.types.size:=by
 intro t ht;simp only[List.mem_cons,aS,or_false]at ht;rcases ht with rfl|rfl|rfl;·exact⟨by kernel_rfl,by decide+kernel⟩
 ·exact⟨by kernel_rfl,by decide+kernel⟩
 ·exact⟨by kernel_rfl,by decide+kernel⟩
set_option maxRecDepth 100000 in
set_option maxHeartbeats 1600000 in
theorem checksParses_lifted (os : Os) (started : os.Started) (H : Type) (enc : TypeId × Value → H) :
    ReturnsInHanded {} checked os 4 .any (fun w args => (Rows.checksParsesSpec.pre enc prog f4 Rows.checksParsesRow.domain false w args ∧ laidMetH prog Rows.checksParsesRow.laid w) ∧ sizedMet enc prog f4 (OpenSpec.ofChange Rows.checksParsesSpec) false w args)
      (Rows.checksParsesSpec.post enc prog f4 false true false false) := by
  refine returnsInHanded_of_change_and (C := checked) (X := fun w _ => laidMetH prog Rows.checksParsesRow.laid w) (fun _ _ _ hh h => h.of_heap hh) own started (by kernel_rfl) func4
    (ChangeSpec.witness_shaped (enc := enc) (C := checked) (os := os) (X := fun w _ => laidMetH prog Rows.checksParsesRow.laid w) false (World.laidAll prog os Rows.checksParsesRow.laid)
      #[.string .empty, .agg #[.int .u8 0, .string .empty, .int .i64 0, .slice none 0 0], .agg #[.int .u8 0, .string .empty, .int .i64 0, .slice none 0 0]] 8 (World.laidAll_os _ _ _)
      (World.shaped_of_ZipB (by kernel_rfl) (by kernel_rfl)) (by kernel_rfl) (by kernel_rfl) (by kernel_rfl)
      (by rw [MakeChecks.laidMetH_plain _ _ _ (by kernel_rfl)]; exact laidMet_laidAll _ (by kernel_rfl) (by kernel_rfl))) ?_
  intro W base args ds gs before hval0 hW _ _ hX _
  have hval : ∀ (j : Nat) t v, f4.params[j]? = some t → args[j]? = some v → Value.okWide prog W .any base t v := hval0
  have hW' := hW
  have hlt := fun p hp => hW.lt p hp
  obtain ⟨p, q, hA0, hV, rfl, _, _⟩ := hW
  have hA : DataW.TrodAll enc prog W 0 (fun _ => true) true f4.params.toList args.toList ds p := hA0
  rw [params4] at hA hval
  have hAll := hA
  obtain ⟨v0, v1, v2, d0, d1, d2, p0, p1, p2, rfl, rfl, rfl, h0, h1, h2⟩ := trodAll_three hA
  obtain ⟨rfl, rfl⟩ := trodVars_none hV
  clear hA0
  simp only [List.append_nil] at hW' hlt
  obtain ⟨x0, rfl⟩ := okWide_string underlying9 (hval 0 9 v0 rfl rfl)
  obtain ⟨cs, rfl, hsz⟩ := okWide_struct underlying39 (hval 1 39 v1 rfl rfl)
  obtain ⟨ds2, rfl, hsz2⟩ := okWide_struct underlying39 (hval 2 39 v2 rfl rfl)
  obtain ⟨f1, t1⟩ := h1
  obtain ⟨t, ht⟩ := tX f1 cs.toList _ t1
  obtain ⟨f2, t2⟩ := h2
  obtain ⟨o, ho⟩ := tX f2 ds2.toList _ t2
  rw [MakeChecks.laidMetH_plain _ _ _ (by kernel_rfl)] at hX
  have hLay := Nj hX
  simp only at hW' hlt hAll
  refine (zA (rM 5000 (by decide)) x0 t o cs.toList ds2.toList W ht ho hLay).mono fun e W' ⟨he, hs⟩ => ?_
  subst he
  have hb : Below W.heap.size W W' := ⟨hs.os, hs.tape, hs.output, hs.size, hs.block⟩
  refine ⟨_, rfl, sS (pa := p0 ++ p1 ++ p2) (pv := []) hW' (fun _ _ _ => trodAll_mk1 (shut_bool underlying4 _)) (fun sp hsp => ?_) (fun _ _ => rfl) (by simp) hb (ok_one (by kernel_rfl) rfl (okWide_bool_mk underlying4 _))⟩
  exact mn Ig hb _ _ _ _ Di hAll hlt hsp
