/- ChecksBack: the contract of the row. -/
import Derived.Test.YthbdlnflmfchjaaGreatDoorQR1
import Derived.Test.YthbdlnflmfchjaaGreatDoorQB
import Derived.Test.YthbdlnflmfchjaaGreatDoorRows
import Derived.LaidMore
import Derived.Lay
import Derived.Stop.Joined
import Derived.Carry
set_option linter.unusedVariables false
set_option linter.unusedSimpArgs false
namespace Go.Proofs.YthbdlnflmfchjaaGreatDoor
open Go.RowKit Go.ChangeShapes Go.WideShapes Go.ChangeAt Go.Deep
theorem readableQ:∀ t ∈ [9,39],Tryz.prog.readableRec t=true∧t < Tryz.prog.types.size:=by
 intro t ht
 simp only [List.mem_cons,List.not_mem_nil,or_false] at ht
 rcases ht with rfl | rfl
 ·
  exact ⟨by kernel_rfl,by decide +kernel⟩
 ·
  exact ⟨by kernel_rfl,by decide +kernel⟩
set_option maxRecDepth 100000 in
set_option maxHeartbeats 1600000 in
theorem checksBack_lifted (os:Os) (started:os.Started) (H:Type) (enc:TypeId × Value→H):
  ReturnsInHanded {} Tryz.checked os 5 .any (fun w args=>(Rows.checksBackSpec.pre enc Tryz.prog Tryz.f5 Rows.checksBackRow.domain false w args∧laidMetH Tryz.prog Rows.checksBackRow.laid w)∧sizedMet enc Tryz.prog Tryz.f5 (OpenSpec.ofChange Rows.checksBackSpec) false w args)
   (Rows.checksBackSpec.post enc Tryz.prog Tryz.f5 false true false false):=by
 refine returnsInHanded_of_change_and (C:=Tryz.checked) (X:=fun w _=>laidMetH Tryz.prog Rows.checksBackRow.laid w) (fun _ _ _ hh h=>h.of_heap hh) own started (by kernel_rfl) Tryz.func5
  (ChangeSpec.witness_shaped (enc:=enc) (C:=Tryz.checked) (os:=os) (X:=fun w _=>laidMetH Tryz.prog Rows.checksBackRow.laid w) false (World.laidAll Tryz.prog os Rows.checksBackRow.laid)
   #[.string .empty,.agg #[.int .u8 0,.string .empty,.int .i64 0,.slice none 0 0]] 8 (World.laidAll_os _ _ _)
   (World.shaped_of_ZipB (by kernel_rfl) (by kernel_rfl)) (by kernel_rfl) (by kernel_rfl) (by kernel_rfl)
   (by rw [MakeChecks.laidMetH_plain _ _ _ (by kernel_rfl)];exact laidMet_laidAll _ (by kernel_rfl) (by kernel_rfl))) ?_
 intro W base args ds gs before hval0 hW _ _ hX _
 have hval:∀ (j:Nat) t v,Tryz.f5.params[j]?=some t→args[j]?=some v→Value.okWide Tryz.prog W .any base t v:=hval0
 have hW':=hW
 have hlt:=fun p hp=>hW.lt p hp
 obtain ⟨p,q,hA0,hV,rfl,_,_⟩:=hW
 have hA:DataW.TrodAll enc Tryz.prog W 0 (fun _=>true) true Tryz.f5.params.toList args.toList ds p:=hA0
 rw [Tryz.params5] at hA hval
 have hAll:=hA
 obtain ⟨v0,v1,d0,d1,p0,p1,rfl,rfl,rfl,h0,h1⟩:=trodAll_two hA
 obtain ⟨rfl,rfl⟩:=trodVars_none hV
 clear hA0
 simp only [List.append_nil] at hW' hlt
 obtain ⟨x0,rfl⟩:=okWide_string Tryz.underlying9 (hval 0 9 v0 rfl rfl)
 obtain ⟨cs,rfl,hsz⟩:=okWide_struct Tryz.underlying39 (hval 1 39 v1 rfl rfl)
 obtain ⟨f1,t1⟩:=h1
 obtain ⟨t,ht⟩:=open_term f1 cs.toList _ t1
 rw [MakeChecks.laidMetH_plain _ _ _ (by kernel_rfl)] at hX
 have hLay:=lay_of hX
 simp only [List.append_nil] at hW' hlt hAll
 refine (law_back (ptyped_all 5000 (by decide)) x0 t cs.toList W ht hLay).mono fun e W' ⟨he,hs⟩=>?_
 subst he
 have hb:Below W.heap.size W W':=⟨hs.os,hs.tape,hs.output,hs.size,hs.block⟩
 refine ⟨_,rfl,post_of_below (pa:=p0 ++ p1) (pv:=[]) hW' (fun _ _ _=>trodAll_mk1 (shut_bool Tryz.underlying4 _)) (fun sp hsp=>?_) (fun _ _=>rfl) (by simp) hb (ok_one (by kernel_rfl) rfl (okWide_bool_mk Tryz.underlying4 _))⟩
 exact trodAll_stays laidOut hb _ _ _ _ readableQ hAll hlt hsp
end Go.Proofs.YthbdlnflmfchjaaGreatDoor
