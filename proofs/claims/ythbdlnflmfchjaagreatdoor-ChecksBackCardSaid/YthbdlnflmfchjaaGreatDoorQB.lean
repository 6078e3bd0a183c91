/- What the listed variables read as, when the law is called. -/
import Derived.Test.YthbdlnflmfchjaaGreatDoorLC
import Derived.Test.YthbdlnflmfchjaaGreatDoorUM
import Derived.Test.YthbdlnflmfchjaaGreatDoorUJ
import Derived.Lib.LaidU8T
import Derived.Lib.LaidTab
import Derived.MakeChecks
set_option linter.unusedVariables false
set_option linter.unusedSimpArgs false
namespace Go.Proofs.YthbdlnflmfchjaaGreatDoor
open Go.RowKit Go.Proofs.Fm
set_option maxRecDepth 1000000 in
theorem tabs_of {w:World} (h:laidMet Tryz.prog Rows.checksBackRow.laid w):Tabs w:=
 utf8Tabs_of_readsT (U8Types.of196 Tryz.lays196) ⟨by kernel_rfl,by kernel_rfl,by kernel_rfl,by kernel_rfl,by kernel_rfl,by kernel_rfl,by kernel_rfl⟩ (Lib.laidMet.reads h (.tail _ (.tail _ (.tail _ (.tail _ (.tail _ (.tail _ (.head _)))))))) (Lib.laidMet.reads h (.tail _ (.tail _ (.tail _ (.head _)))))
set_option maxRecDepth 1000000 in
theorem pow_of {w:World} (h:laidMet Tryz.prog Rows.checksBackRow.laid w):PowV w:=by
 obtain ⟨g,t,cs,fuel,p,h1,h2,h3,h4⟩:=Lib.laidMet.reads h (.tail _ (.tail _ (.head _)))
 have hg:g=Tryz.laysM173_ren.g 17:=Option.some.inj (h1.symm.trans Tryz.laysM173.m17)
 subst hg
 have ht:t=383:=Option.some.inj (h2.symm.trans (by kernel_rfl))
 subst ht
 have hc:=Lib.cells_of_tab (k:=.u64) (zs:=Lib.pow10Tab) Tryz.underlying383 Tryz.underlying262 (by kernel_rfl) (by kernel_rfl) h4
 unfold PowV Lib.TabIs
 rw [h3,← hc]
set_option maxRecDepth 1000000 in
theorem err_of {w:World} (h:laidMet Tryz.prog Rows.checksBackRow.laid w):ErrV w:=by
 obtain ⟨g,t,cs,fuel,p,h1,h2,h3,h4⟩:=Lib.laidMet.reads h (.tail _ (.tail _ (.tail _ (.tail _ (.head _)))))
 have hg:g=Tryz.laysC174_ren.g 16:=Option.some.inj (h1.symm.trans Tryz.laysC174.m16)
 subst hg
 have ht:t=166:=Option.some.inj (h2.symm.trans (by kernel_rfl))
 subst ht
 have hcell:∀ v,cs.toList=[v]→w.cell? ⟨Tryz.laysC174_ren.g 16,0,none⟩=some v:=fun v hv=>by
  unfold World.var? at h3
  rw [h1,Option.bind_some] at h3
  unfold World.cell?
  cases hb:w.heap[Tryz.laysC174_ren.g 16]? with
  | none=>rw [hb] at h3;cases h3
  | some o=>
   rw [hb] at h3
   cases o with
   | cells c e fr=>
    injection h3 with h3
    subst h3
    have:c=#[v]:=Array.toList_inj.1 hv
    rw [this];rfl
   | _=>cases h3
 cases fuel with
 | zero=>simp [DataW.trod] at h4
 | succ fuel=>
  unfold DataW.trod at h4
  rw [Tryz.underlying166] at h4
  rcases hcs:cs.toList with _ | ⟨v,_ | ⟨v2,l⟩⟩
  ·
   rw [hcs] at h4;simp at h4
  ·
   rw [hcs] at h4
   cases v with
   | nilIface=>exact ⟨_,hcell _ hcs,.inl rfl⟩
   | iface u v=>exact ⟨_,hcell _ hcs,.inr ⟨u,v,rfl⟩⟩
   | _=>simp at h4
  ·
   rw [hcs] at h4;simp at h4
theorem lay_of {w:World} (h:laidMet Tryz.prog Rows.checksBackRow.laid w):Lay w:=⟨tabs_of h,err_of h,pow_of h⟩
end Go.Proofs.YthbdlnflmfchjaaGreatDoor
