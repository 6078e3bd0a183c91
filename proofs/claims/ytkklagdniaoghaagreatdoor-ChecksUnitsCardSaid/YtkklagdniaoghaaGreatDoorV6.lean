/- utf8.ValidString at this program: its contract, laid. -/
import Derived.Test.YtkklagdniaoghaaGreatDoorV5
import Derived.Shelf.Unicode.ValidAny
namespace Go.Proofs.YtkklagdniaoghaaGreatDoor
open Go Go.Shelf

def Tryz.lays196_ren : Go.Shelf.Ren := ⟨fun | 196 => 44 | 259 => 79 | n => n, fun | 9 => 9 | 4 => 4 | 3 => 3 | 5 => 5 | 12 => 12 | 119 => 151 | 0 => 0 | 46 => 68 | 139 => 154 | 138 => 153 | 53 => 22 | n => n, fun | 3 => 0 | 4 => 1 | n => n⟩
theorem Tryz.lays196 : Go.Proofs.Lays.n196 Tryz.prog Tryz.lays196_ren := {
  mixed := by kernel_rfl
  f196 := Tryz.func44.trans (congrArg some (by kernel_rfl))
  f259 := Tryz.func79.trans (congrArg some (by kernel_rfl))
  t0 := Tryz.underlying0
  a0 := Tryz.isAgg0
  z0 := Tryz.sizeOf0
  v0 := Tryz.zeroValue0
  t3 := Tryz.underlying3
  a3 := Tryz.isAgg3
  z3 := Tryz.sizeOf3
  v3 := Tryz.zeroValue3
  t4 := Tryz.underlying4
  a4 := Tryz.isAgg4
  z4 := Tryz.sizeOf4
  v4 := Tryz.zeroValue4
  t5 := Tryz.underlying5
  a5 := Tryz.isAgg5
  z5 := Tryz.sizeOf5
  v5 := Tryz.zeroValue5
  t9 := Tryz.underlying9
  a9 := Tryz.isAgg9
  z9 := Tryz.sizeOf9
  v9 := Tryz.zeroValue9
  t12 := Tryz.underlying12
  a12 := Tryz.isAgg12
  z12 := Tryz.sizeOf12
  v12 := Tryz.zeroValue12
  t46 := Tryz.underlying68
  a46 := Tryz.isAgg68
  z46 := Tryz.sizeOf68
  v46 := Tryz.zeroValue68
  t53 := Tryz.underlying22
  a53 := Tryz.isAgg22
  z53 := Tryz.sizeOf22
  v53 := Tryz.zeroValue22
  t119 := Tryz.underlying151
  a119 := Tryz.isAgg151
  z119 := Tryz.sizeOf151
  t138 := Tryz.underlying153
  a138 := Tryz.isAgg153
  z138 := Tryz.sizeOf153
  v138 := Tryz.zeroValue153
  t139 := Tryz.underlying154
  a139 := Tryz.isAgg154
  z139 := Tryz.sizeOf154
  v139 := Tryz.zeroValue154
  g3 := by kernel_rfl
  g4 := by kernel_rfl }
open Go.RowKit Go.Proofs.Uni Go.Proofs.StrIt
theorem since_of {w w' : World} (h : Below w.heap.size w w') : w.Since w.heap.size w' := ⟨h.os ▸ rfl, h.tape, h.output, h.size, h.block⟩
/-- The library's two tables lie where it reads them. -/
def Tabs (w : World) : Prop := Lib.Utf8Tabs (Tryz.lays196_ren.g 3) (Tryz.lays196_ren.g 4) w
set_option maxHeartbeats 1600000 in
set_option maxRecDepth 1000000 in
theorem isText_says (s : ByteArray) (w : World) (hs : s.size ≤ 100000000) (hT : Tabs w) : Calls Tryz.prog 23 #[.string s] w fun e w' => e = .returned (.bool (isT s)) ∧ w.Since w.heap.size w' := by
  have K : Calls Tryz.prog 44 #[.string s] w _ := Any.utf8_ValidString Tryz.lays196 s w (by omega) hT
  have HK := Lib.hid K
  have HC := Lib.hid (fun wx => containsFunc_says s wx (by omega))
  have HT : Hid (isT s = (decide (cat (runes s.data.toList) = s.data.toList) && !(runes s.data.toList).any ctl)) := Lib.hid rfl
  have hV := valid_iff s.data.toList
  clear K hT
  cases hv : Lib.validD s.data.toList
  · rw [hv] at hV HK
    have HT2 : Hid (isT s = false) := Lib.hid (by rw [HT.out, decide_eq_false (fun h => by have := hV.2 h; cases this)]; rfl)
    rw [HT2.out]
    clear HT HT2 hV hv HC
    go_enter Tryz.func23, Tryz.ntmps23
    go_wp2_with (go_at_call 44; refine HK.out.mono ?_; rintro e w' ⟨rfl, hb⟩)
    go_ret
    exact ⟨rfl, since_of hb⟩
  · rw [hv] at hV HK
    have HT2 : Hid (isT s = !(runes s.data.toList).any ctl) := Lib.hid (by rw [HT.out, decide_eq_true (hV.1 rfl)]; rfl)
    rw [HT2.out]
    clear HT HT2 hV hv
    generalize (runes s.data.toList).any ctl = b at *
    go_enter Tryz.func23, Tryz.ntmps23
    go_wp2_with (first
      | (go_at_call 44; refine HK.out.mono ?_; rintro e w' ⟨rfl, hb⟩; have hb2 := Lib.hid (since_of hb); clear hb)
      | (go_at_call 45; refine (HC.out _).mono ?_; rintro e w2 ⟨rfl, hs2⟩; have hs3 := Lib.hid (since_two hb2.out hs2); clear hs2))
    go_ret
    exact ⟨rfl, hs3.out⟩
end Go.Proofs.YtkklagdniaoghaaGreatDoor
