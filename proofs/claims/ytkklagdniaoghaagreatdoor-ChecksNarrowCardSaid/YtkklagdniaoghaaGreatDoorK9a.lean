/- The two little functions under breakPatterns: their contracts, laid. -/
import Derived.Test.YtkklagdniaoghaaGreatDoorK2
import Derived.Shelf.SlSortCmp.Xorshift
namespace Go.Proofs.YtkklagdniaoghaaGreatDoor
open Go Go.Shelf

def Tryz.laysXor_ren : Go.Shelf.Ren := ⟨fun | 48 => 149 | n => n, fun | 76 => 252 | 55 => 22 | 0 => 0 | 66 => 213 | 39 => 68 | n => n, fun | n => n⟩
theorem Tryz.laysXor : Go.Proofs.SlLaysF0.n48 Tryz.prog Tryz.laysXor_ren := {
  mixed := by kernel_rfl
  f48 := Tryz.func149.trans (congrArg some (by kernel_rfl))
  t0 := Tryz.underlying0
  a0 := Tryz.isAgg0
  z0 := Tryz.sizeOf0
  v0 := Tryz.zeroValue0
  t39 := Tryz.underlying68
  a39 := Tryz.isAgg68
  z39 := Tryz.sizeOf68
  v39 := Tryz.zeroValue68
  t55 := Tryz.underlying22
  a55 := Tryz.isAgg22
  z55 := Tryz.sizeOf22
  v55 := Tryz.zeroValue22
  t66 := Tryz.underlying213
  a66 := Tryz.isAgg213
  z66 := Tryz.sizeOf213
  v66 := Tryz.zeroValue213
  t76 := Tryz.underlying252
  a76 := Tryz.isAgg252
  z76 := Tryz.sizeOf252
  v76 := Tryz.zeroValue252 }
def Tryz.laysPow_ren : Go.Shelf.Ren := ⟨fun | 47 => 148 | 15 => 56 | 28 => 91 | 29 => 92 | n => n, fun | 3 => 3 | 39 => 68 | 53 => 167 | 55 => 22 | 4 => 4 | 5 => 5 | 9 => 9 | n => n, fun | n => n⟩
theorem Tryz.laysPow : Go.Proofs.SlLaysF0.n47 Tryz.prog Tryz.laysPow_ren := {
  mixed := by kernel_rfl
  f15 := Tryz.func56.trans (congrArg some (by kernel_rfl))
  f28 := Tryz.func91.trans (congrArg some (by kernel_rfl))
  f29 := Tryz.func92.trans (congrArg some (by kernel_rfl))
  f47 := Tryz.func148.trans (congrArg some (by kernel_rfl))
  t3 := Tryz.underlying3
  a3 := Tryz.isAgg3
  z3 := Tryz.sizeOf3
  v3 := Tryz.zeroValue3
  t4 := Tryz.underlying4
  a4 := Tryz.isAgg4
  z4 := Tryz.sizeOf4
  v4 := Tryz.zeroValue4
  t5 := Tryz.underlying5
  a5 := Tryz.isAgg5
  z5 := Tryz.sizeOf5
  v5 := Tryz.zeroValue5
  t9 := Tryz.underlying9
  a9 := Tryz.isAgg9
  z9 := Tryz.sizeOf9
  v9 := Tryz.zeroValue9
  t39 := Tryz.underlying68
  a39 := Tryz.isAgg68
  z39 := Tryz.sizeOf68
  v39 := Tryz.zeroValue68
  t53 := Tryz.underlying167
  a53 := Tryz.isAgg167
  z53 := Tryz.sizeOf167
  v53 := Tryz.zeroValue167
  t55 := Tryz.underlying22
  a55 := Tryz.isAgg22
  z55 := Tryz.sizeOf22
  v55 := Tryz.zeroValue22 }


end Go.Proofs.YtkklagdniaoghaaGreatDoor
