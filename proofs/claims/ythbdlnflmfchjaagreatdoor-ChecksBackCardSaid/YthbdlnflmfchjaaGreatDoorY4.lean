/- The kernel runs parts of the closed run. -/
import Derived.KernelRfl
import Derived.Test.YthbdlnflmfchjaaGreatDoorY0
namespace Go.Proofs.YthbdlnflmfchjaaGreatDoor
open Go Go.Proofs.Eng
set_option maxRecDepth 100000 in
set_option maxHeartbeats 0 in
theorem r8:memoRun Tryz.prog C0 8 1000 ms8 60 m8=true:=by kernel_rfl
set_option maxRecDepth 100000 in
set_option maxHeartbeats 0 in
theorem r9:memoRun Tryz.prog C0 8 1000 ms9 60 m9=true:=by kernel_rfl
set_option maxRecDepth 100000 in
set_option maxHeartbeats 0 in
theorem r10:memoRun Tryz.prog C0 8 1000 ms10 60 m10=true:=by kernel_rfl
set_option maxRecDepth 100000 in
set_option maxHeartbeats 0 in
theorem r11:memoRun Tryz.prog C0 8 1000 ms11 60 m11=true:=by kernel_rfl
end Go.Proofs.YthbdlnflmfchjaaGreatDoor
