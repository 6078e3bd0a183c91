/- The kernel runs parts of the closed run. -/
import Derived.KernelRfl
import Derived.Test.YthbdlnflmfchjaaGreatDoorY0
namespace Go.Proofs.YthbdlnflmfchjaaGreatDoor
open Go Go.Proofs.Eng
set_option maxRecDepth 100000 in
set_option maxHeartbeats 0 in
theorem r12:memoRun Tryz.prog C0 8 1000 ms12 60 m12=true:=by kernel_rfl
set_option maxRecDepth 100000 in
set_option maxHeartbeats 0 in
theorem r13:memoRun Tryz.prog C0 8 1000 ms13 60 m13=true:=by kernel_rfl
set_option maxRecDepth 100000 in
set_option maxHeartbeats 0 in
theorem r14:memoRun Tryz.prog C0 8 1000 ms14 60 m14=true:=by kernel_rfl
set_option maxRecDepth 100000 in
set_option maxHeartbeats 0 in
theorem r15:memoRun Tryz.prog C0 8 1000 ms15 60 m15=true:=by kernel_rfl
end Go.Proofs.YthbdlnflmfchjaaGreatDoor
