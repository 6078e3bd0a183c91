/- The kernel runs parts of the closed run. -/
import Derived.KernelRfl
import Derived.Test.YthbdlnflmfchjaaGreatDoorY0
namespace Go.Proofs.YthbdlnflmfchjaaGreatDoor
open Go Go.Proofs.Eng
set_option maxRecDepth 100000 in
set_option maxHeartbeats 0 in
theorem r26:memoRun Tryz.prog C0 8 1000 ms26 60 m26=true:=by kernel_rfl
set_option maxRecDepth 100000 in
set_option maxHeartbeats 0 in
theorem r27:memoRun Tryz.prog C0 8 1000 ms27 60 m27=true:=by kernel_rfl
set_option maxRecDepth 100000 in
set_option maxHeartbeats 0 in
theorem r28:memoRun Tryz.prog C0 8 1000 ms28 60 m28=true:=by kernel_rfl
end Go.Proofs.YthbdlnflmfchjaaGreatDoor
