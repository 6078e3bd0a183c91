/- The kernel runs parts of the closed run. -/
import Derived.KernelRfl
import Derived.Test.YthbdlnflmfchjaaGreatDoorY0
namespace Go.Proofs.YthbdlnflmfchjaaGreatDoor
open Go Go.Proofs.Eng
set_option maxRecDepth 100000 in
set_option maxHeartbeats 0 in
theorem r20:memoRun Tryz.prog C0 8 1000 ms20 60 m20=true:=by kernel_rfl
set_option maxRecDepth 100000 in
set_option maxHeartbeats 0 in
theorem r21:memoRun Tryz.prog C0 8 1000 ms21 60 m21=true:=by kernel_rfl
end Go.Proofs.YthbdlnflmfchjaaGreatDoor
