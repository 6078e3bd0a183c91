/- The kernel runs parts of the closed run. -/
import Derived.KernelRfl
import Derived.Test.YthbdlnflmfchjaaGreatDoorY0
namespace Go.Proofs.YthbdlnflmfchjaaGreatDoor
open Go Go.Proofs.Eng
set_option maxRecDepth 100000 in
set_option maxHeartbeats 0 in
theorem r24:memoRun Tryz.prog C0 8 1000 ms24 60 m24=true:=by kernel_rfl
set_option maxRecDepth 100000 in
set_option maxHeartbeats 0 in
theorem r25:memoRun Tryz.prog C0 8 1000 ms25 60 m25=true:=by kernel_rfl
end Go.Proofs.YthbdlnflmfchjaaGreatDoor
