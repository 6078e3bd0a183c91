/- The kernel runs parts of the closed run. -/
import Derived.KernelRfl
import Derived.Test.YthbdlnflmfchjaaGreatDoorY0
namespace Go.Proofs.YthbdlnflmfchjaaGreatDoor
open Go Go.Proofs.Eng
set_option maxRecDepth 100000 in
set_option maxHeartbeats 0 in
theorem r1:memoRun Tryz.prog C0 8 1000 ms1 60 m1=true:=by kernel_rfl
set_option maxRecDepth 100000 in
set_option maxHeartbeats 0 in
theorem r2:memoRun Tryz.prog C0 8 1000 ms2 60 m2=true:=by kernel_rfl
set_option maxRecDepth 100000 in
set_option maxHeartbeats 0 in
theorem r3:memoRun Tryz.prog C0 8 1000 ms3 60 m3=true:=by kernel_rfl
end Go.Proofs.YthbdlnflmfchjaaGreatDoor
