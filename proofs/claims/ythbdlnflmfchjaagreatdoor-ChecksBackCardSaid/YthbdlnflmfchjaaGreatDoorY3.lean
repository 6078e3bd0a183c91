/- The kernel runs parts of the closed run. -/
import Derived.KernelRfl
import Derived.Test.YthbdlnflmfchjaaGreatDoorY0
namespace Go.Proofs.YthbdlnflmfchjaaGreatDoor
open Go Go.Proofs.Eng
set_option maxRecDepth 100000 in
set_option maxHeartbeats 0 in
theorem r4:memoRun Tryz.prog C0 8 1000 ms4 60 m4=true:=by kernel_rfl
set_option maxRecDepth 100000 in
set_option maxHeartbeats 0 in
theorem r5:memoRun Tryz.prog C0 8 1000 ms5 60 m5=true:=by kernel_rfl
set_option maxRecDepth 100000 in
set_option maxHeartbeats 0 in
theorem r6:memoRun Tryz.prog C0 8 1000 ms6 60 m6=true:=by kernel_rfl
set_option maxRecDepth 100000 in
set_option maxHeartbeats 0 in
theorem r7:memoRun Tryz.prog C0 8 1000 ms7 60 m7=true:=by kernel_rfl
end Go.Proofs.YthbdlnflmfchjaaGreatDoor
