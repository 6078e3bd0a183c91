/- The kernel runs parts of the closed run. -/
import Derived.KernelRfl
import Derived.Test.YthbdlnflmfchjaaGreatDoorY0
namespace Go.Proofs.YthbdlnflmfchjaaGreatDoor
open Go Go.Proofs.Eng
set_option maxRecDepth 100000 in
set_option maxHeartbeats 0 in
theorem r16:memoRun Tryz.prog C0 8 1000 ms16 60 m16=true:=by kernel_rfl
set_option maxRecDepth 100000 in
set_option maxHeartbeats 0 in
theorem r17:memoRun Tryz.prog C0 8 1000 ms17 60 m17=true:=by kernel_rfl
set_option maxRecDepth 100000 in
set_option maxHeartbeats 0 in
theorem r18:memoRun Tryz.prog C0 8 1000 ms18 60 m18=true:=by kernel_rfl
set_option maxRecDepth 100000 in
set_option maxHeartbeats 0 in
theorem r19:memoRun Tryz.prog C0 8 1000 ms19 60 m19=true:=by kernel_rfl
end Go.Proofs.YthbdlnflmfchjaaGreatDoor
