/- The kernel runs parts of the closed run. -/
import Derived.Test.YthbdlnflmfchjaaGreatDoorY0
namespace Go.Proofs.YthbdlnflmfchjaaGreatDoor
open Go Go.Proofs.Eng
set_option maxRecDepth 100000 in
set_option maxHeartbeats 0 in
theorem r0:b_ Tryz.prog C0 8 1000 Qi 60 m0=true:=by kernel_rfl
