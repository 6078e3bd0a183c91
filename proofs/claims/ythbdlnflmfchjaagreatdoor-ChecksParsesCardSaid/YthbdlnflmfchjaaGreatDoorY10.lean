/- The kernel runs parts of the closed run. -/
import Derived.Test.YthbdlnflmfchjaaGreatDoorY0
namespace Go.Proofs.YthbdlnflmfchjaaGreatDoor
open Go Go.Proofs.Eng
set_option maxRecDepth 100000 in
set_option maxHeartbeats 0 in
theorem QV:b_ Tryz.prog C0 8 1000 N3 60 QR=true:=by kernel_rfl
set_option maxRecDepth 100000 in
set_option maxHeartbeats 0 in
theorem QW:b_ Tryz.prog C0 8 1000 N7 60 QS=true:=by kernel_rfl
