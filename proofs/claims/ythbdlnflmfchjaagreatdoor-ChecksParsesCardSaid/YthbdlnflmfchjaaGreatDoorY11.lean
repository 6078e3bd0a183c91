/- The kernel runs parts of the closed run. -/
import Derived.Test.YthbdlnflmfchjaaGreatDoorY0
namespace Go.Proofs.YthbdlnflmfchjaaGreatDoor
open Go Go.Proofs.Eng
set_option maxRecDepth 100000 in
set_option maxHeartbeats 0 in
theorem QX:b_ Tryz.prog C0 8 1000 N8 60 Qh=true:=by kernel_rfl
set_option maxRecDepth 100000 in
set_option maxHeartbeats 0 in
theorem QZ:b_ Tryz.prog C0 8 1000 N9 60 AB=true:=by kernel_rfl
set_option maxRecDepth 100000 in
set_option maxHeartbeats 0 in
theorem Q0:b_ Tryz.prog C0 8 1000 N_ 60 oX=true:=by kernel_rfl
