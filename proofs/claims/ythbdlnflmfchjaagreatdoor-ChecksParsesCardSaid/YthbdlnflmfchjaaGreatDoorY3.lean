/- The kernel runs parts of the closed run. -/
import Derived.Test.YthbdlnflmfchjaaGreatDoorY0
namespace Go.Proofs.YthbdlnflmfchjaaGreatDoor
open Go Go.Proofs.Eng
set_option maxRecDepth 100000 in
set_option maxHeartbeats 0 in
theorem r4:b_ Tryz.prog C0 8 1000 Qm 60 m4=true:=by kernel_rfl
set_option maxRecDepth 100000 in
set_option maxHeartbeats 0 in
theorem r5:b_ Tryz.prog C0 8 1000 Qn 60 m5=true:=by kernel_rfl
set_option maxRecDepth 100000 in
set_option maxHeartbeats 0 in
theorem r6:b_ Tryz.prog C0 8 1000 Qo 60 m6=true:=by kernel_rfl
set_option maxRecDepth 100000 in
set_option maxHeartbeats 0 in
theorem r7:b_ Tryz.prog C0 8 1000 Qp 60 m7=true:=by kernel_rfl
