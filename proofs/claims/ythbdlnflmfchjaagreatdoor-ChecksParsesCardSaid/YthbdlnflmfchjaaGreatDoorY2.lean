/- The kernel runs parts of the closed run. -/
import Derived.Test.YthbdlnflmfchjaaGreatDoorY0
namespace Go.Proofs.YthbdlnflmfchjaaGreatDoor
open Go Go.Proofs.Eng
set_option maxRecDepth 100000 in
set_option maxHeartbeats 0 in
theorem r1:b_ Tryz.prog C0 8 1000 Qj 60 m1=true:=by kernel_rfl
set_option maxRecDepth 100000 in
set_option maxHeartbeats 0 in
theorem r2:b_ Tryz.prog C0 8 1000 Qk 60 m2=true:=by kernel_rfl
set_option maxRecDepth 100000 in
set_option maxHeartbeats 0 in
theorem r3:b_ Tryz.prog C0 8 1000 Ql 60 m3=true:=by kernel_rfl
