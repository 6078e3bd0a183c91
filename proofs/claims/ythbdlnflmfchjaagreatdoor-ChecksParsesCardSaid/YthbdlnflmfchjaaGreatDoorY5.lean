/- The kernel runs parts of the closed run. -/
import Derived.Test.YthbdlnflmfchjaaGreatDoorY0
namespace Go.Proofs.YthbdlnflmfchjaaGreatDoor
open Go Go.Proofs.Eng
set_option maxRecDepth 100000 in
set_option maxHeartbeats 0 in
theorem Qv:b_ Tryz.prog C0 8 1000 NP 60 QJ=true:=by kernel_rfl
set_option maxRecDepth 100000 in
set_option maxHeartbeats 0 in
theorem Qw:b_ Tryz.prog C0 8 1000 NQ 60 QK=true:=by kernel_rfl
set_option maxRecDepth 100000 in
set_option maxHeartbeats 0 in
theorem Qx:b_ Tryz.prog C0 8 1000 NR 60 QL=true:=by kernel_rfl
set_option maxRecDepth 100000 in
set_option maxHeartbeats 0 in
theorem Qy:b_ Tryz.prog C0 8 1000 NS 60 Qe=true:=by kernel_rfl
