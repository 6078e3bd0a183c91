/- The kernel runs parts of the closed run. -/
import Derived.Test.YthbdlnflmfchjaaGreatDoorY0
namespace Go.Proofs.YthbdlnflmfchjaaGreatDoor
open Go Go.Proofs.Eng
set_option maxRecDepth 100000 in
set_option maxHeartbeats 0 in
theorem Q1:b_ Tryz.prog C0 8 1000 NT 60 m16=true:=by kernel_rfl
set_option maxRecDepth 100000 in
set_option maxHeartbeats 0 in
theorem Q2:b_ Tryz.prog C0 8 1000 NU 60 m17=true:=by kernel_rfl
set_option maxRecDepth 100000 in
set_option maxHeartbeats 0 in
theorem Q3:b_ Tryz.prog C0 8 1000 NV 60 PT=true:=by kernel_rfl
set_option maxRecDepth 100000 in
set_option maxHeartbeats 0 in
theorem Q4:b_ Tryz.prog C0 8 1000 NW 60 PU=true:=by kernel_rfl
