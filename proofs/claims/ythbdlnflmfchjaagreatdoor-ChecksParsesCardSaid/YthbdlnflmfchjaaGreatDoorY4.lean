/- The kernel runs parts of the closed run. -/
import Derived.Test.YthbdlnflmfchjaaGreatDoorY0
namespace Go.Proofs.YthbdlnflmfchjaaGreatDoor
open Go Go.Proofs.Eng
set_option maxRecDepth 100000 in
set_option maxHeartbeats 0 in
theorem r8:b_ Tryz.prog C0 8 1000 Qq 60 m8=true:=by kernel_rfl
set_option maxRecDepth 100000 in
set_option maxHeartbeats 0 in
theorem r9:b_ Tryz.prog C0 8 1000 Qr 60 m9=true:=by kernel_rfl
set_option maxRecDepth 100000 in
set_option maxHeartbeats 0 in
theorem Qt:b_ Tryz.prog C0 8 1000 NN 60 QH=true:=by kernel_rfl
set_option maxRecDepth 100000 in
set_option maxHeartbeats 0 in
theorem Qu:b_ Tryz.prog C0 8 1000 NO 60 QI=true:=by kernel_rfl
