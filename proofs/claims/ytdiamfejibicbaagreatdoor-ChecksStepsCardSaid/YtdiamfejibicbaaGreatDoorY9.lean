/- The kernel runs parts of the closed run. -/
import Derived.Test.YtdiamfejibicbaaGreatDoorY0
import Derived.KernelRfl
namespace Go.Proofs.YtdiamfejibicbaaGreatDoor
open Go Go.Proofs.Eng
set_option maxRecDepth 100000 in
set_option maxHeartbeats 0 in
theorem r28 : memoRun Tryz.prog C0 8 1000 ms28 60 m28 = true := by kernel_rfl
set_option maxRecDepth 100000 in
set_option maxHeartbeats 0 in
theorem r29 : memoRun Tryz.prog C0 8 1000 ms29 60 m29 = true := by kernel_rfl
set_option maxRecDepth 100000 in
set_option maxHeartbeats 0 in
theorem r30 : memoRun Tryz.prog C0 8 1000 ms30 60 m30 = true := by kernel_rfl
set_option maxRecDepth 100000 in
set_option maxHeartbeats 0 in
theorem r31 : memoRun Tryz.prog C0 8 1000 ms31 60 m31 = true := by kernel_rfl
set_option maxRecDepth 100000 in
set_option maxHeartbeats 0 in
theorem r32 : memoRun Tryz.prog C0 8 1000 ms32 60 m32 = true := by kernel_rfl
set_option maxRecDepth 100000 in
set_option maxHeartbeats 0 in
theorem r33 : memoRun Tryz.prog C0 8 1000 ms33 60 m33 = true := by kernel_rfl
set_option maxRecDepth 100000 in
set_option maxHeartbeats 0 in
theorem r34 : memoRun Tryz.prog C0 8 1000 ms34 60 m34 = true := by kernel_rfl
end Go.Proofs.YtdiamfejibicbaaGreatDoor
