/- The kernel runs parts of the closed run. -/
import Derived.Test.YtgbjcphhcfmpgaaGreatDoorY0
import Derived.KernelRfl
namespace Go.Proofs.YtgbjcphhcfmpgaaGreatDoor
open Go Go.Proofs.Eng
set_option maxRecDepth 100000 in
set_option maxHeartbeats 0 in
theorem r7 : memoRun Tryz.prog C0 8 1000 ms7 60 m7 = true := by kernel_rfl
set_option maxRecDepth 100000 in
set_option maxHeartbeats 0 in
theorem r8 : memoRun Tryz.prog C0 8 1000 ms8 60 m8 = true := by kernel_rfl
set_option maxRecDepth 100000 in
set_option maxHeartbeats 0 in
theorem r9 : memoRun Tryz.prog C0 8 1000 ms9 60 m9 = true := by kernel_rfl
set_option maxRecDepth 100000 in
set_option maxHeartbeats 0 in
theorem r10 : memoRun Tryz.prog C0 8 1000 ms10 60 m10 = true := by kernel_rfl
end Go.Proofs.YtgbjcphhcfmpgaaGreatDoor
