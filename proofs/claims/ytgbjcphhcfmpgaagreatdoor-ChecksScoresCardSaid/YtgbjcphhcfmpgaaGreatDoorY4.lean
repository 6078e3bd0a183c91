/- The kernel runs parts of the closed run. -/
import Derived.Test.YtgbjcphhcfmpgaaGreatDoorY0
import Derived.KernelRfl
namespace Go.Proofs.YtgbjcphhcfmpgaaGreatDoor
open Go Go.Proofs.Eng
set_option maxRecDepth 100000 in
set_option maxHeartbeats 0 in
theorem r11 : memoRun Tryz.prog C0 8 1000 ms11 60 m11 = true := by kernel_rfl
set_option maxRecDepth 100000 in
set_option maxHeartbeats 0 in
theorem r12 : memoRun Tryz.prog C0 8 1000 ms12 60 m12 = true := by kernel_rfl
end Go.Proofs.YtgbjcphhcfmpgaaGreatDoor
