/- The kernel runs parts of the closed run. -/
import Derived.Test.YtgbjcphhcfmpgaaGreatDoorY0
import Derived.KernelRfl
namespace Go.Proofs.YtgbjcphhcfmpgaaGreatDoor
open Go Go.Proofs.Eng
set_option maxRecDepth 100000 in
set_option maxHeartbeats 0 in
theorem r27 : memoRun Tryz.prog C0 8 1000 ms27 60 m27 = true := by kernel_rfl
set_option maxRecDepth 100000 in
set_option maxHeartbeats 0 in
theorem r28 : memoRun Tryz.prog C0 8 1000 ms28 60 m28 = true := by kernel_rfl
set_option maxRecDepth 100000 in
set_option maxHeartbeats 0 in
theorem r29 : memoRun Tryz.prog C0 8 1000 ms29 60 m29 = true := by kernel_rfl
set_option maxRecDepth 100000 in
set_option maxHeartbeats 0 in
theorem r30 : memoRun Tryz.prog C0 8 1000 ms30 60 m30 = true := by kernel_rfl
end Go.Proofs.YtgbjcphhcfmpgaaGreatDoor
