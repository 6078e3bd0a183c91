/- The kernel runs parts of the closed run. -/
import Derived.Test.YtgbjcphhcfmpgaaGreatDoorY0
import Derived.KernelRfl
namespace Go.Proofs.YtgbjcphhcfmpgaaGreatDoor
open Go Go.Proofs.Eng
set_option maxRecDepth 100000 in
set_option maxHeartbeats 0 in
theorem r37 : memoRun Tryz.prog C0 8 1000 ms37 60 m37 = true := by kernel_rfl
set_option maxRecDepth 100000 in
set_option maxHeartbeats 0 in
theorem r38 : memoRun Tryz.prog C0 8 1000 ms38 60 m38 = true := by kernel_rfl
set_option maxRecDepth 100000 in
set_option maxHeartbeats 0 in
theorem r39 : memoRun Tryz.prog C0 8 1000 ms39 60 m39 = true := by kernel_rfl
set_option maxRecDepth 100000 in
set_option maxHeartbeats 0 in
theorem r40 : memoRun Tryz.prog C0 8 1000 ms40 60 m40 = true := by kernel_rfl
set_option maxRecDepth 100000 in
set_option maxHeartbeats 0 in
theorem r41 : memoRun Tryz.prog C0 8 1000 ms41 60 m41 = true := by kernel_rfl
set_option maxRecDepth 100000 in
set_option maxHeartbeats 0 in
theorem r42 : memoRun Tryz.prog C0 8 1000 ms42 60 m42 = true := by kernel_rfl
end Go.Proofs.YtgbjcphhcfmpgaaGreatDoor
