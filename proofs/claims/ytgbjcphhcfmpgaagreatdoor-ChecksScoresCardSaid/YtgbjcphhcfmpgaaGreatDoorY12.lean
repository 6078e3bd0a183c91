/- The kernel runs parts of the closed run. -/
import Derived.Test.YtgbjcphhcfmpgaaGreatDoorY0
import Derived.KernelRfl
namespace Go.Proofs.YtgbjcphhcfmpgaaGreatDoor
open Go Go.Proofs.Eng
set_option maxRecDepth 100000 in
set_option maxHeartbeats 0 in
theorem r31 : memoRun Tryz.prog C0 8 1000 ms31 60 m31 = true := by kernel_rfl
set_option maxRecDepth 100000 in
set_option maxHeartbeats 0 in
theorem r32 : memoRun Tryz.prog C0 8 1000 ms32 60 m32 = true := by kernel_rfl
set_option maxRecDepth 100000 in
set_option maxHeartbeats 0 in
theorem r33 : memoRun Tryz.prog C0 8 1000 ms33 60 m33 = true := by kernel_rfl
set_option maxRecDepth 100000 in
set_option maxHeartbeats 0 in
theorem r34 : memoRun Tryz.prog C0 8 1000 ms34 60 m34 = true := by kernel_rfl
set_option maxRecDepth 100000 in
set_option maxHeartbeats 0 in
theorem r35 : memoRun Tryz.prog C0 8 1000 ms35 60 m35 = true := by kernel_rfl
end Go.Proofs.YtgbjcphhcfmpgaaGreatDoor
