/- The kernel runs parts of the closed run. -/
import Derived.Test.YtgbjcphhcfmpgaaGreatDoorY0
import Derived.KernelRfl
namespace Go.Proofs.YtgbjcphhcfmpgaaGreatDoor
open Go Go.Proofs.Eng
set_option maxRecDepth 100000 in
set_option maxHeartbeats 0 in
theorem r43 : memoRun Tryz.prog C0 8 1000 ms43 60 m43 = true := by kernel_rfl
set_option maxRecDepth 100000 in
set_option maxHeartbeats 0 in
theorem r44 : memoRun Tryz.prog C0 8 1000 ms44 60 m44 = true := by kernel_rfl
set_option maxRecDepth 100000 in
set_option maxHeartbeats 0 in
theorem r45 : memoRun Tryz.prog C0 8 1000 ms45 60 m45 = true := by kernel_rfl
set_option maxRecDepth 100000 in
set_option maxHeartbeats 0 in
theorem r46 : memoRun Tryz.prog C0 8 1000 ms46 60 m46 = true := by kernel_rfl
set_option maxRecDepth 100000 in
set_option maxHeartbeats 0 in
theorem r47 : memoRun Tryz.prog C0 8 1000 ms47 60 m47 = true := by kernel_rfl
set_option maxRecDepth 100000 in
set_option maxHeartbeats 0 in
theorem r48 : memoRun Tryz.prog C0 8 1000 ms48 60 m48 = true := by kernel_rfl
end Go.Proofs.YtgbjcphhcfmpgaaGreatDoor
