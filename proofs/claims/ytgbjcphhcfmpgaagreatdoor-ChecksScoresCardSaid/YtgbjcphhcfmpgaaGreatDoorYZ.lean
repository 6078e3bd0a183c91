/- The parts of the closed run, joined. -/
import Derived.Test.YtgbjcphhcfmpgaaGreatDoorY1
import Derived.Test.YtgbjcphhcfmpgaaGreatDoorY2
import Derived.Test.YtgbjcphhcfmpgaaGreatDoorY3
import Derived.Test.YtgbjcphhcfmpgaaGreatDoorY4
import Derived.Test.YtgbjcphhcfmpgaaGreatDoorY5
import Derived.Test.YtgbjcphhcfmpgaaGreatDoorY6
import Derived.Test.YtgbjcphhcfmpgaaGreatDoorY7
import Derived.Test.YtgbjcphhcfmpgaaGreatDoorY8
import Derived.Test.YtgbjcphhcfmpgaaGreatDoorY9
import Derived.Test.YtgbjcphhcfmpgaaGreatDoorY10
import Derived.Test.YtgbjcphhcfmpgaaGreatDoorY11
import Derived.Test.YtgbjcphhcfmpgaaGreatDoorY12
import Derived.Test.YtgbjcphhcfmpgaaGreatDoorY13
import Derived.Test.YtgbjcphhcfmpgaaGreatDoorY14
import Derived.Test.YtgbjcphhcfmpgaaGreatDoorY15
import Derived.KernelRfl
namespace Go.Proofs.YtgbjcphhcfmpgaaGreatDoor
open Go Go.Proofs.Eng
theorem cfgOk : CfgOk Tryz.prog C0 := by
  refine ⟨fun f k h => ?_⟩
  unfold C0 at h
  dsimp only at h
  by_cases e180 : f = 180
  · subst e180
    cases h
    exact ⟨_, Tryz.func180, by kernel_rfl, by kernel_rfl, by kernel_rfl, by kernel_rfl⟩
  rw [if_neg e180] at h
  by_cases e221 : f = 221
  · subst e221
    cases h
    exact ⟨_, Tryz.func221, by kernel_rfl, by kernel_rfl, by kernel_rfl, by kernel_rfl⟩
  rw [if_neg e221] at h
  by_cases e243 : f = 243
  · subst e243
    cases h
    exact ⟨_, Tryz.func243, by kernel_rfl, by kernel_rfl, by kernel_rfl, by kernel_rfl⟩
  rw [if_neg e243] at h
  by_cases e256 : f = 256
  · subst e256
    cases h
    exact ⟨_, Tryz.func256, by kernel_rfl, by kernel_rfl, by kernel_rfl, by kernel_rfl⟩
  rw [if_neg e256] at h
  by_cases e257 : f = 257
  · subst e257
    cases h
    exact ⟨_, Tryz.func257, by kernel_rfl, by kernel_rfl, by kernel_rfl, by kernel_rfl⟩
  rw [if_neg e257] at h
  by_cases e258 : f = 258
  · subst e258
    cases h
    exact ⟨_, Tryz.func258, by kernel_rfl, by kernel_rfl, by kernel_rfl, by kernel_rfl⟩
  rw [if_neg e258] at h
  by_cases e259 : f = 259
  · subst e259
    cases h
    exact ⟨_, Tryz.func259, by kernel_rfl, by kernel_rfl, by kernel_rfl, by kernel_rfl⟩
  rw [if_neg e259] at h
  by_cases e261 : f = 261
  · subst e261
    cases h
    exact ⟨_, Tryz.func261, by kernel_rfl, by kernel_rfl, by kernel_rfl, by kernel_rfl⟩
  rw [if_neg e261] at h
  by_cases e262 : f = 262
  · subst e262
    cases h
    exact ⟨_, Tryz.func262, by kernel_rfl, by kernel_rfl, by kernel_rfl, by kernel_rfl⟩
  rw [if_neg e262] at h
  cases h
theorem progOk : ProgOk Tryz.prog C0 := ⟨cfgOk⟩
theorem mixed : Tryz.prog.follows .mixedOrders = true := by kernel_rfl
theorem oks0 : ∀ m ∈ ms0, m.fits = true ∧ MemoOk Tryz.prog 8 m := fun m h => by cases h
theorem oks1 : ∀ m ∈ ms1, m.fits = true ∧ MemoOk Tryz.prog 8 m := fun m h => by
  rcases List.mem_cons.1 h with e | h
  · rw [e]; exact memo_ok progOk mixed oks0 r0
  · exact oks0 m h
theorem oks2 : ∀ m ∈ ms2, m.fits = true ∧ MemoOk Tryz.prog 8 m := fun m h => by
  rcases List.mem_cons.1 h with e | h
  · rw [e]; exact memo_ok progOk mixed oks1 r1
  · exact oks1 m h
theorem oks3 : ∀ m ∈ ms3, m.fits = true ∧ MemoOk Tryz.prog 8 m := fun m h => by
  rcases List.mem_cons.1 h with e | h
  · rw [e]; exact memo_ok progOk mixed oks2 r2
  · exact oks2 m h
theorem oks4 : ∀ m ∈ ms4, m.fits = true ∧ MemoOk Tryz.prog 8 m := fun m h => by
  rcases List.mem_cons.1 h with e | h
  · rw [e]; exact memo_ok progOk mixed oks3 r3
  · exact oks3 m h
theorem oks5 : ∀ m ∈ ms5, m.fits = true ∧ MemoOk Tryz.prog 8 m := fun m h => by
  rcases List.mem_cons.1 h with e | h
  · rw [e]; exact memo_ok progOk mixed oks4 r4
  · exact oks4 m h
theorem oks6 : ∀ m ∈ ms6, m.fits = true ∧ MemoOk Tryz.prog 8 m := fun m h => by
  rcases List.mem_cons.1 h with e | h
  · rw [e]; exact memo_ok progOk mixed oks5 r5
  · exact oks5 m h
theorem oks7 : ∀ m ∈ ms7, m.fits = true ∧ MemoOk Tryz.prog 8 m := fun m h => by
  rcases List.mem_cons.1 h with e | h
  · rw [e]; exact memo_ok progOk mixed oks6 r6
  · exact oks6 m h
theorem oks8 : ∀ m ∈ ms8, m.fits = true ∧ MemoOk Tryz.prog 8 m := fun m h => by
  rcases List.mem_cons.1 h with e | h
  · rw [e]; exact memo_ok progOk mixed oks7 r7
  · exact oks7 m h
theorem oks9 : ∀ m ∈ ms9, m.fits = true ∧ MemoOk Tryz.prog 8 m := fun m h => by
  rcases List.mem_cons.1 h with e | h
  · rw [e]; exact memo_ok progOk mixed oks8 r8
  · exact oks8 m h
theorem oks10 : ∀ m ∈ ms10, m.fits = true ∧ MemoOk Tryz.prog 8 m := fun m h => by
  rcases List.mem_cons.1 h with e | h
  · rw [e]; exact memo_ok progOk mixed oks9 r9
  · exact oks9 m h
theorem oks11 : ∀ m ∈ ms11, m.fits = true ∧ MemoOk Tryz.prog 8 m := fun m h => by
  rcases List.mem_cons.1 h with e | h
  · rw [e]; exact memo_ok progOk mixed oks10 r10
  · exact oks10 m h
theorem oks12 : ∀ m ∈ ms12, m.fits = true ∧ MemoOk Tryz.prog 8 m := fun m h => by
  rcases List.mem_cons.1 h with e | h
  · rw [e]; exact memo_ok progOk mixed oks11 r11
  · exact oks11 m h
theorem oks13 : ∀ m ∈ ms13, m.fits = true ∧ MemoOk Tryz.prog 8 m := fun m h => by
  rcases List.mem_cons.1 h with e | h
  · rw [e]; exact memo_ok progOk mixed oks12 r12
  · exact oks12 m h
theorem oks14 : ∀ m ∈ ms14, m.fits = true ∧ MemoOk Tryz.prog 8 m := fun m h => by
  rcases List.mem_cons.1 h with e | h
  · rw [e]; exact memo_ok progOk mixed oks13 r13
  · exact oks13 m h
theorem oks15 : ∀ m ∈ ms15, m.fits = true ∧ MemoOk Tryz.prog 8 m := fun m h => by
  rcases List.mem_cons.1 h with e | h
  · rw [e]; exact memo_ok progOk mixed oks14 r14
  · exact oks14 m h
theorem oks16 : ∀ m ∈ ms16, m.fits = true ∧ MemoOk Tryz.prog 8 m := fun m h => by
  rcases List.mem_cons.1 h with e | h
  · rw [e]; exact memo_ok progOk mixed oks15 r15
  · exact oks15 m h
theorem oks17 : ∀ m ∈ ms17, m.fits = true ∧ MemoOk Tryz.prog 8 m := fun m h => by
  rcases List.mem_cons.1 h with e | h
  · rw [e]; exact memo_ok progOk mixed oks16 r16
  · exact oks16 m h
theorem oks18 : ∀ m ∈ ms18, m.fits = true ∧ MemoOk Tryz.prog 8 m := fun m h => by
  rcases List.mem_cons.1 h with e | h
  · rw [e]; exact memo_ok progOk mixed oks17 r17
  · exact oks17 m h
theorem oks19 : ∀ m ∈ ms19, m.fits = true ∧ MemoOk Tryz.prog 8 m := fun m h => by
  rcases List.mem_cons.1 h with e | h
  · rw [e]; exact memo_ok progOk mixed oks18 r18
  · exact oks18 m h
theorem oks20 : ∀ m ∈ ms20, m.fits = true ∧ MemoOk Tryz.prog 8 m := fun m h => by
  rcases List.mem_cons.1 h with e | h
  · rw [e]; exact memo_ok progOk mixed oks19 r19
  · exact oks19 m h
theorem oks21 : ∀ m ∈ ms21, m.fits = true ∧ MemoOk Tryz.prog 8 m := fun m h => by
  rcases List.mem_cons.1 h with e | h
  · rw [e]; exact memo_ok progOk mixed oks20 r20
  · exact oks20 m h
theorem oks22 : ∀ m ∈ ms22, m.fits = true ∧ MemoOk Tryz.prog 8 m := fun m h => by
  rcases List.mem_cons.1 h with e | h
  · rw [e]; exact memo_ok progOk mixed oks21 r21
  · exact oks21 m h
theorem oks23 : ∀ m ∈ ms23, m.fits = true ∧ MemoOk Tryz.prog 8 m := fun m h => by
  rcases List.mem_cons.1 h with e | h
  · rw [e]; exact memo_ok progOk mixed oks22 r22
  · exact oks22 m h
theorem oks24 : ∀ m ∈ ms24, m.fits = true ∧ MemoOk Tryz.prog 8 m := fun m h => by
  rcases List.mem_cons.1 h with e | h
  · rw [e]; exact memo_ok progOk mixed oks23 r23
  · exact oks23 m h
theorem oks25 : ∀ m ∈ ms25, m.fits = true ∧ MemoOk Tryz.prog 8 m := fun m h => by
  rcases List.mem_cons.1 h with e | h
  · rw [e]; exact memo_ok progOk mixed oks24 r24
  · exact oks24 m h
theorem oks26 : ∀ m ∈ ms26, m.fits = true ∧ MemoOk Tryz.prog 8 m := fun m h => by
  rcases List.mem_cons.1 h with e | h
  · rw [e]; exact memo_ok progOk mixed oks25 r25
  · exact oks25 m h
theorem oks27 : ∀ m ∈ ms27, m.fits = true ∧ MemoOk Tryz.prog 8 m := fun m h => by
  rcases List.mem_cons.1 h with e | h
  · rw [e]; exact memo_ok progOk mixed oks26 r26
  · exact oks26 m h
theorem oks28 : ∀ m ∈ ms28, m.fits = true ∧ MemoOk Tryz.prog 8 m := fun m h => by
  rcases List.mem_cons.1 h with e | h
  · rw [e]; exact memo_ok progOk mixed oks27 r27
  · exact oks27 m h
theorem oks29 : ∀ m ∈ ms29, m.fits = true ∧ MemoOk Tryz.prog 8 m := fun m h => by
  rcases List.mem_cons.1 h with e | h
  · rw [e]; exact memo_ok progOk mixed oks28 r28
  · exact oks28 m h
theorem oks30 : ∀ m ∈ ms30, m.fits = true ∧ MemoOk Tryz.prog 8 m := fun m h => by
  rcases List.mem_cons.1 h with e | h
  · rw [e]; exact memo_ok progOk mixed oks29 r29
  · exact oks29 m h
theorem oks31 : ∀ m ∈ ms31, m.fits = true ∧ MemoOk Tryz.prog 8 m := fun m h => by
  rcases List.mem_cons.1 h with e | h
  · rw [e]; exact memo_ok progOk mixed oks30 r30
  · exact oks30 m h
theorem oks32 : ∀ m ∈ ms32, m.fits = true ∧ MemoOk Tryz.prog 8 m := fun m h => by
  rcases List.mem_cons.1 h with e | h
  · rw [e]; exact memo_ok progOk mixed oks31 r31
  · exact oks31 m h
theorem oks33 : ∀ m ∈ ms33, m.fits = true ∧ MemoOk Tryz.prog 8 m := fun m h => by
  rcases List.mem_cons.1 h with e | h
  · rw [e]; exact memo_ok progOk mixed oks32 r32
  · exact oks32 m h
theorem oks34 : ∀ m ∈ ms34, m.fits = true ∧ MemoOk Tryz.prog 8 m := fun m h => by
  rcases List.mem_cons.1 h with e | h
  · rw [e]; exact memo_ok progOk mixed oks33 r33
  · exact oks33 m h
theorem oks35 : ∀ m ∈ ms35, m.fits = true ∧ MemoOk Tryz.prog 8 m := fun m h => by
  rcases List.mem_cons.1 h with e | h
  · rw [e]; exact memo_ok progOk mixed oks34 r34
  · exact oks34 m h
theorem oks36 : ∀ m ∈ ms36, m.fits = true ∧ MemoOk Tryz.prog 8 m := fun m h => by
  rcases List.mem_cons.1 h with e | h
  · rw [e]; exact memo_ok progOk mixed oks35 r35
  · exact oks35 m h
theorem oks37 : ∀ m ∈ ms37, m.fits = true ∧ MemoOk Tryz.prog 8 m := fun m h => by
  rcases List.mem_cons.1 h with e | h
  · rw [e]; exact memo_ok progOk mixed oks36 r36
  · exact oks36 m h
theorem oks38 : ∀ m ∈ ms38, m.fits = true ∧ MemoOk Tryz.prog 8 m := fun m h => by
  rcases List.mem_cons.1 h with e | h
  · rw [e]; exact memo_ok progOk mixed oks37 r37
  · exact oks37 m h
theorem oks39 : ∀ m ∈ ms39, m.fits = true ∧ MemoOk Tryz.prog 8 m := fun m h => by
  rcases List.mem_cons.1 h with e | h
  · rw [e]; exact memo_ok progOk mixed oks38 r38
  · exact oks38 m h
theorem oks40 : ∀ m ∈ ms40, m.fits = true ∧ MemoOk Tryz.prog 8 m := fun m h => by
  rcases List.mem_cons.1 h with e | h
  · rw [e]; exact memo_ok progOk mixed oks39 r39
  · exact oks39 m h
theorem oks41 : ∀ m ∈ ms41, m.fits = true ∧ MemoOk Tryz.prog 8 m := fun m h => by
  rcases List.mem_cons.1 h with e | h
  · rw [e]; exact memo_ok progOk mixed oks40 r40
  · exact oks40 m h
theorem oks42 : ∀ m ∈ ms42, m.fits = true ∧ MemoOk Tryz.prog 8 m := fun m h => by
  rcases List.mem_cons.1 h with e | h
  · rw [e]; exact memo_ok progOk mixed oks41 r41
  · exact oks41 m h
theorem oks43 : ∀ m ∈ ms43, m.fits = true ∧ MemoOk Tryz.prog 8 m := fun m h => by
  rcases List.mem_cons.1 h with e | h
  · rw [e]; exact memo_ok progOk mixed oks42 r42
  · exact oks42 m h
theorem oks44 : ∀ m ∈ ms44, m.fits = true ∧ MemoOk Tryz.prog 8 m := fun m h => by
  rcases List.mem_cons.1 h with e | h
  · rw [e]; exact memo_ok progOk mixed oks43 r43
  · exact oks43 m h
theorem oks45 : ∀ m ∈ ms45, m.fits = true ∧ MemoOk Tryz.prog 8 m := fun m h => by
  rcases List.mem_cons.1 h with e | h
  · rw [e]; exact memo_ok progOk mixed oks44 r44
  · exact oks44 m h
theorem oks46 : ∀ m ∈ ms46, m.fits = true ∧ MemoOk Tryz.prog 8 m := fun m h => by
  rcases List.mem_cons.1 h with e | h
  · rw [e]; exact memo_ok progOk mixed oks45 r45
  · exact oks45 m h
theorem oks47 : ∀ m ∈ ms47, m.fits = true ∧ MemoOk Tryz.prog 8 m := fun m h => by
  rcases List.mem_cons.1 h with e | h
  · rw [e]; exact memo_ok progOk mixed oks46 r46
  · exact oks46 m h
theorem oks48 : ∀ m ∈ ms48, m.fits = true ∧ MemoOk Tryz.prog 8 m := fun m h => by
  rcases List.mem_cons.1 h with e | h
  · rw [e]; exact memo_ok progOk mixed oks47 r47
  · exact oks47 m h
theorem oks49 : ∀ m ∈ ms49, m.fits = true ∧ MemoOk Tryz.prog 8 m := fun m h => by
  rcases List.mem_cons.1 h with e | h
  · rw [e]; exact memo_ok progOk mixed oks48 r48
  · exact oks48 m h
end Go.Proofs.YtgbjcphhcfmpgaaGreatDoor
