/- The parts of the closed run, joined. -/
import Derived.KernelRfl
import Derived.Test.YthbdlnflmfchjaaGreatDoorY1
import Derived.Test.YthbdlnflmfchjaaGreatDoorY2
import Derived.Test.YthbdlnflmfchjaaGreatDoorY3
import Derived.Test.YthbdlnflmfchjaaGreatDoorY4
import Derived.Test.YthbdlnflmfchjaaGreatDoorY5
import Derived.Test.YthbdlnflmfchjaaGreatDoorY6
import Derived.Test.YthbdlnflmfchjaaGreatDoorY7
import Derived.Test.YthbdlnflmfchjaaGreatDoorY8
import Derived.Test.YthbdlnflmfchjaaGreatDoorY9
import Derived.Test.YthbdlnflmfchjaaGreatDoorY10
import Derived.Test.YthbdlnflmfchjaaGreatDoorY11
namespace Go.Proofs.YthbdlnflmfchjaaGreatDoor
open Go Go.Proofs.Eng
theorem cfgOk:CfgOk Tryz.prog C0:=by
  refine ⟨fun f k h=>?_⟩
  unfold C0 at h
  dsimp only at h
  by_cases e273:f=273
  · subst e273
    cases h
    exact ⟨_,Tryz.func273,by kernel_rfl,by kernel_rfl,by kernel_rfl,by kernel_rfl⟩
  rw [if_neg e273] at h
  by_cases e326:f=326
  · subst e326
    cases h
    exact ⟨_,Tryz.func326,by kernel_rfl,by kernel_rfl,by kernel_rfl,by kernel_rfl⟩
  rw [if_neg e326] at h
  by_cases e350:f=350
  · subst e350
    cases h
    exact ⟨_,Tryz.func350,by kernel_rfl,by kernel_rfl,by kernel_rfl,by kernel_rfl⟩
  rw [if_neg e350] at h
  by_cases e359:f=359
  · subst e359
    cases h
    exact ⟨_,Tryz.func359,by kernel_rfl,by kernel_rfl,by kernel_rfl,by kernel_rfl⟩
  rw [if_neg e359] at h
  by_cases e360:f=360
  · subst e360
    cases h
    exact ⟨_,Tryz.func360,by kernel_rfl,by kernel_rfl,by kernel_rfl,by kernel_rfl⟩
  rw [if_neg e360] at h
  by_cases e361:f=361
  · subst e361
    cases h
    exact ⟨_,Tryz.func361,by kernel_rfl,by kernel_rfl,by kernel_rfl,by kernel_rfl⟩
  rw [if_neg e361] at h
  by_cases e362:f=362
  · subst e362
    cases h
    exact ⟨_,Tryz.func362,by kernel_rfl,by kernel_rfl,by kernel_rfl,by kernel_rfl⟩
  rw [if_neg e362] at h
  by_cases e364:f=364
  · subst e364
    cases h
    exact ⟨_,Tryz.func364,by kernel_rfl,by kernel_rfl,by kernel_rfl,by kernel_rfl⟩
  rw [if_neg e364] at h
  by_cases e365:f=365
  · subst e365
    cases h
    exact ⟨_,Tryz.func365,by kernel_rfl,by kernel_rfl,by kernel_rfl,by kernel_rfl⟩
  rw [if_neg e365] at h
  cases h
theorem progOk:ProgOk Tryz.prog C0:=⟨cfgOk⟩
theorem mixed:Tryz.prog.follows .mixedOrders=true:=by kernel_rfl
theorem oks0:∀ m ∈ ms0,m.fits=true∧MemoOk Tryz.prog 8 m:=fun m h=>by cases h
theorem oks1:∀ m ∈ ms1,m.fits=true∧MemoOk Tryz.prog 8 m:=fun m h=>by
  rcases List.mem_cons.1 h with e | h
  · rw [e];exact memo_ok progOk mixed oks0 r0
  · exact oks0 m h
theorem oks2:∀ m ∈ ms2,m.fits=true∧MemoOk Tryz.prog 8 m:=fun m h=>by
  rcases List.mem_cons.1 h with e | h
  · rw [e];exact memo_ok progOk mixed oks1 r1
  · exact oks1 m h
theorem oks3:∀ m ∈ ms3,m.fits=true∧MemoOk Tryz.prog 8 m:=fun m h=>by
  rcases List.mem_cons.1 h with e | h
  · rw [e];exact memo_ok progOk mixed oks2 r2
  · exact oks2 m h
theorem oks4:∀ m ∈ ms4,m.fits=true∧MemoOk Tryz.prog 8 m:=fun m h=>by
  rcases List.mem_cons.1 h with e | h
  · rw [e];exact memo_ok progOk mixed oks3 r3
  · exact oks3 m h
theorem oks5:∀ m ∈ ms5,m.fits=true∧MemoOk Tryz.prog 8 m:=fun m h=>by
  rcases List.mem_cons.1 h with e | h
  · rw [e];exact memo_ok progOk mixed oks4 r4
  · exact oks4 m h
theorem oks6:∀ m ∈ ms6,m.fits=true∧MemoOk Tryz.prog 8 m:=fun m h=>by
  rcases List.mem_cons.1 h with e | h
  · rw [e];exact memo_ok progOk mixed oks5 r5
  · exact oks5 m h
theorem oks7:∀ m ∈ ms7,m.fits=true∧MemoOk Tryz.prog 8 m:=fun m h=>by
  rcases List.mem_cons.1 h with e | h
  · rw [e];exact memo_ok progOk mixed oks6 r6
  · exact oks6 m h
theorem oks8:∀ m ∈ ms8,m.fits=true∧MemoOk Tryz.prog 8 m:=fun m h=>by
  rcases List.mem_cons.1 h with e | h
  · rw [e];exact memo_ok progOk mixed oks7 r7
  · exact oks7 m h
theorem oks9:∀ m ∈ ms9,m.fits=true∧MemoOk Tryz.prog 8 m:=fun m h=>by
  rcases List.mem_cons.1 h with e | h
  · rw [e];exact memo_ok progOk mixed oks8 r8
  · exact oks8 m h
theorem oks10:∀ m ∈ ms10,m.fits=true∧MemoOk Tryz.prog 8 m:=fun m h=>by
  rcases List.mem_cons.1 h with e | h
  · rw [e];exact memo_ok progOk mixed oks9 r9
  · exact oks9 m h
theorem oks11:∀ m ∈ ms11,m.fits=true∧MemoOk Tryz.prog 8 m:=fun m h=>by
  rcases List.mem_cons.1 h with e | h
  · rw [e];exact memo_ok progOk mixed oks10 r10
  · exact oks10 m h
theorem oks12:∀ m ∈ ms12,m.fits=true∧MemoOk Tryz.prog 8 m:=fun m h=>by
  rcases List.mem_cons.1 h with e | h
  · rw [e];exact memo_ok progOk mixed oks11 r11
  · exact oks11 m h
theorem oks13:∀ m ∈ ms13,m.fits=true∧MemoOk Tryz.prog 8 m:=fun m h=>by
  rcases List.mem_cons.1 h with e | h
  · rw [e];exact memo_ok progOk mixed oks12 r12
  · exact oks12 m h
theorem oks14:∀ m ∈ ms14,m.fits=true∧MemoOk Tryz.prog 8 m:=fun m h=>by
  rcases List.mem_cons.1 h with e | h
  · rw [e];exact memo_ok progOk mixed oks13 r13
  · exact oks13 m h
theorem oks15:∀ m ∈ ms15,m.fits=true∧MemoOk Tryz.prog 8 m:=fun m h=>by
  rcases List.mem_cons.1 h with e | h
  · rw [e];exact memo_ok progOk mixed oks14 r14
  · exact oks14 m h
theorem oks16:∀ m ∈ ms16,m.fits=true∧MemoOk Tryz.prog 8 m:=fun m h=>by
  rcases List.mem_cons.1 h with e | h
  · rw [e];exact memo_ok progOk mixed oks15 r15
  · exact oks15 m h
theorem oks17:∀ m ∈ ms17,m.fits=true∧MemoOk Tryz.prog 8 m:=fun m h=>by
  rcases List.mem_cons.1 h with e | h
  · rw [e];exact memo_ok progOk mixed oks16 r16
  · exact oks16 m h
theorem oks18:∀ m ∈ ms18,m.fits=true∧MemoOk Tryz.prog 8 m:=fun m h=>by
  rcases List.mem_cons.1 h with e | h
  · rw [e];exact memo_ok progOk mixed oks17 r17
  · exact oks17 m h
theorem oks19:∀ m ∈ ms19,m.fits=true∧MemoOk Tryz.prog 8 m:=fun m h=>by
  rcases List.mem_cons.1 h with e | h
  · rw [e];exact memo_ok progOk mixed oks18 r18
  · exact oks18 m h
theorem oks20:∀ m ∈ ms20,m.fits=true∧MemoOk Tryz.prog 8 m:=fun m h=>by
  rcases List.mem_cons.1 h with e | h
  · rw [e];exact memo_ok progOk mixed oks19 r19
  · exact oks19 m h
theorem oks21:∀ m ∈ ms21,m.fits=true∧MemoOk Tryz.prog 8 m:=fun m h=>by
  rcases List.mem_cons.1 h with e | h
  · rw [e];exact memo_ok progOk mixed oks20 r20
  · exact oks20 m h
theorem oks22:∀ m ∈ ms22,m.fits=true∧MemoOk Tryz.prog 8 m:=fun m h=>by
  rcases List.mem_cons.1 h with e | h
  · rw [e];exact memo_ok progOk mixed oks21 r21
  · exact oks21 m h
theorem oks23:∀ m ∈ ms23,m.fits=true∧MemoOk Tryz.prog 8 m:=fun m h=>by
  rcases List.mem_cons.1 h with e | h
  · rw [e];exact memo_ok progOk mixed oks22 r22
  · exact oks22 m h
theorem oks24:∀ m ∈ ms24,m.fits=true∧MemoOk Tryz.prog 8 m:=fun m h=>by
  rcases List.mem_cons.1 h with e | h
  · rw [e];exact memo_ok progOk mixed oks23 r23
  · exact oks23 m h
theorem oks25:∀ m ∈ ms25,m.fits=true∧MemoOk Tryz.prog 8 m:=fun m h=>by
  rcases List.mem_cons.1 h with e | h
  · rw [e];exact memo_ok progOk mixed oks24 r24
  · exact oks24 m h
theorem oks26:∀ m ∈ ms26,m.fits=true∧MemoOk Tryz.prog 8 m:=fun m h=>by
  rcases List.mem_cons.1 h with e | h
  · rw [e];exact memo_ok progOk mixed oks25 r25
  · exact oks25 m h
theorem oks27:∀ m ∈ ms27,m.fits=true∧MemoOk Tryz.prog 8 m:=fun m h=>by
  rcases List.mem_cons.1 h with e | h
  · rw [e];exact memo_ok progOk mixed oks26 r26
  · exact oks26 m h
theorem oks28:∀ m ∈ ms28,m.fits=true∧MemoOk Tryz.prog 8 m:=fun m h=>by
  rcases List.mem_cons.1 h with e | h
  · rw [e];exact memo_ok progOk mixed oks27 r27
  · exact oks27 m h
theorem oks29:∀ m ∈ ms29,m.fits=true∧MemoOk Tryz.prog 8 m:=fun m h=>by
  rcases List.mem_cons.1 h with e | h
  · rw [e];exact memo_ok progOk mixed oks28 r28
  · exact oks28 m h
end Go.Proofs.YthbdlnflmfchjaaGreatDoor
