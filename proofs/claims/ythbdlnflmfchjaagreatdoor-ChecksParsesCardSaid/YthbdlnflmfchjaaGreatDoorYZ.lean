/- The parts of the closed run, joined. -/
import Derived.Test.YthbdlnflmfchjaaGreatDoorY1
import Derived.Test.YthbdlnflmfchjaaGreatDoorY2
import Derived.Test.YthbdlnflmfchjaaGreatDoorY3
import Derived.Test.YthbdlnflmfchjaaGreatDoorY4
import Derived.Test.YthbdlnflmfchjaaGreatDoorY5
import Derived.Test.YthbdlnflmfchjaaGreatDoorY6
import Derived.Test.YthbdlnflmfchjaaGreatDoorY7
import Derived.Test.YthbdlnflmfchjaaGreatDoorY8
import Derived.Test.YthbdlnflmfchjaaGreatDoorY9
import Derived.Test.YthbdlnflmfchjaaGreatDoorY10
import Derived.Test.YthbdlnflmfchjaaGreatDoorY11
namespace Go.Proofs.YthbdlnflmfchjaaGreatDoor
open Go Go.Proofs.Eng
theorem PC:qQ Tryz.prog C0:=by
  refine ⟨fun f k h=>?_⟩
  unfold C0 at h
  dsimp only at h
  by_cases e273:f=273
  · subst e273
    cases h
    exact ⟨_,Tryz.func273,by kernel_rfl,by kernel_rfl,by kernel_rfl,by kernel_rfl⟩
  rw [if_neg e273] at h
  by_cases e326:f=326
  · subst e326
    cases h
    exact ⟨_,Tryz.func326,by kernel_rfl,by kernel_rfl,by kernel_rfl,by kernel_rfl⟩
  rw [if_neg e326] at h
  by_cases e350:f=350
  · subst e350
    cases h
    exact ⟨_,Tryz.func350,by kernel_rfl,by kernel_rfl,by kernel_rfl,by kernel_rfl⟩
  rw [if_neg e350] at h
  by_cases e359:f=359
  · subst e359
    cases h
    exact ⟨_,Tryz.func359,by kernel_rfl,by kernel_rfl,by kernel_rfl,by kernel_rfl⟩
  rw [if_neg e359] at h
  by_cases e360:f=360
  · subst e360
    cases h
    exact ⟨_,Tryz.func360,by kernel_rfl,by kernel_rfl,by kernel_rfl,by kernel_rfl⟩
  rw [if_neg e360] at h
  by_cases e361:f=361
  · subst e361
    cases h
    exact ⟨_,Tryz.func361,by kernel_rfl,by kernel_rfl,by kernel_rfl,by kernel_rfl⟩
  rw [if_neg e361] at h
  by_cases e362:f=362
  · subst e362
    cases h
    exact ⟨_,Tryz.func362,by kernel_rfl,by kernel_rfl,by kernel_rfl,by kernel_rfl⟩
  rw [if_neg e362] at h
  by_cases e364:f=364
  · subst e364
    cases h
    exact ⟨_,Tryz.func364,by kernel_rfl,by kernel_rfl,by kernel_rfl,by kernel_rfl⟩
  rw [if_neg e364] at h
  by_cases e365:f=365
  · subst e365
    cases h
    exact ⟨_,Tryz.func365,by kernel_rfl,by kernel_rfl,by kernel_rfl,by kernel_rfl⟩
  rw [if_neg e365] at h
  cases h
theorem cS:oG Tryz.prog C0:=⟨PC⟩
theorem mixed:Tryz.prog.follows .mixedOrders=true:=by kernel_rfl
theorem PD:∀ m ∈ Qi,m.fits=true∧cE Tryz.prog 8 m:=fun m h=>by cases h
theorem PF:∀ m ∈ Qj,m.fits=true∧cE Tryz.prog 8 m:=fun m h=>by
  rcases List.mem_cons.1 h with e | h
  · rw [e];exact cr cS mixed PD r0
  · exact PD m h
theorem PG:∀ m ∈ Qk,m.fits=true∧cE Tryz.prog 8 m:=fun m h=>by
  rcases List.mem_cons.1 h with e | h
  · rw [e];exact cr cS mixed PF r1
  · exact PF m h
theorem PH:∀ m ∈ Ql,m.fits=true∧cE Tryz.prog 8 m:=fun m h=>by
  rcases List.mem_cons.1 h with e | h
  · rw [e];exact cr cS mixed PG r2
  · exact PG m h
theorem PI:∀ m ∈ Qm,m.fits=true∧cE Tryz.prog 8 m:=fun m h=>by
  rcases List.mem_cons.1 h with e | h
  · rw [e];exact cr cS mixed PH r3
  · exact PH m h
theorem PJ:∀ m ∈ Qn,m.fits=true∧cE Tryz.prog 8 m:=fun m h=>by
  rcases List.mem_cons.1 h with e | h
  · rw [e];exact cr cS mixed PI r4
  · exact PI m h
theorem PK:∀ m ∈ Qo,m.fits=true∧cE Tryz.prog 8 m:=fun m h=>by
  rcases List.mem_cons.1 h with e | h
  · rw [e];exact cr cS mixed PJ r5
  · exact PJ m h
theorem PM:∀ m ∈ Qp,m.fits=true∧cE Tryz.prog 8 m:=fun m h=>by
  rcases List.mem_cons.1 h with e | h
  · rw [e];exact cr cS mixed PK r6
  · exact PK m h
theorem PN:∀ m ∈ Qq,m.fits=true∧cE Tryz.prog 8 m:=fun m h=>by
  rcases List.mem_cons.1 h with e | h
  · rw [e];exact cr cS mixed PM r7
  · exact PM m h
theorem PO:∀ m ∈ Qr,m.fits=true∧cE Tryz.prog 8 m:=fun m h=>by
  rcases List.mem_cons.1 h with e | h
  · rw [e];exact cr cS mixed PN r8
  · exact PN m h
theorem Mv:∀ m ∈ NN,m.fits=true∧cE Tryz.prog 8 m:=fun m h=>by
  rcases List.mem_cons.1 h with e | h
  · rw [e];exact cr cS mixed PO r9
  · exact PO m h
theorem Mw:∀ m ∈ NO,m.fits=true∧cE Tryz.prog 8 m:=fun m h=>by
  rcases List.mem_cons.1 h with e | h
  · rw [e];exact cr cS mixed Mv Qt
  · exact Mv m h
theorem Mx:∀ m ∈ NP,m.fits=true∧cE Tryz.prog 8 m:=fun m h=>by
  rcases List.mem_cons.1 h with e | h
  · rw [e];exact cr cS mixed Mw Qu
  · exact Mw m h
theorem My:∀ m ∈ NQ,m.fits=true∧cE Tryz.prog 8 m:=fun m h=>by
  rcases List.mem_cons.1 h with e | h
  · rw [e];exact cr cS mixed Mx Qv
  · exact Mx m h
theorem Mz:∀ m ∈ NR,m.fits=true∧cE Tryz.prog 8 m:=fun m h=>by
  rcases List.mem_cons.1 h with e | h
  · rw [e];exact cr cS mixed My Qw
  · exact My m h
theorem MA:∀ m ∈ NS,m.fits=true∧cE Tryz.prog 8 m:=fun m h=>by
  rcases List.mem_cons.1 h with e | h
  · rw [e];exact cr cS mixed Mz Qx
  · exact Mz m h
theorem MB:∀ m ∈ NT,m.fits=true∧cE Tryz.prog 8 m:=fun m h=>by
  rcases List.mem_cons.1 h with e | h
  · rw [e];exact cr cS mixed MA Qy
  · exact MA m h
theorem MC:∀ m ∈ NU,m.fits=true∧cE Tryz.prog 8 m:=fun m h=>by
  rcases List.mem_cons.1 h with e | h
  · rw [e];exact cr cS mixed MB Q1
  · exact MB m h
theorem MD:∀ m ∈ NV,m.fits=true∧cE Tryz.prog 8 m:=fun m h=>by
  rcases List.mem_cons.1 h with e | h
  · rw [e];exact cr cS mixed MC Q2
  · exact MC m h
theorem ME:∀ m ∈ NW,m.fits=true∧cE Tryz.prog 8 m:=fun m h=>by
  rcases List.mem_cons.1 h with e | h
  · rw [e];exact cr cS mixed MD Q3
  · exact MD m h
theorem MF:∀ m ∈ NX,m.fits=true∧cE Tryz.prog 8 m:=fun m h=>by
  rcases List.mem_cons.1 h with e | h
  · rw [e];exact cr cS mixed ME Q4
  · exact ME m h
theorem MG:∀ m ∈ NY,m.fits=true∧cE Tryz.prog 8 m:=fun m h=>by
  rcases List.mem_cons.1 h with e | h
  · rw [e];exact cr cS mixed MF Q5
  · exact MF m h
theorem MH:∀ m ∈ NZ,m.fits=true∧cE Tryz.prog 8 m:=fun m h=>by
  rcases List.mem_cons.1 h with e | h
  · rw [e];exact cr cS mixed MG Q6
  · exact MG m h
theorem MI:∀ m ∈ N0,m.fits=true∧cE Tryz.prog 8 m:=fun m h=>by
  rcases List.mem_cons.1 h with e | h
  · rw [e];exact cr cS mixed MH Q7
  · exact MH m h
theorem MJ:∀ m ∈ N3,m.fits=true∧cE Tryz.prog 8 m:=fun m h=>by
  rcases List.mem_cons.1 h with e | h
  · rw [e];exact cr cS mixed MI Q8
  · exact MI m h
theorem MK:∀ m ∈ N7,m.fits=true∧cE Tryz.prog 8 m:=fun m h=>by
  rcases List.mem_cons.1 h with e | h
  · rw [e];exact cr cS mixed MJ QV
  · exact MJ m h
theorem ML:∀ m ∈ N8,m.fits=true∧cE Tryz.prog 8 m:=fun m h=>by
  rcases List.mem_cons.1 h with e | h
  · rw [e];exact cr cS mixed MK QW
  · exact MK m h
theorem Gx:∀ m ∈ N9,m.fits=true∧cE Tryz.prog 8 m:=fun m h=>by
  rcases List.mem_cons.1 h with e | h
  · rw [e];exact cr cS mixed ML QX
  · exact ML m h
theorem MM:∀ m ∈ N_,m.fits=true∧cE Tryz.prog 8 m:=fun m h=>by
  rcases List.mem_cons.1 h with e | h
  · rw [e];exact cr cS mixed Gx QZ
  · exact Gx m h
theorem Mm:∀ m ∈ Qs,m.fits=true∧cE Tryz.prog 8 m:=fun m h=>by
  rcases List.mem_cons.1 h with e | h
  · rw [e];exact cr cS mixed MM Q0
  · exact MM m h
