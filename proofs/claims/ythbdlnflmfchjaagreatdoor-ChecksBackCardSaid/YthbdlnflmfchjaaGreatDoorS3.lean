/- The closed call says() answers true in every world, and leaves all that was there alone. -/
import Derived.Test.YthbdlnflmfchjaaGreatDoorYZ
import Derived.Deep.OwnRows
set_option linter.unusedVariables false
set_option linter.unusedSimpArgs false
namespace Go.Proofs.YthbdlnflmfchjaaGreatDoor
open Go Go.Proofs.Eng
theorem mheap_none (n:Nat) (k:Nat):(mheap [] n).get k=none:=rfl
theorem memo_closed {P:Program} {G f n n':Nat} {b:Bool} (hG:G≤n) (hn:n≤lim) (h:MemoOk P G ⟨f,[],[],n,.bool b,[],n'⟩) (w:World):
  Calls P f #[] w fun e w'=>e=.returned (.bool b)∧w.Since w.heap.size w':=by
 have hc:=h (fun k=>if k < G then some ⟨k,0,0,0⟩ else none) w #[] (fun g hg=>⟨⟨g,0,0,0⟩,by simp [hg],rfl,rfl⟩)
  {
   obj:=fun k o hk=>by rw [mheap_none] at hk;cases hk
   inj:=fun k k' o o' p p' hk=>by rw [mheap_none] at hk;cases hk
   none:=fun k h1 h2=>by
    have:n≤k:=h1
    show (if k < G then _ else _)=_
    rw [if_neg (by omega)]
   low:=fun k o hk=>by rw [mheap_none] at hk;cases hk
   ids:=⟨hn,Nat.le_refl _⟩ } VRels.nil
 refine (callsIn_wide.1 hc).mono fun e w' hh=>?_
 obtain ⟨ρ',v',rfl,hv,hH,hS⟩:=hh
 cases hv
 refine ⟨rfl,hS.os,hS.tape,hS.out,hS.size,fun k hk=>hS.frame k hk fun k0 o p _ hk0=>?_⟩
 rw [mheap_none] at hk0;cases hk0
theorem says_true (w:World):Calls Tryz.prog 10 #[] w fun e w'=>e=.returned (.bool true)∧w.Since w.heap.size w':=
 memo_closed (by decide) (by decide) (oks27 m26 (.head _)).2 w
end Go.Proofs.YthbdlnflmfchjaaGreatDoor
