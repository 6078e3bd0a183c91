/- The walks of the specification's single: a text's runes as words. -/
import Derived.Test.YthbdlnflmfchjaaGreatDoorZ2
import Derived.Laws.IdiomStrings
set_option linter.unusedVariables false
set_option linter.unusedSimpArgs false
namespace Go.Proofs.YthbdlnflmfchjaaGreatDoor
open Go.RowKit Go.Proofs.Uni Go.Proofs.StrIt
theorem conv_half (s:ByteArray):∀ (bound pos:Nat) (rs:List Nat),Half s pos rs→s.size - pos≤bound →
  Conv.runesFrom s bound pos (rs.map fun (r:Nat)=>Value.int .i32 (r:Int)).toArray=((runes s.data.toList).map fun (r:Nat)=>Value.int .i32 (r:Int)).toArray:=by
 intro bound
 induction bound with
 | zero=>
  intro pos rs h hb
  rw [half_end h (by omega)]
  rfl
 | succ b ih=>
  intro pos rs h hb
  by_cases hp:pos < s.size
  ·
   have hw:=Lib.width_pos s pos
   have h2:=half_step h hp
   have:=ih _ _ h2 (by omega)
   rw [← this]
   simp [Conv.runesFrom,hp]
  ·
   rw [half_end h hp]
   simp [Conv.runesFrom,hp]
def runeCells (s:ByteArray) (cap:Nat):Array Value:=((runes s.data.toList).map fun (r:Nat)=>Value.int .i32 (r:Int)).toArray ++ Array.replicate (cap - (runes s.data.toList).length) (.int .i32 0)
theorem conv_runes (s:ByteArray) (w:World) (hs:s.size≤100000000):∃ cap,(runes s.data.toList).length≤cap∧
  (convert 9 204 (.string s)).run Tryz.prog w=.ok (.slice (some ⟨w.heap.size,0,none⟩) (runes s.data.toList).length cap) (w.drew.alloc (.cells (runeCells s cap) 21)):=by
 have e:=conv_half s s.size 0 [] (half_start s) (by omega)
 have hz:(Conv.runesFrom s s.size 0 #[]).size=(runes s.data.toList).length:=by
  have:=congrArg Array.size e
  simpa using this
 have hl:(runes s.data.toList).length≤s.size:=Nat.le_trans (runes_len _) (Nat.le_of_eq Array.length_toList)
 have h:=run_runes_of_string (P:=Tryz.prog) w 9 204 21 s Tryz.underlying9 Tryz.underlying204 Tryz.underlying21 (by rw [hz];omega)
 have hge:=grownCap_ge w (Conv.runesFrom s s.size 0 #[]).size 0 21
 rw [hz] at h hge
 refine ⟨_,hge,h.trans ?_⟩
 have e2:Conv.runesFrom s s.size 0 #[]=((runes s.data.toList).map fun (r:Nat)=>Value.int .i32 (r:Int)).toArray:=e
 rw [e2]
 rfl
theorem rune_cell (s:ByteArray) (cap:Nat) (j:Nat) (h:j < (runes s.data.toList).length):(runeCells s cap)[j]?=some (.int .i32 ((runes s.data.toList)[j]:Int)):=by
 unfold runeCells
 rw [Array.getElem?_append_left (by simpa using h)]
 simp [h]
end Go.Proofs.YthbdlnflmfchjaaGreatDoor
