/- A strings.Builder: its length, a byte more, its string. -/
import Derived.Test.YthbdlnflmfchjaaGreatDoorZ2
import Derived.Shelf.RegionOpen
set_option linter.unusedVariables false
set_option linter.unusedSimpArgs false
namespace Go.Proofs.YthbdlnflmfchjaaGreatDoor
open Go.RowKit
set_option maxHeartbeats 3200000
set_option maxRecDepth 1000000
theorem row_form {w:World} {B:Nat} {v:Value} {n:Nat} {xs:List Value} (h:w.ownsRowF B 5 1 v n xs):∃ (G:Option Addr) (cap:Nat),v=.slice G n cap:=by
 rcases h.2 with ⟨rfl,rfl⟩ | ⟨g,cap,cur,fz,hv,_⟩
 ·
  exact ⟨_,_,rfl⟩
 ·
  exact ⟨_,_,hv⟩
theorem bis_at {T:TypeId} {B b:Nat} {l:List UInt8} {w:World} (h:BIs T B b l w):∃ p,(p=.pointer none ∨ p=.pointer (some ⟨b,0,none⟩))∧Lib.BuilderAtF T 5 B b p (Lib.byteCells l) w:=by
 rcases h with h | h
 ·
  exact ⟨_,.inl rfl,h⟩
 ·
  exact ⟨_,.inr rfl,h⟩
theorem bis_of {T:TypeId} {B b:Nat} {l:List UInt8} {w:World} {p:Value} (hp:p=.pointer none ∨ p=.pointer (some ⟨b,0,none⟩)) (h:Lib.BuilderAtF T 5 B b p (Lib.byteCells l) w):BIs T B b l w:=by
 rcases hp with rfl | rfl
 ·
  exact .inl h
 ·
  exact .inr h
theorem blen {T:TypeId} (B b:Nat) (l:List UInt8) (w:World) (h:BIs T B b l w):
  Calls Tryz.prog 240 #[.pointer (some ⟨b,0,none⟩)] w fun e w'=>e=.returned (.int .i64 (l.length:Nat))∧w'=w:=by
 obtain ⟨p,hp,hAt⟩:=bis_at h
 obtain ⟨hB,v,hbk,hown,hne⟩:=hAt
 rw [Lib.byteCells_length] at hown
 obtain ⟨G,cap,rfl⟩:=row_form hown
 have c1:w.cell? ⟨b,1,none⟩=some (.slice G l.length cap):=by rw [Lib.cell_of_heap hbk];rfl
 clear hown hbk hne h hp
 go_enter Tryz.func240,Tryz.ntmps240
 go_wp2_with fail
 go_ret
 exact ⟨rfl,rfl⟩
theorem bbyte {T:TypeId} (hT:BT T) (B b:Nat) (l:List UInt8) (c:UInt8) (w:World) (h:BIs T B b l w) (hlen:l.length+1≤140737488355328) (hBw:B≤w.heap.size):
  Calls Tryz.prog 165 #[.pointer (some ⟨b,0,none⟩),.int .u8 (c.toNat:Nat)] w fun e w'=>e=.returned .nilIface∧BIs T B b (l ++ [c]) w'∧BKeep B b w w':=by
 obtain ⟨i0,hi,hz0,hz1,hz2⟩:=info_parts info5
 have KC:=Lib.hid (bcheck hT B b l w h)
 clear h
 go_enter Tryz.func165,Tryz.ntmps165
 go_wp2_with fail
 refine KC.out.mono ?_
 rintro e w1 ⟨rfl,h1,hk1⟩
 obtain ⟨hB,v,hbk,hown,hne⟩:=h1
 have hlb:(Lib.byteCells l).length=l.length:=Lib.byteCells_length l
 obtain ⟨G0,cap0,rfl⟩:=row_form hown
 rw [hlb] at hown hbk hne
 have c0:w1.cell? ⟨b,0,none⟩=some (.pointer (some ⟨b,0,none⟩)):=by rw [Lib.cell_of_heap hbk];rfl
 have c1:w1.cell? ⟨b,1,none⟩=some (.slice G0 l.length cap0):=by rw [Lib.cell_of_heap hbk];rfl
 have hlt:b < w1.heap.size:=by
  rcases Nat.lt_or_ge b w1.heap.size with h' | h'
  ·
   exact h'
  ·
   simp [Array.getElem?_eq_none h'] at hbk
 have hbs:=hk1.below.size
 have hcell:(w1.alloc (.cells #[.int .u8 (c.toNat:Nat)] 5)).cell? ⟨w1.heap.size,0,none⟩=some (.int .u8 (c.toNat:Nat)):=World.cell?_alloc_at _ _ _ _ rfl
 obtain ⟨v',w2,hr,hown',hgrow,-⟩:=run_append_ownF (P:=Tryz.prog) (w:=w1.alloc (.cells #[.int .u8 (c.toNat:Nat)] 5)) B 190 190 5 i0 (.int .u8 0) 1 1 Tryz.underlying190 hi hz0 hz1 hz2 rfl (by decide) (.slice G0 l.length cap0) _ _ (hown.alloc _) ⟨w1.heap.size,0,none⟩ 1 1 [.int .u8 (c.toNat:Nat)] rfl
  (by
   intro j u hj
   match j,hj with
   | 0,hj=>simp at hj;subst hj;exact hcell) (by intro u hu;simp at hu;subst hu;rfl) (by unfold maxLen;omega) (by omega) (by simp;omega)
 have hb1:(w1.alloc (.cells #[.int .u8 (c.toNat:Nat)] 5)).heap[b]?=some (.cells #[.pointer (some ⟨b,0,none⟩),.slice G0 l.length cap0] T (0,0)):=(Go.Deep.blk_alloc_lt w1 _ b hlt).trans hbk
 have hb2:w2.heap[b]?=some (.cells #[.pointer (some ⟨b,0,none⟩),.slice G0 l.length cap0] T (0,0)):=by
  rw [hgrow.block b (by simp;omega) (fun e=>hne e.symm)]
  exact hb1
 have d0:w2.cell? ⟨b,0,none⟩=some (.pointer (some ⟨b,0,none⟩)):=by rw [Lib.cell_of_heap hb2];rfl
 have d1:w2.cell? ⟨b,1,none⟩=some (.slice G0 l.length cap0):=by rw [Lib.cell_of_heap hb2];rfl
 have f1:w2.frozen? ⟨b,1,none⟩=false:=Lib.frozen_of_heap hb2 1
 obtain ⟨ao,n',cap,rfl⟩:∃ ao n' cap,v'=.slice ao n' cap:=by
  rcases hown'.2 with ⟨hv,_⟩ | ⟨g,cap,cur,fz,hv,_⟩
  ·
   exact ⟨_,_,_,hv⟩
  ·
   exact ⟨_,_,_,hv⟩
 have HF:Hid (BIs T B b (l ++ [c]) (w2.setCell ⟨b,1,none⟩ (.slice ao n' cap))∧BKeep B b w (w2.setCell ⟨b,1,none⟩ (.slice ao n' cap))):=Lib.hid ⟨by
   have hbc:Lib.byteCells (l ++ [c])=Lib.byteCells l ++ [.int .u8 (c.toNat:Nat)]:=by rw [Lib.byteCells_append];rfl
   unfold BIs
   rw [hbc]
   refine .inr (Lib.BuilderAtF.put hB hb2 (bs':=Lib.byteCells l ++ [.int .u8 (c.toNat:Nat)]) (by simpa [hlb] using hown') hT.ne),
  ((hk1.below.alloc (by omega) _).grown hgrow (by simp;omega) (fun k hk=>(hown.lt k hk).1)).setCell (p:=⟨b,1,none⟩) hB _,
  ((hk1.others.alloc _).grown hgrow (Lib.ownsRowF_kind (hown.alloc _))).setCell ⟨b,1,none⟩ rfl _⟩
 have c1a:∀ o,(w1.alloc o).cell? ⟨b,1,none⟩=some (.slice G0 l.length cap0):=fun o=>(World.cell?_alloc_lt w1 o _ hlt).trans c1
 clear hown hown' hgrow hbk hb1 hb2 hk1 KC hlb
 go_wp2_with (refine wpList_append_2 (ts:=190) (us:=190) (v:=.slice G0 l.length cap0) (xv:=.slice (some ⟨w1.heap.size,0,none⟩) 1 1) (v':=.slice ao n' cap) (w':=w2) ?_ (.tmp 11) (.tmp 13) ?_ ?_ ?_ ?_ ?_ ?_;exact rfl;exact rfl;exact rfl;exact rfl;exact rfl;exact hr)
 go_ret
 exact ⟨rfl,HF.out⟩
end Go.Proofs.YthbdlnflmfchjaaGreatDoor
namespace Go.Proofs.YthbdlnflmfchjaaGreatDoor
open Go.RowKit
set_option maxHeartbeats 1600000
set_option maxRecDepth 1000000
theorem mixedA:Tryz.prog.follows .mixedOrders=true:=by kernel_rfl
theorem cellsByte:Tryz.prog.cellsOf 5=1:=by kernel_rfl
theorem bstring_some {T:TypeId} (B b:Nat) (l:List UInt8) (w:World) (h:BIs T B b l w) (h0:l ≠ []):
  Calls Tryz.prog 106 #[.pointer (some ⟨b,0,none⟩)] w fun e w'=>e=.returned (.string ⟨l.toArray⟩)∧BIs T B b l w'∧BKeep B b w w':=by
 obtain ⟨p,hp,hAt⟩:=bis_at h
 obtain ⟨hB,v,hbk,hown,hne⟩:=hAt
 have hl0:l.length ≠ 0:=by simpa using h0
 rw [Lib.byteCells_length] at hown
 obtain ⟨g,cap,cur,fz,rfl,hbg,hg,hfz,hnc,hcm,hcs,htake⟩:∃ g cap cur fz,v=.slice (some ⟨g,0,none⟩) l.length cap∧B≤g∧w.heap[g]?=some (.cells cur 5 fz)∧fz.2≤l.length * 1∧l.length≤cap∧cap≤maxLen∧cur.size=cap * 1∧cur.toList.take (l.length * 1)=Lib.byteCells l:=by
  rcases hown.2 with ⟨_,hz⟩ | ⟨g,cap,cur,fz,hv,r⟩
  ·
   exact absurd hz hl0
  ·
   exact ⟨g,cap,cur,fz,hv,r⟩
 have c1:w.drew.cell? ⟨b,1,none⟩=some (.slice (some ⟨g,0,none⟩) l.length cap):=by
  have:w.drew.heap[b]?=some (.cells #[p,.slice (some ⟨g,0,none⟩) l.length cap] T (0,0)):=hbk
  rw [Lib.cell_of_heap this];rfl
 have hSD:(Builtin.unsafeSliceData_ #[190] 255 #[.slice (some ⟨g,0,none⟩) l.length cap]).run Tryz.prog w.drew=.ok (.pointer (some ⟨g,0,none⟩)) w.drew:=
  Lib.run_unsafeSliceData_row _ _ _ _ _ _ (by omega)
 have hUS:(Builtin.unsafeString_ #[255,3] 9 #[.pointer (some ⟨g,0,none⟩),.int .i64 l.length]).run Tryz.prog w.drew=.ok (.string ⟨l.toArray⟩) (w.drew.freeze ⟨g,0,none⟩ l.length):=by
  refine Lib.run_unsafeString_row w.drew 255 3 9 5 Tryz.underlying255 cellsByte g cur.size (by have hg':w.drew.heap[g]?=some (.cells cur 5 fz):=hg;simp [World.shape?,hg']) l h0 (by omega) (by unfold maxLen at hcm;omega) ?_
  intro j x hx
  have:=hown.cells (g:=g) rfl j (.int .u8 x.toNat) (by simp [Lib.byteCells,hx])
  exact this
 have HF:Hid (BIs T B b l (w.drew.freeze ⟨g,0,none⟩ l.length)∧BKeep B b w (w.drew.freeze ⟨g,0,none⟩ l.length)):=Lib.hid ⟨by
   have hA:Lib.BuilderAtF T 5 B b p (Lib.byteCells l) w.drew:=⟨hB,_,hbk,by rw [Lib.byteCells_length];exact hown,hne⟩
   have hF:=hA.froze (g:=g) (cap:=cap) (by rw [Lib.byteCells_length];exact c1)
   rw [Lib.byteCells_length] at hF
   exact bis_of hp hF,Lib.below_freeze (Below.drew (Below.refl B w)) (p:=⟨g,0,none⟩) hbg _,((Lib.OthersKept.refl _ _ w).drew).freeze ⟨g,0,none⟩ _ ⟨cur,fz,hg⟩⟩
 clear hown hbk hne h hp hg htake
 have mixed:=mixedA;go_enter Tryz.func106,Tryz.ntmps106
 go_wp2
 go_region_o
 all_goals (go_wp2;go_ret;exact ⟨rfl,HF.out⟩)
theorem bkeep_drew (B b:Nat) (w:World):BKeep B b w w.drew:=⟨Below.drew (Below.refl B w),(Lib.OthersKept.refl _ _ w).drew⟩
theorem bstring_none {T:TypeId} (B b:Nat) (w:World) (h:BIs T B b [] w) (hBw:B≤w.heap.size):
  Calls Tryz.prog 106 #[.pointer (some ⟨b,0,none⟩)] w fun e w'=>e=.returned (.string ⟨#[]⟩)∧BIs T B b [] w'∧BKeep B b w w':=by
 have hUS:∀ W q,(Builtin.unsafeString_ #[255,3] 9 #[.pointer q,.int .i64 0]).run Tryz.prog W=.ok (.string .empty) W:=fun W q=>Lib.run_unsafeString_none (w:=W) 255 3 9 q
 obtain ⟨p,hp,hA⟩:=bis_at h
 have hA':=hA
 obtain ⟨hB,v,hbk,hown,hne⟩:=hA
 have hlt:=hA'.lt
 rcases hown.2 with ⟨rfl,_⟩ | ⟨g,cap,cur,fz,rfl,hbg,hg,_,_,_,_,_⟩
 ·
  have c1:w.drew.cell? ⟨b,1,none⟩=some (.slice none 0 0):=by
   have:w.drew.heap[b]?=some (.cells #[p,.slice none 0 0] T (0,0)):=hbk
   rw [Lib.cell_of_heap this];rfl
  have hSD:(Builtin.unsafeSliceData_ #[190] 255 #[.slice none 0 0]).run Tryz.prog w.drew=.ok (.pointer none) w.drew:=rfl
  have HF:Hid (BIs T B b [] w.drew∧BKeep B b w w.drew):=Lib.hid ⟨bis_of hp hA'.drew,bkeep_drew B b w⟩
  clear hown hbk hne h hp hA'
  have mixed:=mixedA;go_enter Tryz.func106,Tryz.ntmps106
  go_wp2
  go_region_o
  all_goals (go_wp2;go_ret;exact ⟨rfl,HF.out⟩)
 ·
  by_cases hc0:cap=0
  ·
   subst hc0
   have c1:w.drew.cell? ⟨b,1,none⟩=some (.slice (some ⟨g,0,none⟩) 0 0):=by
    have:w.drew.heap[b]?=some (.cells #[p,.slice (some ⟨g,0,none⟩) 0 0] T (0,0)):=hbk
    rw [Lib.cell_of_heap this];rfl
   have hSD:(Builtin.unsafeSliceData_ #[190] 255 #[.slice (some ⟨g,0,none⟩) 0 0]).run Tryz.prog w.drew=.ok (.pointer (some ⟨w.drew.heap.size,0,none⟩)) (w.drew.alloc (.view ⟨g,0,none⟩ 5)):=
    Lib.run_unsafeSliceData_zero w.drew _ _ 5 Tryz.underlying255 ⟨g,0,none⟩ 0 (5,cur.size) (by have hg':w.drew.heap[g]?=some (.cells cur 5 fz):=hg;simp [World.shape?,hg'])
   have c2:(w.drew.alloc (.view ⟨g,0,none⟩ 5)).cell? ⟨b,1,none⟩=some (.slice (some ⟨g,0,none⟩) 0 0):=by
    have:(w.drew.alloc (.view ⟨g,0,none⟩ 5)).heap[b]?=_:=(Lib.alloc_old w.drew _ b hlt).trans hbk
    rw [Lib.cell_of_heap this];rfl
   have c3:(w.alloc (.view ⟨g,0,none⟩ 5)).drew.cell? ⟨b,1,none⟩=some (.slice (some ⟨g,0,none⟩) 0 0):=c2
   have c0:w.cell? ⟨b,1,none⟩=some (.slice (some ⟨g,0,none⟩) 0 0):=c1
   have HF:Hid (BIs T B b [] (w.drew.alloc (.view ⟨g,0,none⟩ 5))∧BKeep B b w (w.drew.alloc (.view ⟨g,0,none⟩ 5))):=Lib.hid ⟨bis_of hp (hA'.drew.alloc _),(Below.drew (Below.refl B w)).alloc hBw _,((Lib.OthersKept.refl _ _ w).drew).alloc _⟩
   clear hown hbk hne h hp hA' hg
   have mixed:=mixedA;go_enter Tryz.func106,Tryz.ntmps106
   go_wp2
   go_region_o
   all_goals (go_wp2;go_ret;exact ⟨rfl,HF.out⟩)
  ·
   have c1:w.drew.cell? ⟨b,1,none⟩=some (.slice (some ⟨g,0,none⟩) 0 cap):=by
    have:w.drew.heap[b]?=some (.cells #[p,.slice (some ⟨g,0,none⟩) 0 cap] T (0,0)):=hbk
    rw [Lib.cell_of_heap this];rfl
   have hSD:(Builtin.unsafeSliceData_ #[190] 255 #[.slice (some ⟨g,0,none⟩) 0 cap]).run Tryz.prog w.drew=.ok (.pointer (some ⟨g,0,none⟩)) w.drew:=
    Lib.run_unsafeSliceData_row _ _ _ _ _ _ hc0
   have HF:Hid (BIs T B b [] w.drew∧BKeep B b w w.drew):=Lib.hid ⟨bis_of hp hA'.drew,bkeep_drew B b w⟩
   clear hown hbk hne h hp hA' hg hc0
   have mixed:=mixedA;go_enter Tryz.func106,Tryz.ntmps106
   go_wp2
   go_region_o
   all_goals (go_wp2;go_ret;exact ⟨rfl,HF.out⟩)
theorem bstring {T:TypeId} (B b:Nat) (l:List UInt8) (w:World) (h:BIs T B b l w) (hBw:B≤w.heap.size):
  Calls Tryz.prog 106 #[.pointer (some ⟨b,0,none⟩)] w fun e w'=>e=.returned (.string ⟨l.toArray⟩)∧BIs T B b l w'∧BKeep B b w w':=by
 cases l with
 | nil=>exact bstring_none B b w h hBw
 | cons x r=>exact bstring_some B b (x :: r) w h (by simp)
end Go.Proofs.YthbdlnflmfchjaaGreatDoor
