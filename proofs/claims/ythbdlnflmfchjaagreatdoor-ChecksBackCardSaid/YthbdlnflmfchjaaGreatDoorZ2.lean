/- A map's block, told as the list of its entries: made, looked up, stored into, ranged over. -/
import Derived.WalkKit
import Derived.WalkSpells
import Derived.Maps.Keyed
import Derived.Maps.OwnOps
import Derived.Maps.RangeWalk
import Derived.DeepKeys4
import Derived.Deep.Draws
import Derived.Laws.OwnMore
import Derived.Laws.Rows
import Derived.WideKeyEntry
import Derived.Deep.RegionHeld3
import Derived.WalkLawsBesides
import Derived.Lib.Hide
import Derived.Deep.QuietTactic
import Derived.BigQuiet
import Derived.Deep.OwnRows
import Derived.Deep.LoopGhost
import Derived.Deep.Slices
import Derived.Laws.CopyOwn
import Derived.IntWalk
import Derived.Deep.RegionLaw
import Derived.Laws.StructEq
import Derived.StillTailTactics
import Derived.Laws.AppendOwnNone
import Derived.Outline
import Derived.Laws.EntriesVeiled
import Derived.Test.YthbdlnflmfchjaaGreatDoorChecked
import Derived.Test.YthbdlnflmfchjaaGreatDoorFM1
import Derived.Shelf.Slices.Turned
import Derived.OwnWalk
import Derived.Lib.TrimUEq
import Derived.Lib.ValidU
import Derived.Laws.RangeString
import Derived.ChangeMaps
import Derived.Shelf.Strings.BuilderK
namespace Go.Proofs.MapEnt
open Go.RowKit
open Go.Maps (Keyed)
def kv (e:MapEntry):Value × Value:=(e.key,e.val)
def MapHas (P:Program) (k:TypeId) (w:World) (b:Nat) (l:List (Value × Value)):Prop:=
 ∃ es clock,w.heap[b]?=some (.map es clock)∧es.toList.map kv=l∧(∀ p ∈ l,∃ q,keyOf P k p.1=some q)∧(∀ e ∈ es.toList,e.born < clock)∧(es.toList.map (·.born)).Nodup∧(l.map (·.1)).Nodup
section
variable {P:Program} {k:TypeId} {w w':World} {b:Nat} {l:List (Value × Value)}
theorem MapHas.new (P:Program) (k:TypeId) (w:World):MapHas P k (w.alloc (.map #[] 0)) w.heap.size []:=
 ⟨#[],0,heap_alloc_new w _,rfl,fun _ h=>(by cases h),fun _ h=>(by cases h),List.nodup_nil,List.nodup_nil⟩
theorem MapHas.same (h:MapHas P k w b l) (e:w'.heap[b]?=w.heap[b]?):MapHas P k w' b l:=by
 obtain ⟨es,c,h1,h2⟩:=h
 exact ⟨es,c,e.trans h1,h2⟩
theorem MapHas.lt (h:MapHas P k w b l):b < w.heap.size:=by
 obtain ⟨es,c,h1,_⟩:=h
 exact (Array.getElem?_eq_some_iff.1 h1).1
theorem MapHas.nodup (h:MapHas P k w b l):(l.map (·.1)).Nodup:=by
 obtain ⟨_,_,_,_,_,_,_,h⟩:=h
 exact h
theorem MapHas.find (K:Keyed P k) (h:MapHas P k w b l) {key:Value} {q:Lit} (hk:keyOf P k key=some q):
  ∃ es clock,w.heap[b]?=some (.map es clock)∧es.toList.map kv=l∧(∀ e ∈ es.toList,e.born < clock)∧(es.toList.map (·.born)).Nodup∧
   (((Instr.findKey k key es.toList).run P w=.ok none w∧∀ p ∈ l,p.1 ≠ key) ∨ ∃ j e,(Instr.findKey k key es.toList).run P w=.ok (some (j,e.val)) w∧es.toList[j]?=some e∧e.key=key∧(key,e.val) ∈ l):=by
 obtain ⟨es,c,h1,h2,h3,h4,h5,_⟩:=h
 refine ⟨es,c,h1,h2,h4,h5,?_⟩
 rcases K.find w hk es.toList (fun e he=>h3 (e.key,e.val) (by rw [← h2];exact List.mem_map.2 ⟨e,he,rfl⟩)) with ⟨r1,r2⟩ | ⟨j,e,r1,r2,r3⟩
 ·
  refine .inl ⟨r1,fun p hp=>?_⟩
  rw [← h2] at hp
  obtain ⟨e,he,rfl⟩:=List.mem_map.1 hp
  exact r2 e he
 ·
  refine .inr ⟨j,e,r1,r2,r3,?_⟩
  rw [← h2,← r3]
  exact List.mem_map.2 ⟨e,List.mem_of_getElem? r2,rfl⟩
theorem MapHas.lookup {t e:TypeId} (K:Keyed P k) (ht:P.underlying t=some (.map k e)) {z:Value} (hz:(zeroValue e).run P w=.ok z w) (h:MapHas P k w b l)
  {key:Value} {q:Lit} (hk:keyOf P k key=some q):
  (((Instr.lookup t (.map (some b)) key true).run P w=.ok (.tuple #[z,.bool false]) w∧(Instr.lookup t (.map (some b)) key false).run P w=.ok z w)∧∀ p ∈ l,p.1 ≠ key) ∨
  ∃ v,((Instr.lookup t (.map (some b)) key true).run P w=.ok (.tuple #[v,.bool true]) w∧(Instr.lookup t (.map (some b)) key false).run P w=.ok v w)∧(key,v) ∈ l:=by
 obtain ⟨es,c,h1,h2,_,_,h3⟩:=h.find K hk
 have hg:=MapKept.run_getObj_map (P:=P) h1
 rcases h3 with ⟨r1,r2⟩ | ⟨j,e0,r1,_,_,r2⟩
 ·
  exact .inl ⟨⟨by simp [Instr.lookup,run_underlying ht,hg,K.check w _ hk,r1,hz,Result.andThen],by simp [Instr.lookup,run_underlying ht,hg,K.check w _ hk,r1,hz,Result.andThen]⟩,r2⟩
 ·
  exact .inr ⟨e0.val,⟨by simp [Instr.lookup,run_underlying ht,hg,K.check w _ hk,r1,Result.andThen],by simp [Instr.lookup,run_underlying ht,hg,K.check w _ hk,r1,Result.andThen]⟩,r2⟩
theorem MapHas.put {t e:TypeId} (K:Keyed P k) (ht:P.underlying t=some (.map k e)) (h:MapHas P k w b l) {key val:Value} {q:Lit} (hk:keyOf P k key=some q):
  ∃ w' l',(Instr.mapUpdate t (.map (some b)) key val).run P w=.ok () w'∧MapHas P k w' b l'∧w'.os=w.os∧w'.tape=w.tape∧w'.output=w.output∧w'.heap.size=w.heap.size∧
   (∀ i,i ≠ b→w'.heap[i]?=w.heap[i]?)∧(((∀ p ∈ l,p.1 ≠ key)∧l'=l ++ [(key,val)]) ∨ ∃ l1 l2 old,l=l1 ++ (key,old) :: l2∧l'=l1 ++ (key,val) :: l2):=by
 have hlt:=h.lt
 have hnd:=h.nodup
 obtain ⟨_,_,_,_,hkeys,_⟩:=id h
 obtain ⟨es,c,h1,h2,h4,h5,h3⟩:=h.find K hk
 have hg:=MapKept.run_getObj_map (P:=P) h1
 rcases h3 with ⟨r1,r2⟩ | ⟨j,e0,r1,r2,r3,r4⟩
 ·
  refine ⟨{ w with heap:=w.heap.setIfInBounds b (.map (es.push { key,val,born:=c }) (c+1)) },l ++ [(key,val)],?_,⟨es.push { key,val,born:=c },c+1,?_,?_,?_,?_,?_,?_⟩,rfl,rfl,rfl,by simp,fun i hi=>?_,.inl ⟨r2,rfl⟩⟩
  ·
   simp [Instr.mapUpdate,run_underlying ht,hg,K.check w _ hk,r1,Result.andThen,setObj,Sem.run,h1]
  ·
   simp [hlt]
  ·
   simp [h2,kv]
  ·
   intro p hp
   rcases List.mem_append.1 hp with hp | hp
   ·
    exact hkeys p hp
   ·
    obtain rfl:=List.mem_singleton.1 hp;exact ⟨q,hk⟩
  ·
   intro x hx
   simp only [Array.toList_push,List.mem_append,List.mem_singleton] at hx
   rcases hx with hx | rfl
   ·
    have:=h4 x hx;omega
   ·
    exact Nat.lt_succ_self _
  ·
   simp only [Array.toList_push,List.map_append,List.map_cons,List.map_nil]
   refine List.nodup_append.2 ⟨h5,by simp,fun x hx y hy=>?_⟩
   obtain ⟨z,hz,rfl⟩:=List.mem_map.1 hx
   obtain rfl:=List.mem_singleton.1 hy
   have:=h4 z hz
   omega
  ·
   simp only [List.map_append,List.map_cons,List.map_nil]
   refine List.nodup_append.2 ⟨hnd,by simp,fun x hx y hy=>?_⟩
   obtain ⟨z,hz,rfl⟩:=List.mem_map.1 hx
   obtain rfl:=List.mem_singleton.1 hy
   exact r2 z hz
  ·
   simp [Ne.symm hi]
 ·
  have hj:es[j]?=some e0:=by simpa using r2
  have hjl:j < es.toList.length:=(List.getElem?_eq_some_iff.1 r2).1
  have hje:es.toList[j]=e0:=(List.getElem?_eq_some_iff.1 r2).2
  have hlist:(es.modify j (fun e'=>{ e' with key:=key,val:=val })).toList=es.toList.take j ++ { e0 with key:=key,val:=val } :: es.toList.drop (j+1):=by
   rw [Array.toList_modify,List.modify_eq_take_cons_drop hjl,hje]
  have hold:es.toList=es.toList.take j ++ e0 :: es.toList.drop (j+1):=by
   rw [← hje,List.getElem_cons_drop,List.take_append_drop]
  have hl:l=(es.toList.take j).map kv ++ (key,e0.val) :: (es.toList.drop (j+1)).map kv:=by
   rw [← h2]
   conv=>lhs;rw [hold]
   simp [kv,r3]
  refine ⟨{ w with heap:=w.heap.setIfInBounds b (.map (es.modify j (fun e'=>{ e' with key:=key,val:=val })) c) },(es.toList.take j).map kv ++ (key,val) :: (es.toList.drop (j+1)).map kv,?_,
   ⟨es.modify j (fun e'=>{ e' with key:=key,val:=val }),c,?_,?_,?_,?_,?_,?_⟩,rfl,rfl,rfl,by simp,fun i hi=>?_,.inr ⟨_,_,_,hl,rfl⟩⟩
  ·
   simp [Instr.mapUpdate,run_underlying ht,hg,K.check w _ hk,r1,hj,r3,K.stays w hk,Result.andThen,setObj,Sem.run,h1]
  ·
   simp [hlt]
  ·
   rw [hlist];simp [kv]
  ·
   intro p hp
   simp only [List.mem_append,List.mem_cons] at hp
   rcases hp with hp | rfl | hp
   ·
    exact hkeys p (by rw [hl];simp only [List.mem_append];exact .inl hp)
   ·
    exact ⟨q,hk⟩
   ·
    exact hkeys p (by rw [hl];simp only [List.mem_append,List.mem_cons];exact .inr (.inr hp))
  ·
   intro x hx
   rw [hlist] at hx
   simp only [List.mem_append,List.mem_cons] at hx
   rcases hx with hx | rfl | hx
   ·
    exact h4 x (List.mem_of_mem_take hx)
   ·
    exact h4 e0 (List.mem_of_getElem? r2)
   ·
    exact h4 x (List.mem_of_mem_drop hx)
  ·
   rw [hlist]
   rw [hold] at h5
   simpa using h5
  ·
   rw [hl] at hnd
   simpa using hnd
  ·
   simp [Ne.symm hi]
end
section
variable {P:Program} (w:World) {ops:Array Oper} {rest:List Oper} {o:Oper} {a:Act} {Q:Exit→Act→World→Prop}
end
section
variable {P:Program} {k:TypeId} {w w':World} {b r:Nat} {l rest:List (Value × Value)}
end
section
variable {P:Program} (w:World) {ops:Array Oper} {rest:List Oper} {o:Oper} {a:Act} {Q:Exit→Act→World→Prop}
end
end Go.Proofs.MapEnt
namespace Go.Proofs.YthbdlnflmfchjaaGreatDoor
open Go.RowKit Go.Proofs.Fm
def wS (x:Wd):ByteArray:=match x.kind with | .letters=>x.text | .sign=>x.text | _=>ByteArray.empty
def wT (x:Wd):ByteArray:=match x.kind with | .string=>x.text | _=>ByteArray.empty
def wNum (x:Wd):Bool:=decide (x.kind=.number)
def wStr (x:Wd):Bool:=decide (x.kind=.string)
def wN (x:Wd):Nat:=match x.kind with | .number=>digitsV x.text 0 x.text.size 0 | _=>0
def wdV (x:Wd):Value:=.agg #[.int .i64 (x.place:Nat),.string (wS x),.bool (wNum x),.int .i64 (wN x:Nat),.bool (wStr x),.string (wT x),.bool false]
def endV (e:Nat):Value:=.agg #[.int .i64 (e:Nat),.string ByteArray.empty,.bool false,.int .i64 0,.bool false,.string ByteArray.empty,.bool false]
def WsAt (w:World) (G:Option Addr) (l:List Wd):Prop:=∀ i (h:i < l.length),∃ g,G=some ⟨g,0,none⟩∧g < w.heap.size∧
 w.cell? ⟨g,i * 7,none⟩=some (.int .i64 (l[i].place:Nat))∧w.cell? ⟨g,i * 7+1,none⟩=some (.string (wS l[i]))∧w.cell? ⟨g,i * 7+2,none⟩=some (.bool (wNum l[i]))∧
 w.cell? ⟨g,i * 7+3,none⟩=some (.int .i64 (wN l[i]:Nat))∧w.cell? ⟨g,i * 7+4,none⟩=some (.bool (wStr l[i]))∧w.cell? ⟨g,i * 7+5,none⟩=some (.string (wT l[i]))∧w.cell? ⟨g,i * 7+6,none⟩=some (.bool false)
structure PsAt (w:World) (pb:Nat) (G:Option Addr) (c:Nat) (l:List Wd) (e n:Nat):Prop where
 lt:pb < w.heap.size
 c0:w.cell? ⟨pb,0,none⟩=some (.slice G l.length c)
 c1:w.cell? ⟨pb,1,none⟩=some (.int .i64 (n:Nat))
 c2:w.cell? ⟨pb,2,none⟩=some (.int .i64 (e:Nat))
 fz:w.frozen? ⟨pb,1,none⟩=false
 at_:WsAt w G l
 apart:∀ g,G=some ⟨g,0,none⟩→g ≠ pb
structure Adv (w:World) (pb:Nat) (w':World):Prop where
 os:w'.os=w.os
 tape:w'.tape=w.tape
 output:w'.output=w.output
 size:w.heap.size≤w'.heap.size
 block:∀ k,k < w.heap.size→k ≠ pb→w'.heap[k]?=w.heap[k]?
theorem Adv.refl (w:World) (pb:Nat):Adv w pb w:=⟨rfl,rfl,rfl,Nat.le_refl _,fun _ _ _=>rfl⟩
theorem Adv.trans {w w1 w2:World} {pb:Nat} (h:Adv w pb w1) (h2:Adv w1 pb w2):Adv w pb w2:=
 ⟨h2.os.trans h.os,h2.tape.trans h.tape,h2.output.trans h.output,Nat.le_trans h.size h2.size,fun k hk hne=>(h2.block k (Nat.lt_of_lt_of_le hk h.size) hne).trans (h.block k hk hne)⟩
theorem Adv.since {w w1 w2:World} {pb:Nat} (h:Adv w pb w1) (h2:w1.Since w1.heap.size w2):Adv w pb w2:=
 ⟨h2.os.trans h.os,h2.tape.trans h.tape,h2.output.trans h.output,Nat.le_trans h.size h2.size,fun k hk hne=>(h2.block k (Nat.lt_of_lt_of_le hk h.size)).trans (h.block k hk hne)⟩
theorem Adv.set (w:World) (pb i:Nat) (v:Value):Adv w pb (w.setCell ⟨pb,i,none⟩ v):=⟨rfl,rfl,rfl,by simp,fun k _ hne=>Go.Deep.blk_setCell_other _ _ _ _ hne⟩
theorem WsAt.same {w w':World} {G:Option Addr} {l:List Wd} (h:WsAt w G l) (hs:w.heap.size≤w'.heap.size) (hb:∀ g,G=some ⟨g,0,none⟩→g < w.heap.size→w'.heap[g]?=w.heap[g]?):WsAt w' G l:=fun i hi=>by
 obtain ⟨g,hg,hlt,h0,h1,h2,h3,h4,h5,h6⟩:=h i hi
 have hc:∀ j,w'.cell? ⟨g,j,none⟩=w.cell? ⟨g,j,none⟩:=fun j=>World.cell?_of_block (hb g hg hlt)
 exact ⟨g,hg,Nat.lt_of_lt_of_le hlt hs,(hc _).trans h0,(hc _).trans h1,(hc _).trans h2,(hc _).trans h3,(hc _).trans h4,(hc _).trans h5,(hc _).trans h6⟩
variable {w w':World} {pb c e n:Nat} {G:Option Addr} {l:List Wd}
theorem PsAt.up (h:PsAt w pb G c l e n) (hs:w.Since w.heap.size w'):PsAt w' pb G c l e n:=
 ⟨Nat.lt_of_lt_of_le h.lt hs.size,(hs.cell (a:=⟨pb,0,none⟩) h.lt).trans h.c0,(hs.cell (a:=⟨pb,1,none⟩) h.lt).trans h.c1,(hs.cell (a:=⟨pb,2,none⟩) h.lt).trans h.c2,(hs.frozen (a:=⟨pb,1,none⟩) h.lt).trans h.fz,
  h.at_.same hs.size (fun g _ hg=>hs.block g hg),h.apart⟩
theorem PsAt.set (h:PsAt w pb G c l e n) (m:Nat):PsAt (w.setCell ⟨pb,1,none⟩ (.int .i64 (m:Nat))) pb G c l e m:=
 ⟨by simp;exact h.lt,(World.cell?_setCell_other _ _ _ _ (by simp)).trans h.c0,World.cell?_setCell_same _ _ _ h.c1,(World.cell?_setCell_other _ _ _ _ (by simp)).trans h.c2,by simp [h.fz],
  h.at_.same (by simp) (fun g hg _=>Go.Deep.blk_setCell_other _ _ _ _ (h.apart g hg)),h.apart⟩
def nextV (l:List Wd) (e n:Nat):Value:=match l[n]? with | some x=>wdV x | none=>endV e
theorem nextV_some {l:List Wd} {e n:Nat} (h:n < l.length):nextV l e n=wdV l[n]:=by unfold nextV;rw [List.getElem?_eq_getElem h]
theorem nextV_none {l:List Wd} {e n:Nat} (h:¬ n < l.length):nextV l e n=endV e:=by unfold nextV;rw [List.getElem?_eq_none (by omega)]
end Go.Proofs.YthbdlnflmfchjaaGreatDoor
namespace Go.Proofs.YthbdlnflmfchjaaGreatDoor
open Go Go.Shelf
def Tryz.lays110_ren:Go.Shelf.Ren:=⟨fun | 110=>97 | 109=>171 | n=>n,fun | 31=>70 | 9=>9 | 4=>4 | 3=>3 | 0=>0 | n=>n,fun | n=>n⟩
theorem Tryz.lays110:Go.Proofs.Lays.n110 Tryz.prog Tryz.lays110_ren:={
 mixed:=by kernel_rfl
 f109:=Tryz.func171.trans (congrArg some (by kernel_rfl))
 f110:=Tryz.func97.trans (congrArg some (by kernel_rfl))
 t0:=Tryz.underlying0
 a0:=Tryz.isAgg0
 z0:=Tryz.sizeOf0
 v0:=Tryz.zeroValue0
 t3:=Tryz.underlying3
 a3:=Tryz.isAgg3
 z3:=Tryz.sizeOf3
 v3:=Tryz.zeroValue3
 t4:=Tryz.underlying4
 a4:=Tryz.isAgg4
 z4:=Tryz.sizeOf4
 v4:=Tryz.zeroValue4
 t9:=Tryz.underlying9
 a9:=Tryz.isAgg9
 z9:=Tryz.sizeOf9
 v9:=Tryz.zeroValue9
 t31:=Tryz.underlying70
 a31:=Tryz.isAgg70
 z31:=Tryz.sizeOf70
 v31:=Tryz.zeroValue70 }
theorem contains_says (ss:List ByteArray) (x:ByteArray) (b c:Nat) (w:World) (hn:ss.length≤1000) (hc:∀ j (h:j < ss.length),w.cell? ⟨b,j,none⟩=some (.string ss[j])):
  Calls Tryz.prog 97 #[.slice (some ⟨b,0,none⟩) ss.length c,.string x] w fun e w'=>e=.returned (.bool (ss.any fun s=>decide (s=x)))∧w'=w:=by
 have h:=Any.slices_Contains_string Tryz.lays110 b 0 ss.length c ss x w (Nat.le_refl _) (by omega) (fun j hj=>by
  have h:=hc j hj
  rw [Nat.zero_add,h]
  simp [List.getD,hj])
 rw [List.take_length] at h
 refine h.mono fun e w' ⟨he,hw⟩=>⟨?_,hw⟩
 rw [he,show Lib.containsS ss x=ss.any fun s=>decide (s=x) by
  rw [Bool.eq_iff_iff,List.any_eq_true]
  refine (Lib.containsS_iff ss x).trans ⟨fun h=>⟨x,h,by simp⟩,fun ⟨y,hy,e⟩=>?_⟩
  obtain rfl:=of_decide_eq_true e
  exact hy]
end Go.Proofs.YthbdlnflmfchjaaGreatDoor
namespace Go.Proofs.YthbdlnflmfchjaaGreatDoor
open Go.RowKit Go.Proofs.Fm
set_option maxHeartbeats 3200000
set_option maxRecDepth 1000000
theorem peek_says (w:World) (pb c e n:Nat) (G:Option Addr) (l:List Wd) (h:PsAt w pb G c l e n):
  Calls Tryz.prog 169 #[.pointer (some ⟨pb,0,none⟩)] w fun r w'=>r=.returned (nextV l e n)∧w.Since w.heap.size w':=by
 have hpb:pb < w.heap.size:=h.lt
 have k0:∀ o,(w.alloc o).cell? ⟨pb,0,none⟩=some (.slice G l.length c):=fun o=>(World.cell?_alloc_lt w o _ hpb).trans h.c0
 have k1:∀ o,(w.alloc o).cell? ⟨pb,1,none⟩=some (.int .i64 (n:Nat)):=fun o=>(World.cell?_alloc_lt w o _ hpb).trans h.c1
 have k2:∀ o,(w.alloc o).cell? ⟨pb,2,none⟩=some (.int .i64 (e:Nat)):=fun o=>(World.cell?_alloc_lt w o _ hpb).trans h.c2
 have HW:=Lib.hid h.at_
 clear h
 by_cases hlt:n < l.length
 ·
  rw [nextV_some hlt]
  obtain ⟨g,rfl,hg,a0,a1,a2,a3,a4,a5,a6⟩:=HW.out n hlt
  have b0:∀ o,(w.alloc o).cell? ⟨g,n * 7,none⟩=_:=fun o=>(World.cell?_alloc_lt w o _ hg).trans a0
  have b1:∀ o,(w.alloc o).cell? ⟨g,n * 7+1,none⟩=_:=fun o=>(World.cell?_alloc_lt w o _ hg).trans a1
  have b2:∀ o,(w.alloc o).cell? ⟨g,n * 7+2,none⟩=_:=fun o=>(World.cell?_alloc_lt w o _ hg).trans a2
  have b3:∀ o,(w.alloc o).cell? ⟨g,n * 7+3,none⟩=_:=fun o=>(World.cell?_alloc_lt w o _ hg).trans a3
  have b4:∀ o,(w.alloc o).cell? ⟨g,n * 7+4,none⟩=_:=fun o=>(World.cell?_alloc_lt w o _ hg).trans a4
  have b5:∀ o,(w.alloc o).cell? ⟨g,n * 7+5,none⟩=_:=fun o=>(World.cell?_alloc_lt w o _ hg).trans a5
  have b6:∀ o,(w.alloc o).cell? ⟨g,n * 7+6,none⟩=_:=fun o=>(World.cell?_alloc_lt w o _ hg).trans a6
  unfold wdV
  generalize l[n]=x at *
  have hltI:(n:Int) < (l.length:Int):=by omega
  clear HW a0 a1 a2 a3 a4 a5 a6
  go_enter Tryz.func169,Tryz.ntmps169
  go_wp2_with fail
  go_region
  go_wp2_with fail
  go_region
  go_wp2_with fail
  exact bodyPost_ret (v:=.agg #[.int .i64 (x.place:Nat),.string (wS x),.bool (wNum x),.int .i64 (wN x:Nat),.bool (wStr x),.string (wT x),.bool false]) (by simp [results,Tryz.results169,go_sem]) rfl ⟨rfl,((World.Since.refl w.heap.size w).alloc (Nat.le_refl _) _).drew.drew⟩
 ·
  rw [nextV_none hlt]
  unfold endV
  have hltI:¬ (n:Int) < (l.length:Int):=by omega
  clear HW
  go_enter Tryz.func169,Tryz.ntmps169
  go_wp2_with fail
  go_region
  go_wp2_with fail
  exact bodyPost_ret (v:=.agg #[.int .i64 (e:Nat),.string ⟨#[]⟩,.bool false,.int .i64 0,.bool false,.string ⟨#[]⟩,.bool false]) (by simp [results,Tryz.results169,go_sem]) rfl ⟨rfl,((World.Since.refl w.heap.size w).alloc (Nat.le_refl _) _).drew⟩
theorem field_wd (x:Wd) (w:World):(Instr.field 100 (wdV x) 0).run Tryz.prog w=.ok (.int .i64 (x.place:Nat)) w:=by
 unfold wdV
 kernel_rfl
theorem field_end (e:Nat) (w:World):(Instr.field 100 (endV e) 0).run Tryz.prog w=.ok (.int .i64 (e:Nat)) w:=by
 unfold endV
 kernel_rfl
theorem field_next (l:List Wd) (e n:Nat) (w:World):(Instr.field 100 (nextV l e n) 0).run Tryz.prog w=.ok (.int .i64 (placeOf l e n:Nat)) w:=by
 unfold nextV placeOf
 cases l[n]? with
 | some x=>exact field_wd _ w
 | none=>exact field_end _ w
def strayE (p:Nat):Ending:=.panicked [{ v:=.iface 173 (.agg #[.int .i64 (p:Nat)]),recovered:=false }]
theorem fail_says (w:World) (pb c e n:Nat) (G:Option Addr) (l:List Wd) (h:PsAt w pb G c l e n):
  Calls Tryz.prog 92 #[.pointer (some ⟨pb,0,none⟩)] w fun r w'=>r=strayE (placeOf l e n)∧w.Since w.heap.size w':=by
 unfold strayE
 have KP:=Lib.hid (peek_says w pb c e n G l h)
 have HF:=field_next l e n
 generalize nextV l e n=u at *
 generalize placeOf l e n=p at *
 clear h
 go_enter Tryz.func92,Tryz.ntmps92
 go_wp2_with fail
 refine KP.out.mono ?_
 rintro r w1 ⟨rfl,hs⟩
 have S1:=Lib.hid hs
 clear hs KP
 go_wp2_with fail
 exact ⟨rfl,rfl,S1.out⟩
def anyW (l:List Wd) (n:Nat) (ss:List ByteArray):Bool:=ss.any fun s=>isW l n s
def Full (l:List Wd):Prop:=∀ x ∈ l,x.kind=.letters ∨ x.kind=.sign→x.text ≠ ByteArray.empty
def nextS (l:List Wd) (n:Nat):ByteArray:=match l[n]? with | some x=>wS x | none=>ByteArray.empty
theorem anyW_eq {l:List Wd} (hF:Full l) (n:Nat) (ss:List ByteArray):(!decide (nextS l n=ByteArray.empty) && ss.any fun s=>decide (s=nextS l n))=anyW l n ss:=by
 unfold nextS anyW isW
 cases hx:l[n]? with
 | none=>simp
 | some x=>
  have hm:x ∈ l:=by obtain ⟨h,rfl⟩:=List.getElem?_eq_some_iff.1 hx;exact List.getElem_mem h
  have hf:=hF x hm
  obtain ⟨k,tx,pl⟩:=x
  dsimp only at hf ⊢
  have hc:∀ s:ByteArray,decide (s=tx)=decide (tx=s):=fun s=>by rw [Bool.eq_iff_iff,decide_eq_true_eq,decide_eq_true_eq];exact eq_comm
  cases k with
  | letters=>
   have:=hf (.inl rfl)
   simp only [wS,this,decide_false,Bool.not_false,Bool.true_and,decide_true,Bool.true_or]
   congr 1
   funext s
   exact hc s
  | sign=>
   have:=hf (.inr rfl)
   simp only [wS,this,decide_false,Bool.not_false,Bool.true_and,decide_true,Bool.or_true]
   congr 1
   funext s
   exact hc s
  | number=>simp [wS]
  | string=>simp [wS]
theorem isEmpty_no {t:ByteArray} (h:¬ t=ByteArray.empty):t.toList.isEmpty=false:=by
 cases e:t.toList.isEmpty with
 | false=>rfl
 | true=>
  rw [Lib.toList_data] at e
  exact absurd (Go.WideShapes.bytes_inj (a:=t) (b:=ByteArray.empty) (by rw [List.isEmpty_iff.1 e];rfl)) h
def SsAt (w:World) (b:Nat) (ss:List ByteArray):Prop:=b < w.heap.size∧∀ j (h:j < ss.length),w.cell? ⟨b,j,none⟩=some (.string ss[j])
theorem SsAt.up {w w':World} {b:Nat} {ss:List ByteArray} (h:SsAt w b ss) (hs:w.Since w.heap.size w'):SsAt w' b ss:=⟨Nat.lt_of_lt_of_le h.1 hs.size,fun j hj=>(hs.cell (a:=⟨b,j,none⟩) h.1).trans (h.2 j hj)⟩
theorem nextV_agg (l:List Wd) (e n:Nat):∃ p a b c d f,nextV l e n=.agg #[.int .i64 (p:Nat),.string (nextS l n),.bool a,.int .i64 (b:Nat),.bool c,.string d,.bool f]:=by
 unfold nextV nextS
 cases l[n]? with
 | some x=>exact ⟨_,_,_,_,_,_,rfl⟩
 | none=>exact ⟨_,_,0,_,_,_,rfl⟩
theorem is_says (w:World) (pb c e n:Nat) (G:Option Addr) (l:List Wd) (h:PsAt w pb G c l e n) (hF:Full l) (ss:List ByteArray) (sb sc:Nat) (hs:SsAt w sb ss) (hss:ss.length≤1000):
  Calls Tryz.prog 274 #[.pointer (some ⟨pb,0,none⟩),.slice (some ⟨sb,0,none⟩) ss.length sc] w fun r w'=>r=.returned (.bool (anyW l n ss))∧w.Since w.heap.size w':=by
 have KP:=Lib.hid (peek_says w pb c e n G l h)
 have HE:=Lib.hid (anyW_eq hF n ss)
 have HS:=Lib.hid hs
 obtain ⟨p,a,b,cc,d,f,e1⟩:=nextV_agg l e n
 rw [e1] at KP
 generalize nextS l n=t at *
 generalize anyW l n ss=R at *
 clear h hs e1
 by_cases ht:t=ByteArray.empty
 ·
  have hR:Hid (R=false):=Lib.hid (by rw [← HE.out,decide_eq_true ht];rfl)
  subst ht
  clear HE
  go_enter Tryz.func274,Tryz.ntmps274
  go_wp2_with fail
  refine KP.out.mono ?_
  rintro r w1 ⟨rfl,hs⟩
  have S1:=Lib.hid hs
  clear hs KP
  go_wp2_with fail
  go_ret
  exact ⟨by rw [hR.out];rfl,S1.out.alloc S1.out.size _⟩
 ·
  have hR:Hid (R=ss.any fun s=>decide (s=t)):=Lib.hid (by rw [← HE.out,decide_eq_false ht];rfl)
  clear HE
  go_enter Tryz.func274,Tryz.ntmps274
  go_wp2_with fail
  refine KP.out.mono ?_
  rintro r w1 ⟨rfl,hs⟩
  have S1:=Lib.hid hs
  have hE:=isEmpty_no ht
  have KC:=Lib.hid (fun wx (hx:w1.Since w1.heap.size wx)=>contains_says ss t sb sc wx hss ((HS.out.up S1.out).up hx).2)
  clear hs KP ht
  go_wp2_with fail
  refine (KC.out _ ((World.Since.refl _ _).alloc (Nat.le_refl _) _)).mono ?_
  rintro r w2 ⟨rfl,rfl⟩
  go_wp2_with fail
  go_ret
  exact ⟨by rw [hR.out];rfl,S1.out.alloc S1.out.size _⟩
theorem anyW_lt {l:List Wd} {n:Nat} {ss:List ByteArray} (h:anyW l n ss=true):n < l.length:=by
 obtain ⟨s,_,hs⟩:=List.any_eq_true.1 h
 exact isW_lt hs
theorem nextS_lt {l:List Wd} {n:Nat} (h:n < l.length):nextS l n=wS l[n]:=by unfold nextS;rw [List.getElem?_eq_getElem h]
def TakeSay (w:World) (pb:Nat) (G:Option Addr) (c:Nat) (l:List Wd) (e n:Nat) (ss:List ByteArray) (r:Ending) (w':World):Prop:=
 Adv w pb w'∧(anyW l n ss=true→r=.returned (.tuple #[.string (nextS l n),.bool true])∧PsAt w' pb G c l e (n+1))∧(anyW l n ss=false→r=.returned (.tuple #[.string ByteArray.empty,.bool false])∧PsAt w' pb G c l e n)
theorem take_no {w w':World} {pb c e n:Nat} {G:Option Addr} {l:List Wd} {ss:List ByteArray} (hR:anyW l n ss=false) (hs:w.Since w.heap.size w') (h:PsAt w pb G c l e n):TakeSay w pb G c l e n ss (.returned (.tuple #[.string ByteArray.empty,.bool false])) w':=
 by unfold TakeSay;exact ⟨(Adv.refl w pb).since hs,fun h=>(by rw [hR] at h;cases h),fun _=>⟨rfl,h.up hs⟩⟩
theorem take_yes {w w':World} {pb c e n:Nat} {G:Option Addr} {l:List Wd} {ss:List ByteArray} (hR:anyW l n ss=true) (ha:Adv w pb w') (h:PsAt w' pb G c l e (n+1)):TakeSay w pb G c l e n ss (.returned (.tuple #[.string (nextS l n),.bool true])) w':=
 by unfold TakeSay;exact ⟨ha,fun _=>⟨rfl,h⟩,fun h=>(by rw [hR] at h;cases h)⟩
theorem take_says (w:World) (pb c e n:Nat) (G:Option Addr) (l:List Wd) (h:PsAt w pb G c l e n) (hF:Full l) (hl:l.length≤100000) (ss:List ByteArray) (sb sc:Nat) (hs:SsAt w sb ss) (hss:ss.length≤1000):
  Calls Tryz.prog 235 #[.pointer (some ⟨pb,0,none⟩),.slice (some ⟨sb,0,none⟩) ss.length sc] w (TakeSay w pb G c l e n ss):=by
 have KI:=Lib.hid (is_says w pb c e n G l h hF ss sb sc hs hss)
 have HP:=Lib.hid h
 clear hs
 by_cases hR:anyW l n ss=true
 ·
  have hn:=anyW_lt hR
  have hS:=nextS_lt hn
  have QY:=Lib.hid (fun w'=>take_yes (w:=w) (w':=w') (pb:=pb) (c:=c) (e:=e) (G:=G) hR)
  rw [hR] at KI
  rw [hS] at QY
  generalize hQ:TakeSay w pb G c l e n ss=Q at *
  clear hR h hQ hS
  go_enter Tryz.func235,Tryz.ntmps235
  go_wp2_with fail
  refine KI.out.mono ?_
  rintro r w1 ⟨rfl,hs⟩
  have S1:=Lib.hid hs
  have P1:=Lib.hid (HP.out.up hs)
  have k1:=P1.out.c1
  have f1:=P1.out.fz
  obtain ⟨g,rfl,hg,_,a1,_⟩:=P1.out.at_ n hn
  have P2:=Lib.hid (P1.out.set (n+1))
  have b0:=P2.out.c0
  have b1:=P2.out.c1
  obtain ⟨g',e1,hg2,_,b2,_⟩:=P2.out.at_ n hn
  obtain rfl:g=g':=by injection e1 with e1;injection e1
  have e3:((n+1:Nat):Int)=(n:Int)+1:=by omega
  rw [e3] at b1
  simp only [e3] at b0 b1 b2
  have z1:IntKind.i64.wrap (n:Int)=(n:Int):=IntWalk.i64_in _ (by omega)
  have z2:IntKind.i64.wrap ((n:Int)+1 - 1)=(n:Int):=(IntWalk.i64_in _ (by omega)).trans (by omega)
  have hnI:(n:Int) < (l.length:Int):=by omega
  clear hs KI e1
  go_wp2_with fail
  go_region
  go_wp2_with fail
  exact QY.out _ ((((Adv.refl w pb).since S1.out).trans (Adv.set w1 pb 1 _)).since (World.Since.refl _ _).drew) (P2.out.up (World.Since.refl _ _).drew)
 ·
  have hR:=Bool.eq_false_iff.2 hR
  have QN:=Lib.hid (fun w'=>take_no (w:=w) (w':=w') (pb:=pb) (c:=c) (e:=e) (n:=n) (G:=G) (l:=l) (ss:=ss) hR)
  rw [hR] at KI
  generalize hQ:TakeSay w pb G c l e n ss=Q at *
  clear hR hQ h
  go_enter Tryz.func235,Tryz.ntmps235
  go_wp2_with fail
  refine KI.out.mono ?_
  rintro r w1 ⟨rfl,hs⟩
  have S1:=Lib.hid hs
  clear hs KI
  go_wp2_with fail
  exact QN.out _ S1.out HP.out
end Go.Proofs.YthbdlnflmfchjaaGreatDoor
namespace Go.Proofs.Uni
open Go Go.Lib
set_option maxHeartbeats 200000
set_option maxRecDepth 1000000
def eN (c:Nat):List Nat:=
 if c < 128 then [c] else if c < 2048 then [192+c / 64,128+c % 64] else if c < 65536 then [224+c / 4096,128+c / 64 % 64,128+c % 64] else [240+c / 262144,128+c / 4096 % 64,128+c / 64 % 64,128+c % 64]
def okN (c:Nat):Prop:=c < 55296 ∨ (57344≤c∧c≤1114111)
theorem enc_eN {c:Nat} (h:okN c):(Utf8.encode (c:Int)).data.toList=(eN c).map UInt8.ofNat:=by
 have hv:Utf8.valid (c:Int)=true:=by
  unfold okN at h
  simp only [Utf8.valid,Bool.or_eq_true,Bool.and_eq_true,decide_eq_true_eq]
  omega
 unfold Utf8.encode eN
 simp only [hv,if_true,Int.toNat_natCast]
 split
 ·
  rfl
 ·
  split
  ·
   rfl
  ·
   split <;> rfl
theorem dec_N {n b0 b1 b2 b3:Nat} (hn:1≤n) (h0:b0 < 256) (h1:b1 < 256) (_h2:b2 < 256) (h3:b3 < 256) (hv:¬ ((decodeN n b0 b1 b2 b3).1=65533∧(decodeN n b0 b1 b2 b3).2=1)):
  okN (decodeN n b0 b1 b2 b3).1∧(decodeN n b0 b1 b2 b3).2≤n∧1≤(decodeN n b0 b1 b2 b3).2∧(decodeN n b0 b1 b2 b3).2≤4∧eN (decodeN n b0 b1 b2 b3).1=[b0,b1,b2,b3].take (decodeN n b0 b1 b2 b3).2:=by
 unfold decodeN at hv ⊢
 split
 ·
  rename_i h
  refine ⟨.inl (by simp only;omega),hn,Nat.le_refl _,by simp,?_⟩
  simp only [eN,List.take_succ_cons,List.take_zero]
  rw [if_pos h]
 ·
  rename_i n0
  rw [if_neg n0] at hv
  split
  ·
   rename_i h
   rw [if_pos h] at hv
   split
   ·
    rename_i g
    have e1:(b0 % 32 * 64+b1 % 64) / 64=b0 % 32:=by omega
    have e2:(b0 % 32 * 64+b1 % 64) % 64=b1 % 64:=by omega
    refine ⟨.inl (by simp only;omega),by simp only;omega,by simp,by simp,?_⟩
    simp only [eN,List.take_succ_cons,List.take_zero]
    rw [if_neg (by omega),if_pos (by omega),e1,e2]
    simp only [List.cons.injEq,and_true]
    omega
   ·
    rename_i g
    rw [if_neg g] at hv
    exact absurd ⟨rfl,rfl⟩ hv
  ·
   rename_i n1
   rw [if_neg n1] at hv
   split
   ·
    rename_i h
    rw [if_pos h] at hv
    split
    ·
     rename_i g
     have e1:(b0 % 16 * 4096+b1 % 64 * 64+b2 % 64) / 4096=b0 % 16:=by omega
     have e2:(b0 % 16 * 4096+b1 % 64 * 64+b2 % 64) / 64 % 64=b1 % 64:=by omega
     have e3:(b0 % 16 * 4096+b1 % 64 * 64+b2 % 64) % 64=b2 % 64:=by omega
     refine ⟨g.2,by simp only;omega,by simp,by simp,?_⟩
     simp only [eN,List.take_succ_cons,List.take_zero]
     rw [if_neg (by omega),if_neg (by omega),if_pos (by omega),e1,e2,e3]
     simp only [List.cons.injEq,and_true]
     omega
    ·
     rename_i g
     rw [if_neg g] at hv
     exact absurd ⟨rfl,rfl⟩ hv
   ·
    rename_i n2
    rw [if_neg n2] at hv
    split
    ·
     rename_i h
     rw [if_pos h] at hv
     split
     ·
      rename_i g
      have e1:(b0 % 8 * 262144+b1 % 64 * 4096+b2 % 64 * 64+b3 % 64) / 262144=b0 % 8:=by omega
      have e2:(b0 % 8 * 262144+b1 % 64 * 4096+b2 % 64 * 64+b3 % 64) / 4096 % 64=b1 % 64:=by omega
      have e3:(b0 % 8 * 262144+b1 % 64 * 4096+b2 % 64 * 64+b3 % 64) / 64 % 64=b2 % 64:=by omega
      have e4:(b0 % 8 * 262144+b1 % 64 * 4096+b2 % 64 * 64+b3 % 64) % 64=b3 % 64:=by omega
      refine ⟨g.2,by simp only;omega,by simp,by simp,?_⟩
      simp only [eN,List.take_succ_cons,List.take_zero]
      rw [if_neg (by omega),if_neg (by omega),if_neg (by omega),e1,e2,e3,e4]
      simp only [List.cons.injEq,and_true]
      omega
     ·
      rename_i g
      rw [if_neg g] at hv
      exact absurd ⟨rfl,rfl⟩ hv
    ·
     rename_i n3
     rw [if_neg n3] at hv
     exact absurd ⟨rfl,rfl⟩ hv
theorem take4 (l:List UInt8):∀ w,w≤4→w≤l.length→[l.getD 0 0,l.getD 1 0,l.getD 2 0,l.getD 3 0].take w=l.take w
 | 0,_,_=>rfl
 | 1,_,h=>by match l,h with | a :: l,_=>rfl
 | 2,_,h=>by match l,h with | a :: b :: l,_=>rfl
 | 3,_,h=>by match l,h with | a :: b :: c :: l,_=>rfl
 | 4,_,h=>by match l,h with | a :: b :: c :: d :: l,_=>rfl
def enc (r:Nat):ByteArray:=Utf8.encode (r:Nat)
theorem dec_enc (l:List UInt8) (h:l ≠ []) (hv:¬ ((decodeL l).1=65533∧(decodeL l).2=1)):
  okN (decodeL l).1∧(decodeL l).2≤l.length∧(enc (decodeL l).1).data.toList=l.take (decodeL l).2:=by
 unfold enc
 rw [decodeL_N] at hv ⊢
 have hl:1≤l.length:=List.length_pos_iff.2 h
 obtain ⟨h1,h2,_,h4,h5⟩:=dec_N (n:=l.length) (b0:=(l.getD 0 0).toNat) (b1:=(l.getD 1 0).toNat) (b2:=(l.getD 2 0).toNat) (b3:=(l.getD 3 0).toNat) hl (UInt8.toNat_lt _) (UInt8.toNat_lt _) (UInt8.toNat_lt _) (UInt8.toNat_lt _) hv
 refine ⟨h1,h2,?_⟩
 rw [enc_eN h1,h5,← take4 l _ h4 h2,List.map_take]
 simp
theorem bad_enc:(enc 65533).data.toList.length=3:=by unfold enc;rw [enc_eN (.inr (by omega))];rfl
def runesF:Nat→List UInt8→List Nat
 | 0,_=>[]
 | f+1,l=>if l=[] then [] else (decodeL l).1 :: runesF f (l.drop (decodeL l).2)
def runes (l:List UInt8):List Nat:=runesF l.length l
def cat (rs:List Nat):List UInt8:=(rs.map fun r=>(enc r).data.toList).flatten
theorem valid_cat:∀ (f:Nat) (l:List UInt8),l.length≤f→validGoD f l=true→cat (runesF f l)=l
 | 0,l,h,_=>by
  have:l=[]:=List.eq_nil_of_length_eq_zero (by omega)
  subst this;rfl
 | f+1,l,h,hv=>by
  by_cases hl:l=[]
  ·
   subst hl;rfl
  ·
   simp only [validGoD,if_neg hl] at hv
   simp only [runesF,if_neg hl]
   split at hv
   ·
    cases hv
   ·
    rename_i hb
    have q:=dec_enc l hl hb;have h2:=q.2.1;have h3:=q.2.2
    have hw:=decodeL_width l
    have ih:=valid_cat f (l.drop (decodeL l).2) (by simp only [List.length_drop];omega) hv
    simp only [cat,List.map_cons,List.flatten_cons] at ih ⊢
    rw [ih]
    rw [h3,List.take_append_drop]
theorem cat_len:∀ (f:Nat) (l:List UInt8),l.length≤f→l.length≤(cat (runesF f l)).length∧(validGoD f l=false→l.length < (cat (runesF f l)).length)
 | 0,l,h=>⟨by omega,fun hv=>by cases hv⟩
 | f+1,l,h=>by
  by_cases hl:l=[]
  ·
   subst hl;exact ⟨Nat.zero_le _,fun hv=>by simp [validGoD] at hv⟩
  ·
   have hw:=decodeL_width l
   have hlp:1≤l.length:=List.length_pos_iff.2 hl
   obtain ⟨i1,i2⟩:=cat_len f (l.drop (decodeL l).2) (by simp only [List.length_drop];omega)
   simp only [validGoD,if_neg hl,runesF,cat,List.map_cons,List.flatten_cons,List.length_append,List.length_drop] at i1 i2 ⊢
   by_cases hb:(decodeL l).1=65533∧(decodeL l).2=1
   ·
    obtain ⟨b1,b2⟩:=id hb
    have e3:(enc (decodeL l).1).data.toList.length=3:=by rw [b1];exact bad_enc
    rw [e3]
    rw [b2] at i1 i2 ⊢
    exact ⟨by omega,fun _=>by omega⟩
   ·
    have q:=dec_enc l hl hb;have h2:=q.2.1;have h3:=q.2.2
    have e3:(enc (decodeL l).1).data.toList.length=(decodeL l).2:=by
     rw [h3,List.length_take];omega
    rw [e3]
    refine ⟨by omega,fun hv=>?_⟩
    rw [if_neg hb] at hv
    have:=i2 hv
    omega
theorem valid_iff (l:List UInt8):validD l=true ↔ cat (runes l)=l:=by
 constructor
 ·
  exact valid_cat l.length l (Nat.le_refl _)
 ·
  intro h
  cases hv:validD l with
  | true=>rfl
  | false=>
   have:=(cat_len l.length l (Nat.le_refl _)).2 hv
   have e:(cat (runesF l.length l)).length=l.length:=congrArg List.length h
   omega
end Go.Proofs.Uni
namespace Go.Proofs.StrIt
open Go Go.RowKit Go.Lib Go.Proofs.Uni
open Go.ChangeMaps (setBlock)
section
variable {P:Program} {w:World} {r pos:Nat} {s:ByteArray}
theorem run_next_more (ty:TypeId) (h:w.heap[r]?=some (.stringIter s pos)) (hp:pos < s.size):
  (Instr.next (.pointer (some ⟨r,0,none⟩)) true ty).run P w=.ok (.tuple #[.bool true,.int .i64 pos,.int .i32 (Utf8.decode s pos).1]) (setBlock w r (.stringIter s (pos+(Utf8.decode s pos).2))):=by
 simp [Instr.next,getObj,setObj,Sem.run,h,Result.andThen,hp,goInt,setBlock]
theorem run_next_done (ty:TypeId) (h:w.heap[r]?=some (.stringIter s pos)) (hp:¬ pos < s.size):
  (Instr.next (.pointer (some ⟨r,0,none⟩)) true ty).run P w=.ok (.tuple #[.bool false]) w:=by
 simp [Instr.next,getObj,Sem.run,h,hp]
end
section
variable {P:Program} (w:World) {ops:Array Oper} {rest:List Oper} {o:Oper} {a:Act} {Q:Exit→Act→World→Prop}
theorem wpList_next_str (hg:o.guard=none) (it:Operand) (hop:o.op=Op.next it true) (r:Nat) (s:ByteArray) (pos:Nat)
  (hit:a.eval it=.pointer (some ⟨r,0,none⟩)) (h:w.heap[r]?=some (.stringIter s pos))
  (hDone:¬ pos < s.size→wpList P ops Q rest (a.put o.dst (.tuple #[.bool false])) w)
  (hMore:pos < s.size→∀ w',w'.heap[r]?=some (.stringIter s (pos+(Utf8.decode s pos).2))→w.grownBy w' (some r)→w'.heap.size=w.heap.size →
   wpList P ops Q rest (a.put o.dst (.tuple #[.bool true,.int .i64 pos,.int .i32 (Utf8.decode s pos).1])) w'):
  wpList P ops Q (o :: rest) a w:=by
 refine wpList_plain hg fun K' hK'=>?_
 unfold Oper.wp
 have hr:r < w.heap.size:=(Array.getElem?_eq_some_iff.1 h).1
 by_cases hp:pos < s.size
 ·
  simp [execOp,hop,hit,run_next_more (P:=P) _ h hp,Result.andThen]
  exact hK' _ _ (hMore hp _ (by simp [setBlock,hr]) ⟨rfl,rfl,rfl,by simp [setBlock],fun i _ hi=>by
   have:r ≠ i:=fun e=>hi (by rw [e])
   simp [setBlock,this]⟩ (by simp [setBlock]))
 ·
  simp [execOp,hop,hit,run_next_done (P:=P) _ h hp,Result.andThen]
  exact hK' _ _ (hDone hp)
end
def Half (s:ByteArray) (pos:Nat) (rs:List Nat):Prop:=rs ++ runes (s.data.toList.drop pos)=runes s.data.toList∧rs.length≤pos
theorem runesF_more:∀ (f g:Nat) (l:List UInt8),l.length≤f→l.length≤g→runesF f l=runesF g l
 | 0,0,_,_,_=>rfl
 | 0,g+1,l,h,_=>by
  have:l=[]:=List.eq_nil_of_length_eq_zero (by omega)
  subst this;rfl
 | f+1,0,l,_,h=>by
  have:l=[]:=List.eq_nil_of_length_eq_zero (by omega)
  subst this;rfl
 | f+1,g+1,l,h1,h2=>by
  by_cases hl:l=[]
  ·
   subst hl;rfl
  ·
   have hw:=decodeL_width l
   simp only [runesF,if_neg hl]
   rw [runesF_more f g _ (by simp only [List.length_drop];omega) (by simp only [List.length_drop];omega)]
theorem runes_step {l:List UInt8} (h:l ≠ []):runes l=(decodeL l).1 :: runes (l.drop (decodeL l).2):=by
 have hl:0 < l.length:=List.length_pos_iff.2 h
 have hw:=decodeL_width l
 obtain ⟨n,hn⟩:∃ n,l.length=n+1:=⟨l.length - 1,by omega⟩
 unfold runes
 rw [hn]
 simp only [runesF,if_neg h]
 rw [runesF_more n _ _ (by simp only [List.length_drop];omega) (Nat.le_refl _)]
theorem half_start (s:ByteArray):Half s 0 []:=⟨by simp,Nat.le_refl _⟩
theorem half_step {s:ByteArray} {pos:Nat} {rs:List Nat} (h:Half s pos rs) (hp:pos < s.size):Half s (pos+(Utf8.decode s pos).2) (rs ++ [(Utf8.decode s pos).1]):=by
 have hl:s.data.toList.drop pos ≠ []:=by
  intro e
  have:=congrArg List.length e
  have hs:s.data.toList.length=s.size:=by simp
  simp only [List.length_drop,List.length_nil] at this
  omega
 obtain ⟨h1,h2⟩:=h
 have hw:=decodeL_width (s.data.toList.drop pos)
 rw [decodeL_drop] at hw
 refine ⟨?_,by simp;omega⟩
 rw [runes_step hl,decodeL_drop,List.drop_drop] at h1
 simpa using h1
theorem half_end {s:ByteArray} {pos:Nat} {rs:List Nat} (h:Half s pos rs) (hp:¬ pos < s.size):rs=runes s.data.toList:=by
 obtain ⟨h1,_⟩:=h
 rw [List.drop_of_length_le (by simp;omega)] at h1
 simpa [runes,runesF] using h1
theorem runes_len (l:List UInt8):(runes l).length≤l.length:=by
 unfold runes
 suffices ∀ f (l:List UInt8),l.length≤f→(runesF f l).length≤l.length from this _ l (Nat.le_refl _)
 intro f
 induction f with
 | zero=>intro l _;exact Nat.zero_le _
 | succ f ih=>
  intro l h
  by_cases hl:l=[]
  ·
   subst hl;exact Nat.le_refl _
  ·
   have hw:=decodeL_width l
   have hlp:0 < l.length:=List.length_pos_iff.2 hl
   have:=ih (l.drop (decodeL l).2) (by simp only [List.length_drop];omega)
   simp only [List.length_drop] at this
   simp only [runesF,if_neg hl,List.length_cons]
   omega
end Go.Proofs.StrIt
namespace Go.Proofs.YthbdlnflmfchjaaGreatDoor
open Go.RowKit Go.Proofs.Uni Go.Proofs.StrIt
set_option maxHeartbeats 3200000
set_option maxRecDepth 1000000
theorem since_grown {B:Nat} {w wk w':World} {blk:Option Nat} (h:w.Since B wk) (hB:B≤wk.heap.size) (hg:wk.grownBy w' blk) (hb:∀ k,blk=some k→B≤k):w.Since B w':=
 ⟨hg.os.trans h.os,hg.tape.trans h.tape,hg.output.trans h.output,Nat.le_trans h.size hg.size,fun k hk=>(hg.block k (by omega) (fun e=>by have:=hb k e.symm;omega)).trans (h.block k hk)⟩
def ctl (r:Nat):Bool:=decide (r < 32) || r == 127
theorem ctl_says (r:Nat) (w:World):Calls Tryz.prog 111 #[.int .i32 r] w fun e w'=>e=.returned (.bool (ctl r))∧w=w':=by
 by_cases h1:r < 32
 ·
  have e:ctl r=true:=by simp [ctl,h1]
  rw [e]
  clear e
  go_enter Tryz.func111,Tryz.ntmps111
  go_wp2
  go_ret
  exact ⟨rfl,rfl⟩
 ·
  by_cases h2:r=127
  ·
   subst h2
   go_enter Tryz.func111,Tryz.ntmps111
   go_wp2
   go_ret
   exact ⟨rfl,rfl⟩
  ·
   have e:ctl r=false:=by simp [ctl,h1,h2]
   rw [e]
   clear e
   have h3:((r:Int) == 127)=false:=by simp;omega
   have h4:decide ((r:Int) < 32)=false:=by simp;omega
   clear h2
   go_enter Tryz.func111,Tryz.ntmps111
   go_wp2
   go_ret
   exact ⟨rfl,rfl⟩
def FoundSay (s:ByteArray) (w:World) (e:Ending) (w':World):Prop:=∃ k:Int,e=.returned (.int .i64 k)∧(0≤k ↔ (runes s.data.toList).any ctl=true)∧w.Since w.heap.size w'
theorem any_step {s:ByteArray} {pos:Nat} {rs:List Nat} (h:Half s pos rs) (hp:pos < s.size) (hc:ctl (Utf8.decode s pos).1=true):(runes s.data.toList).any ctl=true:=by
 have h2:=half_step h hp
 rw [← h2.1,List.any_append,List.any_append]
 simp [hc]
theorem indexFunc_says (s:ByteArray) (w:World) (hs:s.size≤9223372036854775807):Calls Tryz.prog 246 #[.string s,.func (.func 111) #[] #[],.bool true] w (FoundSay s w):=by
 go_enter Tryz.func246,Tryz.ntmps246
 have H0:Hid ((w.iter s 0).heap[w.heap.size]?=some (.stringIter s 0)):=Lib.hid (World.iter_heap w s 0)
 have S0:Hid (w.Since w.heap.size (w.iter s 0)):=Lib.hid ((World.Since.refl w.heap.size w).alloc (Nat.le_refl _) _)
 go_wp2_with fail
 generalize w.iter s 0=w0 at *
 go_loopg [] s.size (fun g wr=>∃ (pos:Nat) (rs:List Nat),g=s.size - pos∧Hid (wr.heap[w.heap.size]?=some (.stringIter s pos))∧Hid (Half s pos rs∧rs.any ctl=false)∧Hid (w.Since w.heap.size wr))
 case atStart=>exact ⟨0,[],by omega,H0,Lib.hid ⟨half_start s,rfl⟩,S0⟩
 case round=>
  obtain ⟨pos,rs,rfl,hI,hH,hS⟩:=hrel
  go_wp2_with (refine wpList_next_str _ rfl (.tmp 10) rfl w.heap.size s pos rfl hI.out ?_ ?_)
  ·
   intro hp
   have HF:Hid ((runes s.data.toList).any ctl=false):=Lib.hid (by rw [← half_end hH.out.1 (by omega)];exact hH.out.2)
   go_wp2_with fail
   go_ret
   exact ⟨-1,rfl,⟨fun h=>by omega,fun h=>by rw [HF.out] at h;cases h⟩,hS.out⟩
  ·
   intro hp w2 hI2 hg2 hz2
   have hw:=Lib.width_pos s pos
   have S2:=Lib.hid (since_grown hS.out hS.out.size hg2 (fun k e=>by cases e;exact Nat.le_refl _))
   have I2:=Lib.hid hI2
   have HN:=Lib.hid (half_step hH.out.1 hp)
   have HA:=Lib.hid (any_step hH.out.1 hp)
   have HC:=Lib.hid (fun wx=>ctl_says (Utf8.decode s pos).1 wx)
   have hA2:=Lib.hid hH.out.2
   clear hg2 hI2 hz2
   generalize (Utf8.decode s pos).1=r at *
   generalize (Utf8.decode s pos).2=k at *
   cases hc:ctl r
   ·
    have HB:Hid ((rs ++ [r]).any ctl=false):=Lib.hid (by rw [List.any_append,hA2.out];simp [hc])
    rw [hc] at HC
    clear HA hc hA2
    go_wp2_with (first | (refine (HC.out _).mono ?_;rintro e wx ⟨rfl,rfl⟩))
    go_roundg (s.size - (pos+k))
    case measure=>omega
    case rel=>exact ⟨pos+k,rs ++ [r],rfl,I2,Lib.hid ⟨HN.out,HB.out⟩,S2⟩
   ·
    have HB:=Lib.hid (HA.out hc)
    rw [hc] at HC
    clear HA hc hA2
    go_wp2_with (first | (refine (HC.out _).mono ?_;rintro e wx ⟨rfl,rfl⟩))
    go_ret
    exact ⟨pos,rfl,⟨fun _=>HB.out,fun _=>by omega⟩,S2.out⟩
theorem containsFunc_says (s:ByteArray) (w:World) (hs:s.size≤9223372036854775807):
  Calls Tryz.prog 110 #[.string s,.func (.func 111) #[] #[]] w fun e w'=>e=.returned (.bool ((runes s.data.toList).any ctl))∧w.Since w.heap.size w':=by
 have K:∀ wx,Calls Tryz.prog 196 #[.string s,.func (.func 111) #[] #[]] wx (FoundSay s wx):=fun wx=>by
  have K0:=Lib.hid (indexFunc_says s wx hs)
  go_enter Tryz.func196,Tryz.ntmps196
  go_wp2_with fail
  refine K0.out.mono ?_
  rintro e w2 ⟨k,rfl,hk,hs2⟩
  have HK:=Lib.hid (And.intro hk hs2)
  clear hk hs2
  go_wp2_with fail
  go_ret
  exact ⟨k,rfl,HK.out.1,HK.out.2⟩
 have HK:=Lib.hid K
 clear K
 go_enter Tryz.func110,Tryz.ntmps110
 go_wp2_with fail
 refine (HK.out _).mono ?_
 rintro e w2 ⟨k,rfl,hk,hs2⟩
 have HS:=Lib.hid hs2
 have e:(runes s.data.toList).any ctl=decide (0≤k):=by
  cases h:(runes s.data.toList).any ctl
  ·
   rw [h] at hk;simp at hk;simp;omega
  ·
   rw [h] at hk;simp at hk;simp [hk]
 have HE:=Lib.hid e
 clear hk hs2 e
 go_wp2_with fail
 go_ret
 exact ⟨by rw [HE.out];rfl,HS.out⟩
end Go.Proofs.YthbdlnflmfchjaaGreatDoor
namespace Go.Proofs.YthbdlnflmfchjaaGreatDoor
open Go.RowKit
set_option maxHeartbeats 1600000
set_option maxRecDepth 1000000
structure BT (T:TypeId):Prop where
 ne:T ≠ 5
 lies:liesAt Tryz.prog Tryz.prog.depth T (2 / Tryz.prog.cellsOf T) 0 194 1=true
theorem bt194:BT 194:=⟨by decide,by kernel_rfl⟩
theorem bt196:BT 196:=⟨by decide,by kernel_rfl⟩
theorem size194:(Tryz.prog.info? 194).map (·.size)=some 2:=by kernel_rfl
theorem info5:(Tryz.prog.info? 5).map (fun i=>(i.zero,i.size,i.bytes))=some (some (.int .u8 0),1,1):=by kernel_rfl
abbrev BIs (T:TypeId) (B b:Nat) (l:List UInt8) (w:World):Prop:=Lib.IsBuilderF T 5 B b (Lib.byteCells l) w
structure BKeep (B b:Nat) (w w':World):Prop where
 below:Below B w w'
 others:Lib.OthersKept 5 (some b) w w'
theorem BKeep.refl (B b:Nat) (w:World):BKeep B b w w:=⟨Below.refl _ _,Lib.OthersKept.refl _ _ _⟩
theorem BKeep.trans {B b:Nat} {u v w:World} (h:BKeep B b u v) (k:BKeep B b v w):BKeep B b u w:=⟨h.below.trans k.below,h.others.trans k.others⟩
theorem bcheck {T:TypeId} (hT:BT T) (B b:Nat) (l:List UInt8) (w:World) (h:BIs T B b l w):
  Calls Tryz.prog 234 #[.pointer (some ⟨b,0,none⟩)] w fun e w'=>e=.returned (.tuple #[])∧Lib.BuilderAtF T 5 B b (.pointer (some ⟨b,0,none⟩)) (Lib.byteCells l) w'∧BKeep B b w w':=by
 obtain ⟨j,hj,hjs⟩:=Option.map_eq_some_iff.1 size194
 rcases h with h | h
 ·
  have h0:=h.cell0
  have hsh:=h.shape
  have hfz:=h.frozen0
  have HU:=Lib.hid (h.used (.pointer (some ⟨b,0,none⟩)))
  have HK:Hid (BKeep B b w (w.setCell ⟨b,0,none⟩ (.pointer (some ⟨b,0,none⟩)))):=Lib.hid ⟨(Below.refl B w).setCell (p:=⟨b,0,none⟩) h.1 _,(Lib.OthersKept.refl _ _ w).setCell ⟨b,0,none⟩ rfl _⟩
  clear h
  go_enter Tryz.func234,Tryz.ntmps234
  go_wp2
  rw [Lib.run_to_unsafe w ⟨b,0,none⟩ Tryz.underlying192 Tryz.underlying352 hj (by rw [hjs];decide) hsh (Nat.zero_lt_succ 1)]
  simp only [Result.andThen]
  rw [Oper.upon_value]
  go_wp2
  rw [run_callFunc_extern Tryz.func273 (by kernel_rfl) (by kernel_rfl) (by kernel_rfl) (e:=Extern.AbiNoEscape.same) (by kernel_rfl)]
  rw [Lib.run_noEscape]
  simp only [Result.andThen]
  rw [Oper.upon_value]
  go_wp2
  rw [Lib.run_from_unsafe w ⟨b,0,none⟩ Tryz.underlying352 Tryz.underlying192 hj hsh hT.lies]
  simp only [Result.andThen]
  rw [Oper.upon_value]
  go_wp2
  go_end0
  exact ⟨rfl,HU.out,HK.out⟩
 ·
  have h0:=h.cell0
  have H:=Lib.hid h
  clear h
  go_enter Tryz.func234,Tryz.ntmps234
  go_wp2
  rw [Lib.run_neq_ptr_same w _ Tryz.underlying192 hj]
  go_wp2
  go_end0
  exact ⟨rfl,H.out,BKeep.refl _ _ _⟩
end Go.Proofs.YthbdlnflmfchjaaGreatDoor
namespace Go.Proofs.YthbdlnflmfchjaaGreatDoor
open Go.RowKit
set_option maxHeartbeats 3200000
set_option maxRecDepth 1000000
theorem oper_append_2 {ts us:TypeId} {o:Oper} {a:Act} {w w':World} {K:Act→World→Prop} {Q:Exit→Act→World→Prop} (s x:Operand)
  (ho:o.op=.call { callee:=.builtin .append,args:=#[s,x],argTypes:=#[ts,us] }) (ht:o.type=ts)
  {v v' xv:Value} (hs:a.eval s=v) (hx:a.eval x=xv) (hr:(Builtin.append_ #[ts,us] ts #[v,xv]).run Tryz.prog w=.ok v' w')
  (h:K (a.put o.dst v') w'):Oper.wp Tryz.prog o a w K Q:=by
 unfold Oper.wp execOp
 simp only [ho,ht,resolve,invoke,builtin,Sem.run_bind,Sem.run_pure,Result.andThen_ok,List.map_toArray,List.map_cons,List.map_nil,hs,hx,hr]
 exact h
theorem wpList_append_2 {ts us:TypeId} {ops:Array Oper} {rest:List Oper} {o:Oper} {a:Act} {w w':World} {Q:Exit→Act→World→Prop} (hg:o.guard=none) (s x:Operand)
  (ho:o.op=.call { callee:=.builtin .append,args:=#[s,x],argTypes:=#[ts,us] }) (ht:o.type=ts)
  {v v' xv:Value} (hs:a.eval s=v) (hx:a.eval x=xv) (hr:(Builtin.append_ #[ts,us] ts #[v,xv]).run Tryz.prog w=.ok v' w')
  (h:wpList Tryz.prog ops Q rest (a.put o.dst v') w'):wpList Tryz.prog ops Q (o :: rest) a w:=
 wpList_plain hg fun _ hK=>oper_append_2 s x ho ht hs hx hr (hK _ _ h)
theorem bstr {T:TypeId} (hT:BT T) (B b:Nat) (l:List UInt8) (s:ByteArray) (w:World) (h:BIs T B b l w) (hlen:l.length+s.size≤140737488355328) (hBw:B≤w.heap.size):
  Calls Tryz.prog 208 #[.pointer (some ⟨b,0,none⟩),.string s] w fun e w'=>e=.returned (.tuple #[.int .i64 s.size,.nilIface])∧BIs T B b (l ++ s.data.toList) w'∧BKeep B b w w':=by
 obtain ⟨i0,hi,hz0,hz1,hz2⟩:=info_parts info5
 have KC:=Lib.hid (bcheck hT B b l w h)
 clear h
 go_enter Tryz.func208,Tryz.ntmps208
 go_wp2_with fail
 refine KC.out.mono ?_
 rintro e w1 ⟨rfl,h1,hk1⟩
 obtain ⟨hB,v,hbk,hown,hne⟩:=h1
 have hlb:(Lib.byteCells l).length=l.length:=Lib.byteCells_length l
 have c0:w1.cell? ⟨b,0,none⟩=some (.pointer (some ⟨b,0,none⟩)):=by rw [Lib.cell_of_heap hbk];rfl
 have c1:w1.cell? ⟨b,1,none⟩=some v:=by rw [Lib.cell_of_heap hbk];rfl
 have hlt:b < w1.heap.size:=by
  rcases Nat.lt_or_ge b w1.heap.size with h' | h'
  ·
   exact h'
  ·
   simp [Array.getElem?_eq_none h'] at hbk
 obtain ⟨v',w2,hr,hown',hgrow,-⟩:=Lib.run_append_own_stringF (P:=Tryz.prog) w1 B 190 9 190 5 i0 Tryz.underlying190 Tryz.underlying9 hi hz0 hz1 hz2 v _ _ hown s (by unfold maxLen;omega) (by omega) (by have:=hk1.below.size;omega)
 have hb2:w2.heap[b]?=some (.cells #[.pointer (some ⟨b,0,none⟩),v] T (0,0)):=by
  rw [hgrow.block b hlt (fun e=>hne e.symm)]
  exact hbk
 have d0:w2.cell? ⟨b,0,none⟩=some (.pointer (some ⟨b,0,none⟩)):=by rw [Lib.cell_of_heap hb2];rfl
 have d1:w2.cell? ⟨b,1,none⟩=some v:=by rw [Lib.cell_of_heap hb2];rfl
 have f1:w2.frozen? ⟨b,1,none⟩=false:=Lib.frozen_of_heap hb2 1
 obtain ⟨ao,n',cap,rfl⟩:∃ ao n' cap,v'=.slice ao n' cap:=by
  rcases hown'.2 with ⟨hv,_⟩ | ⟨g,cap,cur,fz,hv,_⟩
  ·
   exact ⟨_,_,_,hv⟩
  ·
   exact ⟨_,_,_,hv⟩
 have HF:Hid (BIs T B b (l ++ s.data.toList) (w2.setCell ⟨b,1,none⟩ (.slice ao n' cap))∧BKeep B b w (w2.setCell ⟨b,1,none⟩ (.slice ao n' cap))):=Lib.hid ⟨by
   have hbc:Lib.byteCells (l ++ s.data.toList)=Lib.byteCells l ++ Lib.strCells s:=by rw [Lib.byteCells_append,Lib.strCells_eq]
   unfold BIs
   rw [hbc]
   refine .inr (Lib.BuilderAtF.put hB hb2 (bs':=Lib.byteCells l ++ Lib.strCells s) (by simpa [Lib.strCells_length] using hown') hT.ne),
  (hk1.below.grown hgrow (by have:=hk1.below.size;omega) (fun k hk=>(hown.lt k hk).1)).setCell (p:=⟨b,1,none⟩) hB _,
  (hk1.others.grown hgrow (Lib.ownsRowF_kind hown)).setCell ⟨b,1,none⟩ rfl _⟩
 clear hown hown' hgrow hbk hb2 hk1 KC
 go_wp2_with (refine wpList_append_2 rfl (.tmp 12) (.tmp 13) rfl rfl rfl rfl hr ?_)
 exact bodyPost_ret (v:=.tuple #[.int .i64 s.size,.nilIface]) (by simp [results,Tryz.results208,go_sem]) rfl ⟨rfl,HF.out⟩
end Go.Proofs.YthbdlnflmfchjaaGreatDoor
