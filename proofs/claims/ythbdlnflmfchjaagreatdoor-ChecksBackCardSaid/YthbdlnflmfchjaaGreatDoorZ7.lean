/- The functions and the tests of formulas: the table, its keys, its kinds. -/
import Derived.Test.YthbdlnflmfchjaaGreatDoorZ2
namespace Go.Proofs.YthbdlnflmfchjaaGreatDoor
open Go.RowKit Go.Proofs.Fm Go.Proofs.MapEnt
set_option maxHeartbeats 6400000
set_option maxRecDepth 1000000
structure Ent where
 name:ByteArray
 args:List Int
 gives:Int
 fn:Nat
 deriving DecidableEq
def entV (x:Ent) (b:Nat):Value:=.agg #[.slice (some ⟨b,0,none⟩) x.args.length x.args.length,.int .u8 x.gives,.func (.func x.fn) #[] #[]]
def entKV (p:Ent × Nat):Value × Value:=(.string p.1.name,entV p.1 p.2)
def kindCells (x:Ent):Obj:=.cells (x.args.map (Value.int .u8)).toArray 104
structure TabAt (w0 w:World) (m:Nat) (l:List (Ent × Nat)):Prop where
 map:MapHas Tryz.prog 9 w m (l.map entKV)
 row:∀ p ∈ l,w0.heap.size≤p.2∧p.2 ≠ m∧w.heap[p.2]?=some (kindCells p.1)
 low:w0.heap.size≤m
 since:w0.Since w0.heap.size w
theorem TabAt.new (w:World):TabAt w (w.alloc (.map #[] 0)) w.heap.size []:=⟨MapHas.new _ _ _,fun _ h=>(by cases h),Nat.le_refl _,(World.Since.refl _ _).alloc (Nat.le_refl _) _⟩
theorem TabAt.up {w0 w w':World} {m:Nat} {l:List (Ent × Nat)} (h:TabAt w0 w m l) (hs:w.Since w.heap.size w'):TabAt w0 w' m l:=
 ⟨h.map.same (hs.block m h.map.lt),fun p hp=>by
  obtain ⟨h1,h2,h3⟩:=h.row p hp
  exact ⟨h1,h2,(hs.block _ (Array.getElem?_eq_some_iff.1 h3).1).trans h3⟩,h.low,h.since.trans ⟨hs.os,hs.tape,hs.output,hs.size,fun k hk=>hs.block k (Nat.lt_of_lt_of_le hk h.since.size)⟩⟩
theorem tab_put {w0 w:World} {m:Nat} {l:List (Ent × Nat)} (h:TabAt w0 w m l) (x:Ent) (hnew:∀ p ∈ l,p.1.name ≠ x.name) (hsz:x.name.size≤maxLen):
  ∃ w',(Instr.mapUpdate 147 (.map (some m)) (.string x.name) (entV x w.heap.size)).run Tryz.prog (w.alloc (kindCells x))=.ok () w'∧TabAt w0 w' m (l ++ [(x,w.heap.size)]):=by
 have hs:w.Since w.heap.size (w.alloc (kindCells x)):=(World.Since.refl _ _).alloc (Nat.le_refl _) _
 obtain ⟨w',l',r1,r2,r3,r4,r5,r6,r7,r8⟩:=(h.up hs).map.put (e:=146) (t:=147) (Maps.string_keyed Tryz.underlying9) Tryz.underlying147 (key:=.string x.name) (val:=entV x w.heap.size) (WideMaps.keyOf_string_mk Tryz.underlying9 hsz)
 refine ⟨w',r1,?_,?_,h.low,?_⟩
 ·
  rcases r8 with ⟨_,rfl⟩ | ⟨l1,l2,old,e,_⟩
  ·
   rw [List.map_append]
   exact r2
  ·
   have:(Value.string x.name,old) ∈ l.map entKV:=by rw [e];simp
   obtain ⟨p,hp,e⟩:=List.mem_map.1 this
   unfold entKV at e
   injection e with e _
   injection e with e
   exact absurd e (hnew p hp)
 ·
  intro p hp
  have hml:=h.map.lt
  rcases List.mem_append.1 hp with hp | hp
  ·
   obtain ⟨h1,h2,h3⟩:=(h.up hs).row p hp
   exact ⟨h1,h2,(r7 _ h2).trans h3⟩
  ·
   obtain rfl:=List.mem_singleton.1 hp
   exact ⟨h.since.size,fun e=>by dsimp only at e;omega,(r7 _ (by dsimp only;omega)).trans (heap_alloc_new w _)⟩
 ·
  have h1:=(h.up hs).since
  exact ⟨r3.trans h1.os,r4.trans h1.tape,r5.trans h1.output,by rw [r6];exact h1.size,fun k hk=>(r7 k (by have:=h.low;omega)).trans (h1.block k hk)⟩
def ent0:Ent:=⟨⟨#[119,111,114,100,115]⟩,[4],3,120⟩
def ent1:Ent:=⟨⟨#[116,97,103,115]⟩,[4],3,123⟩
def ent2:Ent:=⟨⟨#[104,111,108,101,115]⟩,[4],3,125⟩
def ent3:Ent:=⟨⟨#[110,117,109,98,101,114,115]⟩,[4],3,127⟩
def ent4:Ent:=⟨⟨#[116,101,120,116]⟩,[4],2,129⟩
def ent5:Ent:=⟨⟨#[108,101,110,103,116,104]⟩,[4],1,131⟩
def ent6:Ent:=⟨⟨#[115,105,122,101]⟩,[3],1,133⟩
def ent7:Ent:=⟨⟨#[102,105,114,115,116]⟩,[3],2,134⟩
def ent8:Ent:=⟨⟨#[108,97,115,116]⟩,[3],2,136⟩
def ent9:Ent:=⟨⟨#[99,111,117,110,116]⟩,[3,2],1,137⟩
def ent10:Ent:=⟨⟨#[108,111,119,101,114]⟩,[2],2,139⟩
def ent11:Ent:=⟨⟨#[104,97,115]⟩,[4,2],5,141⟩
def ent12:Ent:=⟨⟨#[115,116,97,114,116,115]⟩,[2,2],5,143⟩
def ent13:Ent:=⟨⟨#[101,110,100,115]⟩,[2,2],5,144⟩
def ent14:Ent:=⟨⟨#[104,111,108,100,115]⟩,[2,2],5,146⟩
def table:List Ent:=[ent0,ent1,ent2,ent3,ent4,ent5,ent6,ent7,ent8,ent9,ent10,ent11,ent12,ent13,ent14]
theorem tab_step {w0 w:World} {m:Nat} (l:List (Ent × Nat)) (h:TabAt w0 w m l) (es:List Ent) (he:l.map (·.1)=es) (x:Ent) (hnew:(es.map (·.name)).all (fun y=>decide (y ≠ x.name))=true) (hsz:x.name.size≤maxLen):
  ∃ w' l',(Instr.mapUpdate 147 (.map (some m)) (.string x.name) (entV x w.heap.size)).run Tryz.prog (w.alloc (kindCells x))=.ok () w'∧Hid (TabAt w0 w' m l')∧Hid (l'.map (·.1)=es ++ [x]):=by
 obtain ⟨w',h1,h2⟩:=tab_put h x (fun p hp e=>by
  have:=List.all_eq_true.1 hnew p.1.name (List.mem_map.2 ⟨p.1,by rw [← he];exact List.mem_map.2 ⟨p,hp,rfl⟩,rfl⟩)
  exact of_decide_eq_true this e) hsz
 exact ⟨w',_,h1,Lib.hid h2,Lib.hid (by rw [List.map_append,he];rfl)⟩
theorem tab_first (w:World):∃ w' m,(Instr.makeMap 147 none).run Tryz.prog w=.ok (.map (some m)) w'∧Hid (TabAt w w' m []):=⟨_,_,rfl,Lib.hid (TabAt.new w)⟩
theorem calls_says (w:World):
  Calls Tryz.prog 71 #[] w fun r w'=>∃ m l,r=.returned (.map (some m))∧TabAt w w' m l∧l.map (·.1)=table:=by
 obtain ⟨w0,m,r0,T0⟩:=tab_first w
 obtain ⟨w1,l1,r1,T1,E1⟩:=tab_step [] T0.out [] rfl ent0 (by decide +kernel) (by decide +kernel)
 obtain ⟨w2,l2,r2,T2,E2⟩:=tab_step l1 T1.out [ent0] E1.out ent1 (by decide +kernel) (by decide +kernel)
 obtain ⟨w3,l3,r3,T3,E3⟩:=tab_step l2 T2.out [ent0,ent1] E2.out ent2 (by decide +kernel) (by decide +kernel)
 obtain ⟨w4,l4,r4,T4,E4⟩:=tab_step l3 T3.out [ent0,ent1,ent2] E3.out ent3 (by decide +kernel) (by decide +kernel)
 obtain ⟨w5,l5,r5,T5,E5⟩:=tab_step l4 T4.out [ent0,ent1,ent2,ent3] E4.out ent4 (by decide +kernel) (by decide +kernel)
 obtain ⟨w6,l6,r6,T6,E6⟩:=tab_step l5 T5.out [ent0,ent1,ent2,ent3,ent4] E5.out ent5 (by decide +kernel) (by decide +kernel)
 obtain ⟨w7,l7,r7,T7,E7⟩:=tab_step l6 T6.out [ent0,ent1,ent2,ent3,ent4,ent5] E6.out ent6 (by decide +kernel) (by decide +kernel)
 obtain ⟨w8,l8,r8,T8,E8⟩:=tab_step l7 T7.out [ent0,ent1,ent2,ent3,ent4,ent5,ent6] E7.out ent7 (by decide +kernel) (by decide +kernel)
 obtain ⟨w9,l9,r9,T9,E9⟩:=tab_step l8 T8.out [ent0,ent1,ent2,ent3,ent4,ent5,ent6,ent7] E8.out ent8 (by decide +kernel) (by decide +kernel)
 obtain ⟨w10,l10,r10,T10,E10⟩:=tab_step l9 T9.out [ent0,ent1,ent2,ent3,ent4,ent5,ent6,ent7,ent8] E9.out ent9 (by decide +kernel) (by decide +kernel)
 obtain ⟨w11,l11,r11,T11,E11⟩:=tab_step l10 T10.out [ent0,ent1,ent2,ent3,ent4,ent5,ent6,ent7,ent8,ent9] E10.out ent10 (by decide +kernel) (by decide +kernel)
 obtain ⟨w12,l12,r12,T12,E12⟩:=tab_step l11 T11.out [ent0,ent1,ent2,ent3,ent4,ent5,ent6,ent7,ent8,ent9,ent10] E11.out ent11 (by decide +kernel) (by decide +kernel)
 obtain ⟨w13,l13,r13,T13,E13⟩:=tab_step l12 T12.out [ent0,ent1,ent2,ent3,ent4,ent5,ent6,ent7,ent8,ent9,ent10,ent11] E12.out ent12 (by decide +kernel) (by decide +kernel)
 obtain ⟨w14,l14,r14,T14,E14⟩:=tab_step l13 T13.out [ent0,ent1,ent2,ent3,ent4,ent5,ent6,ent7,ent8,ent9,ent10,ent11,ent12] E13.out ent13 (by decide +kernel) (by decide +kernel)
 obtain ⟨w15,l15,r15,T15,E15⟩:=tab_step l14 T14.out [ent0,ent1,ent2,ent3,ent4,ent5,ent6,ent7,ent8,ent9,ent10,ent11,ent12,ent13] E14.out ent14 (by decide +kernel) (by decide +kernel)
 clear T0 T1 T2 T3 T4 T5 T6 T7 T8 T9 T10 T11 T12 T13 T14 E1 E2 E3 E4 E5 E6 E7 E8 E9 E10 E11 E12 E13 E14
 dsimp only [List.map,List.toArray,List.length,entV,kindCells,ent0,ent1,ent2,ent3,ent4,ent5,ent6,ent7,ent8,ent9,ent10,ent11,ent12,ent13,ent14] at r1 r2 r3 r4 r5 r6 r7 r8 r9 r10 r11 r12 r13 r14 r15
 go_enter Tryz.func71,Tryz.ntmps71
 go_wp2_with fail
 go_ret
 exact ⟨m,l15,rfl,T15.out,E15.out⟩
def findE (s:ByteArray):Option Ent:=table.find? fun x=>decide (x.name=s)
theorem findE_mem {x:Ent} (h:x ∈ table):findE x.name=some x:=
 (by decide +kernel:∀ x ∈ table,findE x.name=some x) x h
def zeroEnt:Value:=.agg #[.slice none 0 0,.int .u8 0,.nilFunc]
theorem tab_look {w0 w:World} {m:Nat} {l:List (Ent × Nat)} (h:TabAt w0 w m l) (hl:l.map (·.1)=table) (s:ByteArray) (hs:s.size≤maxLen):
  (findE s=none∧(Instr.lookup 147 (.map (some m)) (.string s) true).run Tryz.prog w=.ok (.tuple #[zeroEnt,.bool false]) w∧(Instr.lookup 147 (.map (some m)) (.string s) false).run Tryz.prog w=.ok zeroEnt w) ∨
  ∃ x b,findE s=some x∧(x,b) ∈ l∧(Instr.lookup 147 (.map (some m)) (.string s) true).run Tryz.prog w=.ok (.tuple #[entV x b,.bool true]) w∧(Instr.lookup 147 (.map (some m)) (.string s) false).run Tryz.prog w=.ok (entV x b) w:=by
 rcases h.map.lookup (e:=146) (t:=147) (Maps.string_keyed Tryz.underlying9) Tryz.underlying147 (z:=zeroEnt) (by kernel_rfl) (key:=.string s) (WideMaps.keyOf_string_mk Tryz.underlying9 hs) with ⟨⟨r1,r2⟩,r3⟩ | ⟨v,⟨r1,r2⟩,r3⟩
 ·
  refine .inl ⟨?_,r1,r2⟩
  unfold findE
  rw [List.find?_eq_none]
  intro x hx e
  rw [← hl] at hx
  obtain ⟨p,hp,rfl⟩:=List.mem_map.1 hx
  exact r3 _ (List.mem_map.2 ⟨p,hp,rfl⟩) (by rw [← of_decide_eq_true e];rfl)
 ·
  obtain ⟨⟨x,b⟩,hp,e⟩:=List.mem_map.1 r3
  unfold entKV at e
  injection e with e1 e2
  injection e1 with e1
  dsimp only at e1 e2
  subst e1 e2
  exact .inr ⟨x,b,findE_mem (by rw [← hl];exact List.mem_map.2 ⟨_,hp,rfl⟩),hp,r1,r2⟩
end Go.Proofs.YthbdlnflmfchjaaGreatDoor
namespace Go.Proofs.YthbdlnflmfchjaaGreatDoor
open Go.RowKit Go.Proofs.Fm Go.Proofs.MapEnt
set_option maxHeartbeats 1600000
set_option maxRecDepth 1000000
def keptL:List ByteArray:=[sOr,sAnd,sNot,sAll,sAny,sIn,sSource,sTarget]
def operL:List ByteArray:=[⟨#[61,61]⟩,⟨#[33,61]⟩,⟨#[60,61]⟩,⟨#[62,61]⟩,⟨#[60]⟩,⟨#[62]⟩,⟨#[105,110]⟩,⟨#[126]⟩]
def lang:Lang where
 kept s:=(findE s).isSome || keptL.any fun x=>decide (x=s)
 test s:=match findE s with | some x=>decide (x.gives=5) | none=>false
 func s:=match findE s with | some x=>!decide (x.gives=5) | none=>false
 oper s:=operL.any fun x=>decide (x=s)
theorem field_ent (x:Ent) (b:Nat) (w:World):(Instr.field 146 (entV x b) 1).run Tryz.prog w=.ok (.int .u8 x.gives) w:=by
 unfold entV
 kernel_rfl
theorem field_zero (w:World):(Instr.field 146 zeroEnt 1).run Tryz.prog w=.ok (.int .u8 0) w:=by
 unfold zeroEnt
 kernel_rfl
theorem test_says (w:World) (s:ByteArray) (hs:s.size≤maxLen):
  Calls Tryz.prog 278 #[.string s] w fun r w'=>r=.returned (.bool (lang.test s))∧w.Since w.heap.size w':=by
 have KC:=Lib.hid (calls_says w)
 go_enter Tryz.func278,Tryz.ntmps278
 go_wp2_with fail
 refine KC.out.mono ?_
 rintro r w1 ⟨m,l,rfl,hT,hl⟩
 have S1:=Lib.hid hT.since
 rcases tab_look hT hl s hs with ⟨e1,_,e2⟩ | ⟨x,b,e1,_,_,e2⟩
 ·
  have hf:=field_zero
  have HR:Hid (lang.test s=false):=Lib.hid (by unfold lang;dsimp only;rw [e1])
  clear hT KC
  go_wp2_with fail
  go_ret
  exact ⟨by rw [HR.out];rfl,S1.out⟩
 ·
  have hf:=field_ent x b
  have HR:Hid (lang.test s=decide (x.gives=5)):=Lib.hid (by unfold lang;dsimp only;rw [e1])
  clear hT KC
  go_wp2_with fail
  go_ret
  exact ⟨by rw [HR.out];rfl,S1.out⟩
theorem function_says (w:World) (s:ByteArray) (hs:s.size≤maxLen):
  Calls Tryz.prog 358 #[.string s] w fun r w'=>r=.returned (.bool (lang.func s))∧w.Since w.heap.size w':=by
 have KC:=Lib.hid (calls_says w)
 go_enter Tryz.func358,Tryz.ntmps358
 go_wp2_with fail
 refine KC.out.mono ?_
 rintro r w1 ⟨m,l,rfl,hT,hl⟩
 have S1:=Lib.hid hT.since
 rcases tab_look hT hl s hs with ⟨e1,e2,_⟩ | ⟨x,b,e1,_,e2,_⟩
 ·
  unfold zeroEnt at e2
  have HR:Hid (lang.func s=false):=Lib.hid (by unfold lang;dsimp only;rw [e1])
  clear hT KC
  go_wp2_with fail
  go_ret
  exact ⟨by rw [HR.out];rfl,S1.out.alloc S1.out.size _⟩
 ·
  unfold entV at e2
  have HR:Hid (lang.func s=!decide (x.gives=5)):=Lib.hid (by unfold lang;dsimp only;rw [e1])
  clear hT KC
  go_wp2_with fail
  go_ret
  exact ⟨by rw [HR.out];rfl,S1.out.alloc S1.out.size _⟩
theorem SsAt.made (w:World) (ss:List ByteArray):SsAt (w.alloc (.cells (ss.map Value.string).toArray 9)) w.heap.size ss:=by
 refine ⟨by simp,fun j hj=>?_⟩
 unfold World.cell?
 rw [heap_alloc_new]
 simp [hj]
theorem keyword_says (w:World) (s:ByteArray) (hs:s.size≤maxLen):
  Calls Tryz.prog 86 #[.string s] w fun r w'=>r=.returned (.bool (lang.kept s))∧w.Since w.heap.size w':=by
 have KC:=Lib.hid (calls_says w)
 go_enter Tryz.func86,Tryz.ntmps86
 go_wp2_with fail
 refine KC.out.mono ?_
 rintro r w1 ⟨m,l,rfl,hT,hl⟩
 have S1:=Lib.hid hT.since
 rcases tab_look hT hl s hs with ⟨e1,e2,_⟩ | ⟨x,b,e1,_,e2,_⟩
 ·
  unfold zeroEnt at e2
  have HR:Hid (lang.kept s=keptL.any fun x=>decide (x=s)):=Lib.hid (by unfold lang;dsimp only;rw [e1];rfl)
  have KK:=Lib.hid (fun o=>contains_says keptL s (w1.heap.size+1) 8 ((w1.alloc o).alloc (.cells (keptL.map Value.string).toArray 9)) (by decide) (by have h:=(SsAt.made (w1.alloc o) keptL).2;rw [show (w1.alloc o).heap.size=w1.heap.size+1 by simp] at h;exact h))
  clear hT KC
  go_wp2_with fail
  refine (KK.out _).mono ?_
  rintro r w2 ⟨rfl,rfl⟩
  go_wp2_with fail
  go_ret
  exact ⟨by rw [HR.out];rfl,(S1.out.alloc S1.out.size _).alloc (S1.out.alloc S1.out.size _).size _⟩
 ·
  unfold entV at e2
  have HR:Hid (lang.kept s=true):=Lib.hid (by unfold lang;dsimp only;rw [e1];rfl)
  clear hT KC
  go_wp2_with fail
  go_ret
  exact ⟨by rw [HR.out];rfl,S1.out.alloc S1.out.size _⟩
end Go.Proofs.YthbdlnflmfchjaaGreatDoor
namespace Go.Proofs.YthbdlnflmfchjaaGreatDoor
open Go.RowKit Go.Proofs.Fm Go.Proofs.MapEnt
set_option maxHeartbeats 1600000
set_option maxRecDepth 1000000
structure WdOk (x:Wd):Prop where
 letters:x.kind=.letters→0 < x.text.size∧97≤byteAt x.text 0∧byteAt x.text 0≤122
 sign:x.kind=.sign→0 < x.text.size∧¬ (97≤byteAt x.text 0∧byteAt x.text 0≤122)
 size:x.text.size≤maxLen
structure WsOk (l:List Wd):Prop where
 all:∀ x ∈ l,WdOk x
 len:l.length≤100000
theorem WsOk.full {l:List Wd} (h:WsOk l):Full l:=fun x hx hk e=>by
 rcases hk with hk | hk
 ·
  have:=((h.all x hx).letters hk).1;rw [e] at this;exact absurd this (by decide)
 ·
  have:=((h.all x hx).sign hk).1;rw [e] at this;exact absurd this (by decide)
def Stay (w:World) (pb:Nat) (G:Option Addr) (c:Nat) (l:List Wd) (e n:Nat) (w':World):Prop:=Adv w pb w'∧PsAt w' pb G c l e n
theorem anyW_one (l:List Wd) (n:Nat) (s:ByteArray):anyW l n [s]=isW l n s:=by unfold anyW;simp
def Gives (w:World) (pb p:Nat) (r:Ending) (w':World):Prop:=r=strayE p∧Adv w pb w'
def MustSay (w:World) (pb:Nat) (G:Option Addr) (c:Nat) (l:List Wd) (e n:Nat) (s:ByteArray) (r:Ending) (w':World):Prop:=
 (isW l n s=true→r=.returned (.tuple #[])∧Stay w pb G c l e (n+1) w')∧(isW l n s=false→Gives w pb (placeOf l e n) r w')
theorem must_says (w:World) (pb c e n:Nat) (G:Option Addr) (l:List Wd) (h:PsAt w pb G c l e n) (hl:WsOk l) (s:ByteArray):
  Calls Tryz.prog 276 #[.pointer (some ⟨pb,0,none⟩),.string s] w (MustSay w pb G c l e n s):=by
 have hA:=SsAt.made w [s]
 have hs:w.Since w.heap.size (w.alloc (.cells #[.string s] 9)):=(World.Since.refl _ _).alloc (Nat.le_refl _) _
 have KT:=Lib.hid (take_says (w.alloc (.cells #[.string s] 9)) pb c e n G l (h.up hs) hl.full hl.len [s] w.heap.size 1 hA (by simp))
 have KF:=Lib.hid (fun w1 (hp:PsAt w1 pb G c l e n)=>fail_says w1 pb c e n G l hp)
 have HA:=Lib.hid hs
 unfold TakeSay at KT
 rw [anyW_one] at KT
 by_cases hR:isW l n s=true
 ·
  have HQ:Hid (∀ w',Stay w pb G c l e (n+1) w'→MustSay w pb G c l e n s (.returned (.tuple #[])) w'):=Lib.hid (fun w' hw=>⟨fun _=>⟨rfl,hw⟩,fun h=>by rw [hR] at h;cases h⟩)
  generalize hQ:MustSay w pb G c l e n s=Q at *
  rw [hR] at KT
  clear hQ hR h hA hs
  go_enter Tryz.func276,Tryz.ntmps276
  go_wp2_with fail
  refine KT.out.mono ?_
  rintro r w1 ⟨h1,h2,_⟩
  obtain ⟨rfl,h3⟩:=h2 trivial
  have H1:=Lib.hid h1
  have H3:=Lib.hid h3
  clear h1 h2 h3 KT
  go_wp2_with fail
  exact bodyPost_end (results_none (by kernel_rfl) _ _ _) rfl (HQ.out _ ⟨((Adv.refl w pb).since HA.out).trans H1.out,H3.out⟩)
 ·
  have HQ:Hid (∀ w',Adv w pb w'→MustSay w pb G c l e n s (strayE (placeOf l e n)) w'):=Lib.hid (fun w' hw=>⟨fun h=>absurd h hR,fun _=>⟨rfl,hw⟩⟩)
  generalize hQ:MustSay w pb G c l e n s=Q at *
  rw [Bool.eq_false_iff.2 hR] at KT
  clear hQ hR h hA hs
  go_enter Tryz.func276,Tryz.ntmps276
  go_wp2_with fail
  refine KT.out.mono ?_
  rintro r w1 ⟨h1,_,h2⟩
  obtain ⟨rfl,h3⟩:=h2 trivial
  have H1:=Lib.hid h1
  have KF2:=Lib.hid (KF.out w1 h3)
  clear h1 h2 h3 KT KF
  go_wp2_with fail
  refine KF2.out.mono ?_
  rintro r w2 ⟨rfl,hs⟩
  have S2:=Lib.hid hs
  clear hs
  unfold strayE
  go_wp2_with fail
  exact ⟨rfl,HQ.out _ ((((Adv.refl w pb).since HA.out).trans H1.out).since S2.out)⟩
end Go.Proofs.YthbdlnflmfchjaaGreatDoor
namespace Go.Proofs.YthbdlnflmfchjaaGreatDoor
open Go.RowKit Go.Proofs.Fm Go.Proofs.MapEnt
set_option maxHeartbeats 3200000
set_option maxRecDepth 1000000
theorem nextS_size {l:List Wd} (h:WsOk l) (n:Nat):(nextS l n).size≤maxLen:=by
 unfold nextS
 cases hx:l[n]? with
 | none=>exact Nat.zero_le _
 | some x=>
  have hm:x ∈ l:=by obtain ⟨h,rfl⟩:=List.getElem?_eq_some_iff.1 hx;exact List.getElem_mem h
  have:=(h.all x hm).size
  unfold wS
  dsimp only
  split
  ·
   exact this
  ·
   exact this
  ·
   exact Nat.zero_le _
theorem size_pos {t:ByteArray} (h:¬ t=ByteArray.empty):0 < t.size:=by
 rcases Nat.eq_zero_or_pos t.size with h0 | h0
 ·
  exact absurd (ByteArray.size_eq_zero_iff.1 h0) h
 ·
  exact h0
theorem nameAt_eq {l:List Wd} (h:WsOk l) (n:Nat):nameAt lang l n=if ¬ nextS l n=ByteArray.empty∧97≤byteAt (nextS l n) 0∧byteAt (nextS l n) 0≤122∧lang.kept (nextS l n)=false then some (nextS l n) else none:=by
 unfold nameAt nextS
 cases hx:l[n]? with
 | none=>exact (if_neg (fun h=>h.1 rfl)).symm
 | some x=>
  have hm:x ∈ l:=by obtain ⟨h,rfl⟩:=List.getElem?_eq_some_iff.1 hx;exact List.getElem_mem h
  have hk:=h.all x hm
  have hf:=h.full x hm
  obtain ⟨k,t,p⟩:=x
  cases k with
  | letters=>
   have h1:=hk.letters rfl
   have h2:=hf (.inl rfl)
   dsimp only at h1 h2
   simp [wS,h1.2.1,h1.2.2,h2]
  | sign=>
   have h1:=hk.sign rfl
   dsimp only at h1
   show none=if ¬ t=ByteArray.empty∧97≤byteAt t 0∧byteAt t 0≤122∧lang.kept t=false then some t else none
   exact (if_neg (fun h=>h1.2 ⟨h.2.1,h.2.2.1⟩)).symm
  | number=>simp [wS]
  | string=>simp [wS]
theorem since_new {w w':World} {o:Obj} (h:(w.alloc o).Since (w.alloc o).heap.size w'):w.Since w.heap.size w':=
 ((World.Since.refl _ _).alloc (Nat.le_refl _) o).trans ⟨h.os,h.tape,h.output,h.size,fun k hk=>h.block k (by simp;omega)⟩
def NameSay (w:World) (pb:Nat) (G:Option Addr) (c:Nat) (l:List Wd) (e n:Nat) (r:Ending) (w':World):Prop:=
 (∀ x,nameAt lang l n=some x→r=.returned (.string x)∧Stay w pb G c l e (n+1) w')∧(nameAt lang l n=none→Gives w pb (placeOf l e n) r w')
theorem name_says (w:World) (pb c e n:Nat) (G:Option Addr) (l:List Wd) (h:PsAt w pb G c l e n) (hl:WsOk l):
  Calls Tryz.prog 275 #[.pointer (some ⟨pb,0,none⟩)] w (NameSay w pb G c l e n):=by
 have KP:=Lib.hid (peek_says w pb c e n G l h)
 have HP:=Lib.hid h
 have KK:=Lib.hid (fun w=>keyword_says w (nextS l n) (nextS_size hl n))
 have KF:=Lib.hid (fun w1 (hp:PsAt w1 pb G c l e n)=>fail_says w1 pb c e n G l hp)
 have HE:=nameAt_eq hl n
 obtain ⟨p,a,b,cc,d,f,e1⟩:=nextV_agg l e n
 rw [e1] at KP
 clear h e1
 by_cases hR:¬ nextS l n=ByteArray.empty∧97≤byteAt (nextS l n) 0∧byteAt (nextS l n) 0≤122∧lang.kept (nextS l n)=false
 ·
  rw [if_pos hR] at HE
  have HQ:Hid (∀ w',Stay w pb G c l e (n+1) w'→NameSay w pb G c l e n (.returned (.string (nextS l n))) w'):=Lib.hid (fun w' hw=>⟨fun x hx=>by rw [HE] at hx;injection hx with hx;subst hx;exact ⟨rfl,hw⟩,fun h=>by rw [HE] at h;cases h⟩)
  generalize hQ:NameSay w pb G c l e n=Q at *
  obtain ⟨h1,h2,h3,h4⟩:=hR
  have hn:n < l.length:=nameAt_lt HE
  generalize nextS l n=t at *
  have h0:=size_pos h1
  have h5:=isEmpty_no h1
  rw [byteAt_lt h0] at h2 h3
  have z1:¬ ((t[0]'h0).toNat:Int) < 97:=by omega
  have z2:¬ 122 < ((t[0]'h0).toNat:Int):=by omega
  rw [h4] at KK
  clear hQ HE h4 h1 h2 h3
  go_enter Tryz.func275,Tryz.ntmps275
  go_wp2_with fail
  refine KP.out.mono ?_
  rintro r w1 ⟨rfl,hs⟩
  have S1:=Lib.hid hs
  clear hs KP
  go_wp2_with fail
  refine (KK.out _).mono ?_
  rintro r w2 ⟨rfl,hs⟩
  have S2:=Lib.hid (since_new hs)
  have P2:=Lib.hid ((HP.out.up S1.out).up (since_new hs))
  have k1:=P2.out.c1
  have f1:=P2.out.fz
  have kt:w2.cell? ⟨w1.heap.size,1,none⟩=some (.string t):=(hs.cell (a:=⟨w1.heap.size,1,none⟩) (by simp)).trans (by unfold World.cell?;rw [heap_alloc_new];rfl)
  have kt2:∀ v,(w2.setCell ⟨pb,1,none⟩ v).cell? ⟨w1.heap.size,1,none⟩=some (.string t):=fun v=>(World.cell?_setCell_other _ _ _ _ (by have:=(HP.out.up S1.out).lt;intro e;injection e with e;omega)).trans kt
  have z3:IntKind.i64.wrap ((n:Int)+1)=(n:Int)+1:=IntWalk.i64_in _ (by have:=hl.len;omega)
  clear hs KK
  go_wp2_with fail
  exact HQ.out _ ⟨(((Adv.refl w pb).since S1.out).since S2.out).trans (Adv.set w2 pb 1 _),P2.out.set (n+1)⟩
 ·
  rw [if_neg hR] at HE
  have HQ:Hid (∀ w',Adv w pb w'→NameSay w pb G c l e n (strayE (placeOf l e n)) w'):=Lib.hid (fun w' hw=>⟨fun x hx=>(by rw [HE] at hx;cases hx),fun _=>⟨rfl,hw⟩⟩)
  generalize hQ:NameSay w pb G c l e n=Q at *
  clear hQ HE
  generalize nextS l n=t at *
  by_cases h1:t=ByteArray.empty
  ·
   subst h1
   clear hR
   go_enter Tryz.func275,Tryz.ntmps275
   go_wp2_with fail
   refine KP.out.mono ?_
   rintro r w1 ⟨rfl,hs⟩
   have S1:=Lib.hid hs
   clear hs KP KK
   go_wp2_with fail
   refine (KF.out _ ((HP.out.up S1.out).up ((World.Since.refl _ _).alloc (Nat.le_refl _) _))).mono ?_
   rintro r w2 ⟨rfl,hs⟩
   have S2:=Lib.hid (since_new hs)
   clear hs KF
   unfold strayE
   go_wp2_with fail
   exact ⟨rfl,HQ.out _ (((Adv.refl w pb).since S1.out).since S2.out)⟩
  ·
   have h0:=size_pos h1
   have h5:=isEmpty_no h1
   by_cases h2:byteAt t 0 < 97
   ·
    rw [byteAt_lt h0] at h2
    have z1:((t[0]'h0).toNat:Int) < 97:=by omega
    clear hR h1 h2
    go_enter Tryz.func275,Tryz.ntmps275
    go_wp2_with fail
    refine KP.out.mono ?_
    rintro r w1 ⟨rfl,hs⟩
    have S1:=Lib.hid hs
    clear hs KP KK
    go_wp2_with fail
    refine (KF.out _ ((HP.out.up S1.out).up ((World.Since.refl _ _).alloc (Nat.le_refl _) _))).mono ?_
    rintro r w2 ⟨rfl,hs⟩
    have S2:=Lib.hid (since_new hs)
    clear hs KF
    unfold strayE
    go_wp2_with fail
    exact ⟨rfl,HQ.out _ (((Adv.refl w pb).since S1.out).since S2.out)⟩
   ·
    have hR2:Hid (lang.kept t=false→122 < byteAt t 0):=Lib.hid (fun hk=>by
     rcases Nat.lt_or_ge 122 (byteAt t 0) with h | h
     ·
      exact h
     ·
      exact absurd ⟨h1,by omega,h,hk⟩ hR)
    rw [byteAt_lt h0] at h2 hR2
    have z1:¬ ((t[0]'h0).toNat:Int) < 97:=by omega
    generalize lang.kept t=kk at *
    clear hR h1 h2
    go_enter Tryz.func275,Tryz.ntmps275
    go_wp2_with fail
    refine KP.out.mono ?_
    rintro r w1 ⟨rfl,hs⟩
    have S1:=Lib.hid hs
    clear hs KP
    go_wp2_with fail
    refine (KK.out _).mono ?_
    rintro r w2 ⟨rfl,hs⟩
    have S2:=Lib.hid (since_new hs)
    have P2:=Lib.hid ((HP.out.up S1.out).up S2.out)
    have kt:w2.cell? ⟨w1.heap.size,1,none⟩=some (.string t):=(hs.cell (a:=⟨w1.heap.size,1,none⟩) (by simp)).trans (by unfold World.cell?;rw [heap_alloc_new];rfl)
    clear hs KK
    cases kk
    ·
     have z2:122 < ((t[0]'h0).toNat:Int):=by have:=hR2.out rfl;omega
     go_wp2_with fail
     refine (KF.out _ P2.out).mono ?_
     rintro r w3 ⟨rfl,hs⟩
     have S3:=Lib.hid hs
     clear hs KF
     unfold strayE
     go_wp2_with fail
     exact ⟨rfl,HQ.out _ ((((Adv.refl w pb).since S1.out).since S2.out).since S3.out)⟩
    ·
     go_wp2_with fail
     refine (KF.out _ P2.out).mono ?_
     rintro r w3 ⟨rfl,hs⟩
     have S3:=Lib.hid hs
     clear hs KF
     unfold strayE
     go_wp2_with fail
     exact ⟨rfl,HQ.out _ ((((Adv.refl w pb).since S1.out).since S2.out).since S3.out)⟩
end Go.Proofs.YthbdlnflmfchjaaGreatDoor
namespace Go.Proofs.YthbdlnflmfchjaaGreatDoor
open Go.RowKit Go.Proofs.Fm Go.Proofs.MapEnt
def Only (pb:Nat) (b:Nat):Prop:=b=pb
def TRow (w:World) (A:Nat→Prop) (lo:Nat) (G:Option Addr) (us:List Value):Prop:=(us=[]∧G=none) ∨ ∃ b,G=some ⟨b,0,none⟩∧¬ A b∧lo≤b∧b < w.heap.size∧∀ i (h:i < us.length),w.cell? ⟨b,i,none⟩=some us[i]
mutual
def TmAt (w:World) (A:Nat→Prop) (lo:Nat):Tm→List Value→Prop
 | .mk k x n subs,cs=>∃ G c us,cs=[.int .u8 (k:Nat),.string x,.int .i64 (n:Nat),.slice G subs.length c]∧TRow w A lo G us∧TmsAt w A lo subs us
def TmsAt (w:World) (A:Nat→Prop) (lo:Nat):List Tm→List Value→Prop
 | [],us=>us=[]
 | t :: ts,us=>∃ a b,us=a ++ b∧TmAt w A lo t a∧TmsAt w A lo ts b
end
def Kept (w:World) (A:Nat→Prop) (lo:Nat) (w':World):Prop:=w.heap.size≤w'.heap.size∧∀ k,lo≤k→k < w.heap.size→¬ A k→w'.heap[k]?=w.heap[k]?
theorem Adv.kept {w w':World} {pb:Nat} {A:Nat→Prop} (h:Adv w pb w') (hA:A pb) (lo:Nat):Kept w A lo w':=⟨h.size,fun k _ hk hne=>h.block k hk (fun e=>hne (e ▸ hA))⟩
theorem TRow.up {w w':World} {A:Nat→Prop} {lo:Nat} {G:Option Addr} {us:List Value} (h:TRow w A lo G us) (ha:Kept w A lo w'):TRow w' A lo G us:=by
 rcases h with h | ⟨b,h1,h2,h0,h3,h4⟩
 ·
  exact .inl h
 ·
  exact .inr ⟨b,h1,h2,h0,Nat.lt_of_lt_of_le h3 ha.1,fun i hi=>(World.cell?_of_block (ha.2 b h0 h3 h2)).trans (h4 i hi)⟩
theorem TRow.mono {w:World} {A:Nat→Prop} {lo lo':Nat} {G:Option Addr} {us:List Value} (h:TRow w A lo G us) (hl:lo'≤lo):TRow w A lo' G us:=by
 rcases h with h | ⟨b,h1,h2,h0,h3,h4⟩
 ·
  exact .inl h
 ·
  exact .inr ⟨b,h1,h2,Nat.le_trans hl h0,h3,h4⟩
mutual
theorem TmAt.up {w w':World} {A:Nat→Prop} {lo:Nat} (ha:Kept w A lo w'):∀ (t:Tm) (cs:List Value),TmAt w A lo t cs→TmAt w' A lo t cs
 | .mk k x n subs,cs,h=>by
  unfold TmAt at h ⊢
  obtain ⟨G,c,us,h1,h2,h3⟩:=h
  exact ⟨G,c,us,h1,h2.up ha,TmsAt.up ha subs us h3⟩
theorem TmsAt.up {w w':World} {A:Nat→Prop} {lo:Nat} (ha:Kept w A lo w'):∀ (ts:List Tm) (us:List Value),TmsAt w A lo ts us→TmsAt w' A lo ts us
 | [],us,h=>by unfold TmsAt at h ⊢;exact h
 | t :: ts,us,h=>by
  unfold TmsAt at h ⊢
  obtain ⟨a,b,h1,h2,h3⟩:=h
  exact ⟨a,b,h1,TmAt.up ha t a h2,TmsAt.up ha ts b h3⟩
end
mutual
theorem TmAt.mono {w:World} {A:Nat→Prop} {lo lo':Nat} (hl:lo'≤lo):∀ (t:Tm) (cs:List Value),TmAt w A lo t cs→TmAt w A lo' t cs
 | .mk k x n subs,cs,h=>by
  unfold TmAt at h ⊢
  obtain ⟨G,c,us,h1,h2,h3⟩:=h
  exact ⟨G,c,us,h1,h2.mono hl,TmsAt.mono hl subs us h3⟩
theorem TmsAt.mono {w:World} {A:Nat→Prop} {lo lo':Nat} (hl:lo'≤lo):∀ (ts:List Tm) (us:List Value),TmsAt w A lo ts us→TmsAt w A lo' ts us
 | [],us,h=>by unfold TmsAt at h ⊢;exact h
 | t :: ts,us,h=>by
  unfold TmsAt at h ⊢
  obtain ⟨a,b,h1,h2,h3⟩:=h
  exact ⟨a,b,h1,TmAt.mono hl t a h2,TmsAt.mono hl ts b h3⟩
end
theorem TRow.turn {w:World} {A A':Nat→Prop} {lo:Nat} {G:Option Addr} {us:List Value} (h:TRow w A lo G us) (hA:∀ b,lo≤b→b < w.heap.size→A' b→A b):TRow w A' lo G us:=by
 rcases h with h | ⟨b,h1,h2,h0,h3,h4⟩
 ·
  exact .inl h
 ·
  exact .inr ⟨b,h1,fun h=>h2 (hA b h0 h3 h),h0,h3,h4⟩
mutual
theorem TmAt.turn {w:World} {A A':Nat→Prop} {lo:Nat} (hA:∀ b,lo≤b→b < w.heap.size→A' b→A b):∀ (t:Tm) (cs:List Value),TmAt w A lo t cs→TmAt w A' lo t cs
 | .mk k x n subs,cs,h=>by
  unfold TmAt at h ⊢
  obtain ⟨G,c,us,h1,h2,h3⟩:=h
  exact ⟨G,c,us,h1,h2.turn hA,TmsAt.turn hA subs us h3⟩
theorem TmsAt.turn {w:World} {A A':Nat→Prop} {lo:Nat} (hA:∀ b,lo≤b→b < w.heap.size→A' b→A b):∀ (ts:List Tm) (us:List Value),TmsAt w A lo ts us→TmsAt w A' lo ts us
 | [],us,h=>by unfold TmsAt at h ⊢;exact h
 | t :: ts,us,h=>by
  unfold TmsAt at h ⊢
  obtain ⟨a,b,h1,h2,h3⟩:=h
  exact ⟨a,b,h1,TmAt.turn hA t a h2,TmsAt.turn hA ts b h3⟩
end
def TermOf (w:World) (A:Nat→Prop) (lo:Nat) (ts:List Tm) (v:Value):Prop:=∃ t cs,ts=[t]∧v=.agg cs.toArray∧TmAt w A lo t cs
def RowOf (w:World) (A:Nat→Prop) (lo:Nat) (ts:List Tm) (v:Value):Prop:=∃ G c us,v=.slice G ts.length c∧TRow w A lo G us∧TmsAt w A lo ts us
theorem RowOf.up {w w':World} {A:Nat→Prop} {lo:Nat} {ts:List Tm} {v:Value} (h:RowOf w A lo ts v) (ha:Kept w A lo w'):RowOf w' A lo ts v:=by
 obtain ⟨G,c,us,h1,h2,h3⟩:=h
 exact ⟨G,c,us,h1,h2.up ha,TmsAt.up ha ts us h3⟩
theorem RowOf.mono {w:World} {A:Nat→Prop} {lo lo':Nat} {ts:List Tm} {v:Value} (h:RowOf w A lo ts v) (hl:lo'≤lo):RowOf w A lo' ts v:=by
 obtain ⟨G,c,us,h1,h2,h3⟩:=h
 exact ⟨G,c,us,h1,h2.mono hl,TmsAt.mono hl ts us h3⟩
def Says (O:World→(Nat→Prop)→Nat→List Tm→Value→Prop) (w:World) (pb:Nat) (G:Option Addr) (c:Nat) (l:List Wd) (e:Nat) (r:Re) (E:Ending) (w':World):Prop:=
 match r with
 | .ok ts m=>∃ v,E=.returned v∧O w' (Only pb) w.heap.size ts v∧Stay w pb G c l e m w'
 | .bad p=>Gives w pb p E w'
def nextNum (l:List Wd) (n:Nat):Bool:=match l[n]? with | some x=>wNum x | none=>false
def nextStr (l:List Wd) (n:Nat):Bool:=match l[n]? with | some x=>wStr x | none=>false
def nextN (l:List Wd) (n:Nat):Nat:=match l[n]? with | some x=>wN x | none=>0
def nextT (l:List Wd) (n:Nat):ByteArray:=match l[n]? with | some x=>wT x | none=>ByteArray.empty
theorem nextV_form (l:List Wd) (e n:Nat):nextV l e n=.agg #[.int .i64 (placeOf l e n:Nat),.string (nextS l n),.bool (nextNum l n),.int .i64 (nextN l n:Nat),.bool (nextStr l n),.string (nextT l n),.bool false]:=by
 unfold nextV nextS nextNum nextStr nextN nextT placeOf
 cases l[n]? with
 | some x=>rfl
 | none=>rfl
theorem findE_name {s:ByteArray} {x:Ent} (h:findE s=some x):x ∈ table∧x.name=s:=by
 unfold findE at h
 exact ⟨List.mem_of_find?_eq_some h,by have h2:=List.find?_some h;exact of_decide_eq_true h2⟩
theorem func_letter {s:ByteArray} (h:lang.func s=true):97≤byteAt s 0∧byteAt s 0≤122:=by
 unfold lang at h
 dsimp only at h
 cases hx:findE s with
 | none=>rw [hx] at h;cases h
 | some x=>
  obtain ⟨h1,rfl⟩:=findE_name hx
  exact (by decide +kernel:∀ x ∈ table,97≤byteAt x.name 0∧byteAt x.name 0≤122) x h1
theorem step_atom {l:List Wd} (h:WsOk l) (e:Nat) (rec:Gl→Nat→Option Re) (n:Nat):Fm.step lang l e rec .atom n =
  if nextNum l n=true then some (.ok [.mk 1 ByteArray.empty (nextN l n) []] (n+1))
  else if nextStr l n=true then some (.ok [.mk 2 (nextT l n) 0 []] (n+1))
  else if nextS l n=sSource then some (.ok [.mk 4 ByteArray.empty 0 []] (n+1))
  else if nextS l n=sTarget then some (.ok [.mk 5 ByteArray.empty 0 []] (n+1))
  else if lang.func (nextS l n)=true then andThen (rec .args (n+1)) fun ts n1=>some (.ok [.mk 6 (nextS l n) 0 ts] n1)
  else match nameAt lang l n with
   | some x=>some (.ok [.mk 3 x 0 []] (n+1))
   | none=>some (.bad (placeOf l e n)):=by
 rw [Fm.step]
 unfold nextNum nextStr nextS nextN nextT nameAt placeOf
 cases hx:l[n]? with
 | none=>
  dsimp only
  rw [if_neg (by decide),if_neg (by decide),if_neg (by decide),if_neg (by decide),if_neg (by decide +kernel)]
 | some x=>
  have hm:x ∈ l:=by obtain ⟨h,rfl⟩:=List.getElem?_eq_some_iff.1 hx;exact List.getElem_mem h
  have hk:=h.all x hm
  obtain ⟨k,t,p⟩:=x
  cases k with
  | number=>simp [wNum,wN]
  | string=>simp [wNum,wStr,wT]
  | letters=>
   dsimp only [wNum,wStr,wS]
   simp only [reduceCtorEq,decide_false,Bool.false_eq_true,if_false,true_and]
   by_cases c1:t=sSource
   ·
    rw [if_pos c1,if_pos c1]
   rw [if_neg c1,if_neg c1]
   by_cases c2:t=sTarget
   ·
    rw [if_pos c2,if_pos c2]
   rw [if_neg c2,if_neg c2]
   by_cases c3:lang.func t=true
   ·
    rw [if_pos c3,if_pos c3]
   rw [if_neg c3,if_neg c3]
   by_cases c4:lang.kept t=false
   ·
    simp [c4]
   ·
    simp [c4]
  | sign=>
   have h1:=hk.sign rfl
   dsimp only at h1
   dsimp only [wNum,wStr,wS]
   simp only [reduceCtorEq,decide_false,Bool.false_eq_true,if_false,false_and]
   rw [if_neg (fun e=>h1.2 (by rw [e];decide)),if_neg (fun e=>h1.2 (by rw [e];decide)),if_neg (fun e=>h1.2 (func_letter e))]
end Go.Proofs.YthbdlnflmfchjaaGreatDoor
namespace Go.Proofs.YthbdlnflmfchjaaGreatDoor
open Go.RowKit Go.Proofs.Fm
set_option maxHeartbeats 1600000
set_option maxRecDepth 1000000
theorem row_says (s:ByteArray) (lo hi:Nat) (w:World) (hs:s.size≤100000):
  Calls Tryz.prog 85 #[.string s,.int .u8 (lo:Nat),.int .u8 (hi:Nat)] w fun E w'=>E=.returned (.int .i64 (rowEnd s lo hi 0:Nat))∧w'=w:=by
 obtain ⟨e,he⟩:∃ e,rowEnd s lo hi 0=e:=⟨_,rfl⟩
 have HE:=Lib.hid he
 rw [he]
 clear he
 go_enter Tryz.func85,Tryz.ntmps85
 go_wp2_with fail
 go_loopg [7] s.size (fun gg o7 wr=>∃ (j:Nat),gg=s.size - j∧j≤s.size∧o7=.int .i64 (j:Nat)∧Hid (rowEnd s lo hi j=e)∧wr=w)
 case atStart=>exact ⟨0,rfl,Nat.zero_le _,rfl,HE,rfl⟩
 case round=>
  obtain ⟨j,rfl,hj,rfl,hE,rfl⟩:=hrel
  by_cases h1:j < s.size
  ·
   have i2:(j:Int) < (s.size:Int):=by omega
   have z5:IntKind.i64.wrap ((j:Int)+1)=(j:Int)+1:=IntWalk.i64_in _ (by omega)
   by_cases h2:lo≤s[j].toNat
   ·
    have b1:(lo:Int)≤(s[j].toNat:Int):=by omega
    by_cases h3:s[j].toNat≤hi
    ·
     have b2:(s[j].toNat:Int)≤(hi:Int):=by omega
     have hE2:Hid (rowEnd s lo hi (j+1)=e):=Lib.hid (by rw [← hE.out,rowEnd_go (n:=j) ⟨h1,by rw [byteAt_lt h1];exact ⟨h2,h3⟩⟩])
     clear h2 h3
     go_wp2_with fail
     go_roundg (s.size - (j+1))
     case measure=>omega
     case rel=>exact ⟨j+1,by omega,by omega,by simp,hE2,rfl⟩
    ·
     have b2:¬ (s[j].toNat:Int)≤(hi:Int):=by omega
     have hE2:Hid (j=e):=Lib.hid (by rw [← hE.out,rowEnd_end (fun h=>by have h2':=h.2;rw [byteAt_lt h1] at h2';exact h3 h2'.2)])
     clear h2 h3
     go_wp2_with fail
     go_ret
     exact ⟨by rw [← hE2.out];rfl,rfl⟩
   ·
    have b1:¬ (lo:Int)≤(s[j].toNat:Int):=by omega
    have hE2:Hid (j=e):=Lib.hid (by rw [← hE.out,rowEnd_end (fun h=>by have h2':=h.2;rw [byteAt_lt h1] at h2';exact h2 h2'.1)])
    clear h2
    go_wp2_with fail
    go_ret
    exact ⟨by rw [← hE2.out];rfl,rfl⟩
  ·
   have i2:¬ (j:Int) < (s.size:Int):=by omega
   have hE2:Hid (j=e):=Lib.hid (by rw [← hE.out,rowEnd_end (fun h=>h1 h.1)])
   clear h1
   go_wp2_with fail
   go_ret
   exact ⟨by rw [← hE2.out];rfl,rfl⟩
end Go.Proofs.YthbdlnflmfchjaaGreatDoor
