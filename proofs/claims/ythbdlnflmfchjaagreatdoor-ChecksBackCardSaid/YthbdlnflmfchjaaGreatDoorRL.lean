/- The parser of formulas: what all its functions say, by induction on the depth of parse. -/
import Derived.Test.YthbdlnflmfchjaaGreatDoorZG2
import Derived.Test.YthbdlnflmfchjaaGreatDoorZH
import Derived.Tactics2
import Derived.Defers
import Derived.Recover
import Derived.Laws.Pointers
set_option linter.unusedVariables false
set_option linter.unusedSimpArgs false
namespace Go.Proofs.YthbdlnflmfchjaaGreatDoor
open Go.RowKit Go.Proofs.Fm Go.Proofs.MapEnt
theorem unit_says (pb c e F:Nat) (G:Option Addr) (l:List Wd) (hl:WsOk l) (HU:PartC pb c e G l F 236 .unit) (HF:PartC pb c e G l F 91 (.several true)) (HT:PartC pb c e G l F 277 .term) (HR:ArgsP pb c e G l F) (w:World) (n:Nat) (r:Re) (h:PsAt w pb G c l e n)
  (hr:parse lang l e (F+1) .unit n=some r):Calls Tryz.prog 236 #[.pointer (some ⟨pb,0,none⟩)] w (Says TermOf w pb G c l e r):=by
 have hr2:Fm.step lang l e (parse lang l e F) .unit n=some r:=hr
 rw [Fm.step] at hr2
 by_cases c1:isW l n sNot=true
 ·
  rw [if_pos c1] at hr2
  exact unit_not pb c e F G l hl HU HF HT HR w n r h c1 hr2
 rw [if_neg c1] at hr2
 have c1:=Bool.eq_false_iff.2 c1
 by_cases ca:isW l n sAll=true
 ·
  rw [ca,Bool.true_or,if_pos rfl] at hr2
  exact unit_all pb c e F G l hl HU HF HT HR w n r h c1 ca hr2
 have ca:=Bool.eq_false_iff.2 ca
 by_cases cb:isW l n sAny=true
 ·
  rw [cb,ca,Bool.or_true,if_pos rfl] at hr2
  exact unit_any pb c e F G l hl HU HF HT HR w n r h c1 cb hr2
 have cb:=Bool.eq_false_iff.2 cb
 have c2:anyW l n [sAll,sAny]=false:=by rw [anyW_two,ca,cb];rfl
 rw [ca,cb,Bool.or_false,if_neg Bool.false_ne_true] at hr2
 by_cases c3:isW l n sOpen=true
 ·
  rw [if_pos c3] at hr2
  exact unit_open pb c e F G l hl HU HF HT HR w n r h c1 c2 c3 hr2
 rw [if_neg c3] at hr2
 have c3:=Bool.eq_false_iff.2 c3
 have ht:=testAt_eq hl n
 by_cases hne:nextS l n=ByteArray.empty
 ·
  rw [if_neg (fun h=>h.1 hne)] at ht
  rw [ht] at hr2
  exact unit_cmp_e pb c e F G l hl HU HF HT HR w n r h c1 c2 c3 hne hr2
 ·
  by_cases htt:lang.test (nextS l n)=true
  ·
   rw [if_pos ⟨hne,htt⟩] at ht
   rw [ht] at hr2
   exact unit_test pb c e F G l hl HU HF HT HR w n r h c1 c2 c3 ht hne htt hr2
  ·
   rw [if_neg (fun h=>htt h.2)] at ht
   rw [ht] at hr2
   exact unit_cmp_t pb c e F G l hl HU HF HT HR w n r h c1 c2 c3 hne (Bool.eq_false_iff.2 htt) hr2
theorem part_up {pb c e F fn:Nat} {G:Option Addr} {l:List Wd} {g:Gl} (h:PartC pb c e G l F fn g)
  (h1:∀ w n r,PsAt w pb G c l e n→parse lang l e (F+1) g n=some r→Calls Tryz.prog fn #[.pointer (some ⟨pb,0,none⟩)] w (Says TermOf w pb G c l e r)):PartC pb c e G l (F+1) fn g:=fun f hf w n r hp hr=>by
 rcases Nat.lt_or_ge F f with hlt | hge
 ·
  obtain rfl:f=F+1:=by omega
  exact h1 w n r hp hr
 ·
  exact h f hge w n r hp hr
structure AllC (pb c e:Nat) (G:Option Addr) (l:List Wd) (F:Nat):Prop where
 unit:PartC pb c e G l F 236 .unit
 conj:PartC pb c e G l F 168 (.several false)
 form:PartC pb c e G l F 91 (.several true)
 term:PartC pb c e G l F 277 .term
 prod:PartC pb c e G l F 321 .product
 atom:PartC pb c e G l F 345 .atom
 args:ArgsP pb c e G l F
theorem all_says (pb c e:Nat) (G:Option Addr) (l:List Wd) (hl:WsOk l):∀ F,AllC pb c e G l F
 | 0=>by
  have h:∀ fn g,PartC pb c e G l 0 fn g:=fun fn g f hf w n r hp hr=>by
   obtain rfl:f=0:=by omega
   cases hr
  refine ⟨h _ _,h _ _,h _ _,h _ _,h _ _,h _ _,fun f hf w n r hp hr=>?_⟩
  obtain rfl:f=0:=by omega
  cases hr
 | F+1=>by
  have ih:=all_says pb c e G l hl F
  refine ⟨part_up ih.unit fun w n r hp hr=>unit_says pb c e F G l hl ih.unit ih.form ih.term ih.args w n r hp hr,
   part_up ih.conj fun w n r hp hr=>conj_says pb c e F G l hl ih.unit w n r hp hr,
   part_up ih.form fun w n r hp hr=>formula_says pb c e F G l hl ih.conj w n r hp hr,
   part_up ih.term fun w n r hp hr=>term_says pb c e F G l hl ih.prod w n r hp hr,
   part_up ih.prod fun w n r hp hr=>product_says pb c e F G l hl ih.atom w n r hp hr,
   part_up ih.atom fun w n r hp hr=>atom_says pb c e G l hl (parse lang l e F) (fun w n r hp hr=>ih.args F (Nat.le_refl _) w n r hp hr) w n r hp hr,
   fun f hf w n r hp hr=>?_⟩
  rcases Nat.lt_or_ge F f with hlt | hge
  ·
   obtain rfl:f=F+1:=by omega
   exact args_says pb c e F G l hl ih.term w n r hp hr
  ·
   exact ih.args f hge w n r hp hr
theorem formula_all (pb c e:Nat) (G:Option Addr) (l:List Wd) (hl:WsOk l) (w:World) (n f:Nat) (r:Re) (h:PsAt w pb G c l e n) (hr:parse lang l e f (.several true) n=some r):
  Calls Tryz.prog 91 #[.pointer (some ⟨pb,0,none⟩)] w (Says TermOf w pb G c l e r):=(all_says pb c e G l hl f).form f (Nat.le_refl _) w n r h hr
end Go.Proofs.YthbdlnflmfchjaaGreatDoor
namespace Go.Proofs.YthbdlnflmfchjaaGreatDoor
open Go.RowKit Go.Proofs.Fm Go.Proofs.MapEnt
set_option maxHeartbeats 1600000
set_option maxRecDepth 1000000
theorem neq_iface (p:Nat) (w:World):(binOp .neq 20 (.iface 173 (.agg #[.int .i64 (p:Nat)])) .nilIface).run Tryz.prog w=.ok (.bool true) w:=by kernel_rfl
theorem neq_nil (w:World):(binOp .neq 20 .nilIface .nilIface).run Tryz.prog w=.ok (.bool false) w:=by kernel_rfl
theorem assert_stray (p:Nat) (w:World):(Instr.typeAssert (.iface 173 (.agg #[.int .i64 (p:Nat)])) 20 173 true).run Tryz.prog w=.ok (.tuple #[.agg #[.int .i64 (p:Nat)],.bool true]) w:=by kernel_rfl
theorem catch_idle (b:Nat) (w:World):
  CallsD Tryz.prog 90 #[.pointer (some ⟨b,0,none⟩),.pointer (some ⟨b+1,0,none⟩),.pointer (some ⟨b+1+1,0,none⟩)] .returning w fun e u' w'=>e=.returned (.tuple #[])∧u'=.returning∧w'=w:=by
 have h2:=neq_nil
 refine callsD_of_wpS Tryz.func90 rfl fun c₀ cs hu=>?_
 apply wpS_seq
 apply wpS_region
 simp [wpOpsS,go_sem,recoverD,hu,Tryz.ntmps90,Exit.thenS]
 apply wpS_seq
 apply wpS_region
 simp [wpOpsS,go_sem,h2,Exit.thenS]
 refine wpS_cond (t:=false) (by simp [Act.eval]) ?_
 simp only [Bool.false_eq_true,if_false]
 refine wpS_of_wp (wp_skip ?_)
 cases c₀
 simp_all [bodyPostS,results,Tryz.results90]
theorem z39_lit:z39=.cells #[.int .u8 0,.string ⟨#[]⟩,.int .i64 0,.slice none 0 0] 39:=by unfold z39;rfl
theorem pan_fin {w W:World} {b p:Nat} {a0 a1 a2 a3:Value} (HB0:W.heap[b]?=some (.cells #[a0,a1,a2,a3] 39)) (d5:W.cell? ⟨b+1,0,none⟩=some (.int .i64 0)) (d6:W.cell? ⟨b+1+1,0,none⟩=some (.bool false)) (HS:w.Since w.heap.size W) (hb:b+1+1 < w.heap.size):
  ((((((W.setCell ⟨b,0,none⟩ (.int .u8 0)).setCell ⟨b,1,none⟩ (.string ⟨#[]⟩)).setCell ⟨b,2,none⟩ (.int .i64 0)).setCell ⟨b,3,none⟩ (.slice none 0 0)).setCell ⟨b+1,0,none⟩ (.int .i64 (p:Nat))).setCell ⟨b+1+1,0,none⟩ (.bool false)).drew.heap[b]?=some z39∧
  ((((((W.setCell ⟨b,0,none⟩ (.int .u8 0)).setCell ⟨b,1,none⟩ (.string ⟨#[]⟩)).setCell ⟨b,2,none⟩ (.int .i64 0)).setCell ⟨b,3,none⟩ (.slice none 0 0)).setCell ⟨b+1,0,none⟩ (.int .i64 (p:Nat))).setCell ⟨b+1+1,0,none⟩ (.bool false)).drew.cell? ⟨b+1,0,none⟩=some (.int .i64 (p:Nat))∧
  ((((((W.setCell ⟨b,0,none⟩ (.int .u8 0)).setCell ⟨b,1,none⟩ (.string ⟨#[]⟩)).setCell ⟨b,2,none⟩ (.int .i64 0)).setCell ⟨b,3,none⟩ (.slice none 0 0)).setCell ⟨b+1,0,none⟩ (.int .i64 (p:Nat))).setCell ⟨b+1+1,0,none⟩ (.bool false)).drew.cell? ⟨b+1+1,0,none⟩=some (.bool false)∧
  w.Since b ((((((W.setCell ⟨b,0,none⟩ (.int .u8 0)).setCell ⟨b,1,none⟩ (.string ⟨#[]⟩)).setCell ⟨b,2,none⟩ (.int .i64 0)).setCell ⟨b,3,none⟩ (.slice none 0 0)).setCell ⟨b+1,0,none⟩ (.int .i64 (p:Nat))).setCell ⟨b+1+1,0,none⟩ (.bool false)).drew:=by
 have HB:=HB0
 have g1:=set4_blk HB (.int .u8 0) (.string ⟨#[]⟩) (.int .i64 0) (.slice none 0 0)
 have g2:=fun k (h:k ≠ b)=>set4_other (W:=W) h (.int .u8 0) (.string ⟨#[]⟩) (.int .i64 0) (.slice none 0 0)
 have g3:=set4_size W b (.int .u8 0) (.string ⟨#[]⟩) (.int .i64 0) (.slice none 0 0)
 have g4:w.Since b ((((W.setCell ⟨b,0,none⟩ (.int .u8 0)).setCell ⟨b,1,none⟩ (.string ⟨#[]⟩)).setCell ⟨b,2,none⟩ (.int .i64 0)).setCell ⟨b,3,none⟩ (.slice none 0 0)):=
  ⟨HS.os,HS.tape,HS.output,by rw [g3];exact HS.size,fun k hk=>(g2 k (by omega)).trans (HS.block k (by omega))⟩
 have d5':=(World.cell?_of_block (a:=⟨b+1,0,none⟩) (g2 (b+1) (by omega))).trans d5
 have d6':=(World.cell?_of_block (a:=⟨b+1+1,0,none⟩) (g2 (b+1+1) (by omega))).trans d6
 rw [← z39_lit] at g1
 generalize (((W.setCell ⟨b,0,none⟩ (.int .u8 0)).setCell ⟨b,1,none⟩ (.string ⟨#[]⟩)).setCell ⟨b,2,none⟩ (.int .i64 0)).setCell ⟨b,3,none⟩ (.slice none 0 0)=V at *
 clear g2 g3 HB HB0 HS d5 d6
 have hblk:∀ k,k ≠ b+1→k ≠ b+1+1→((V.setCell ⟨b+1,0,none⟩ (.int .i64 (p:Nat))).setCell ⟨b+1+1,0,none⟩ (.bool false)).heap[k]?=V.heap[k]?:=fun k h2 h3=>by
  rw [Go.Deep.blk_setCell_other _ _ _ _ h3,Go.Deep.blk_setCell_other _ _ _ _ h2]
 refine ⟨(hblk b (by omega) (by omega)).trans g1,?_,?_,?_⟩
 ·
  exact (World.cell?_setCell_other _ _ _ _ (by simp)).trans (World.cell?_setCell_same _ _ _ d5')
 ·
  exact World.cell?_setCell_same _ _ _ ((World.cell?_setCell_other _ _ _ _ (by simp)).trans d6')
 ·
  exact ⟨g4.os,g4.tape,g4.output,by simpa using g4.size,fun k hk=>(hblk k (by omega) (by omega)).trans (g4.block k hk)⟩
theorem catch_pan (b p:Nat) (w:World) (a0 a1 a2 a3:Value) (h0:w.heap[b]?=some (.cells #[a0,a1,a2,a3] 39)) (h1:w.cell? ⟨b+1,0,none⟩=some (.int .i64 0)) (h2:w.cell? ⟨b+1+1,0,none⟩=some (.bool false)) (f1:w.frozen? ⟨b+1,0,none⟩=false) (f2:w.frozen? ⟨b+1+1,0,none⟩=false) (hb:b+1+1 < w.heap.size):
  CallsD Tryz.prog 90 #[.pointer (some ⟨b,0,none⟩),.pointer (some ⟨b+1,0,none⟩),.pointer (some ⟨b+1+1,0,none⟩)] (.panicking [{ v:=.iface 173 (.agg #[.int .i64 (p:Nat)]),recovered:=false }]) w fun e u' w'=>
   e=.returned (.tuple #[])∧u'=.panicking [{ v:=.iface 173 (.agg #[.int .i64 (p:Nat)]),recovered:=true }]∧w'.heap[b]?=some z39∧w'.cell? ⟨b+1,0,none⟩=some (.int .i64 (p:Nat))∧w'.cell? ⟨b+1+1,0,none⟩=some (.bool false)∧w.Since b w':=by
 have q1:=neq_iface p
 have q2:=assert_stray p
 have hbl:=blk_lt h0
 obtain ⟨c0,c1,c2,c3,c4⟩:=cells4 h0
 have d0:(w.alloc (.cells #[.int .i64 (p:Nat)] 173)).cell? ⟨b,0,none⟩=_:=(World.cell?_alloc_lt w _ _ hbl).trans c0
 have d1:(w.alloc (.cells #[.int .i64 (p:Nat)] 173)).cell? ⟨b,1,none⟩=_:=(World.cell?_alloc_lt w _ _ hbl).trans c1
 have d2:(w.alloc (.cells #[.int .i64 (p:Nat)] 173)).cell? ⟨b,2,none⟩=_:=(World.cell?_alloc_lt w _ _ hbl).trans c2
 have d3:(w.alloc (.cells #[.int .i64 (p:Nat)] 173)).cell? ⟨b,3,none⟩=_:=(World.cell?_alloc_lt w _ _ hbl).trans c3
 have d4:∀ j,(w.alloc (.cells #[.int .i64 (p:Nat)] 173)).frozen? ⟨b,j,none⟩=false:=fun j=>(World.frozen?_of_block (Go.Deep.blk_alloc_lt w _ b hbl)).trans (c4 j)
 have d5:(w.alloc (.cells #[.int .i64 (p:Nat)] 173)).cell? ⟨b+1,0,none⟩=_:=(World.cell?_alloc_lt w _ ⟨b+1,0,none⟩ (by dsimp only;omega)).trans h1
 have d6:(w.alloc (.cells #[.int .i64 (p:Nat)] 173)).cell? ⟨b+1+1,0,none⟩=_:=(World.cell?_alloc_lt w _ ⟨b+1+1,0,none⟩ hb).trans h2
 have d7:(w.alloc (.cells #[.int .i64 (p:Nat)] 173)).frozen? ⟨b+1,0,none⟩=false:=(World.frozen?_of_block (Go.Deep.blk_alloc_lt w _ (b+1) (by omega))).trans f1
 have d8:(w.alloc (.cells #[.int .i64 (p:Nat)] 173)).frozen? ⟨b+1+1,0,none⟩=false:=(World.frozen?_of_block (Go.Deep.blk_alloc_lt w _ (b+1+1) hb)).trans f2
 have d9:(w.alloc (.cells #[.int .i64 (p:Nat)] 173)).cell? ⟨w.heap.size,0,none⟩=some (.int .i64 (p:Nat)):=by unfold World.cell?;rw [heap_alloc_new];rfl
 have HS:Hid (w.Since w.heap.size (w.alloc (.cells #[.int .i64 (p:Nat)] 173))):=Lib.hid ((World.Since.refl _ _).alloc (Nat.le_refl _) _)
 have HB:Hid ((w.alloc (.cells #[.int .i64 (p:Nat)] 173)).heap[b]?=some (.cells #[a0,a1,a2,a3] 39)):=Lib.hid ((Go.Deep.blk_alloc_lt w _ b hbl).trans h0)
 clear h0 c0 c1 c2 c3 c4 h1 h2 f1 f2
 refine callsD_of_wpS Tryz.func90 rfl fun c₀ cs hu=>?_
 apply wpS_seq
 apply wpS_region
 simp [wpOpsS,go_sem,recoverD,hu,Tryz.ntmps90,Exit.thenS]
 apply wpS_seq
 apply wpS_region
 simp [wpOpsS,go_sem,q1,Exit.thenS]
 refine wpS_cond (t:=true) (by simp [Act.eval]) ?_
 simp only [if_true]
 apply wpS_seq
 apply wpS_region
 simp [wpOpsS,go_sem,q2,Exit.thenS]
 apply wpS_seq
 apply wpS_seq
 apply wpS_region
 simp [wpOpsS,go_sem,Exit.thenS]
 refine wpS_cond (t:=false) (by simp [Act.eval]) ?_
 simp only [Bool.false_eq_true,if_false]
 refine wpS_of_wp (wp_skip ?_)
 simp only [Exit.thenS]
 refine wpS_of_wp ?_
 generalize w.alloc (.cells #[.int .i64 (p:Nat)] 173)=W at *
 go_region
 all_goals
  have hf:=pan_fin (w:=w) (W:=W) (b:=b) (p:=p) HB.out d5 d6 HS.out hb
  exact ⟨rfl,_,rfl,.tuple #[],by simp [results,Tryz.results90],rfl,rfl,hf⟩
end Go.Proofs.YthbdlnflmfchjaaGreatDoor
namespace Go.Proofs.YthbdlnflmfchjaaGreatDoor
open Go.RowKit Go.Proofs.Fm Go.Proofs.MapEnt
set_option maxHeartbeats 1600000
set_option maxRecDepth 1000000
structure Rd (w W:World):Prop where
 z:W.heap[w.heap.size]?=some z39
 c1:W.cell? ⟨w.heap.size+1,0,none⟩=some (.int .i64 0)
 c2:W.cell? ⟨w.heap.size+1+1,0,none⟩=some (.bool false)
 f1:W.frozen? ⟨w.heap.size+1,0,none⟩=false
 f2:W.frozen? ⟨w.heap.size+1+1,0,none⟩=false
 lt:w.heap.size+1+1 < W.heap.size
 since:w.Since w.heap.size W
theorem Rd.adv {w W W':World} (h:Rd w W) (ha:Adv W (w.heap.size+1+1+1) W'):Rd w W':=by
 have hlt:=h.lt
 have hb:∀ k,k < w.heap.size+1+1+1→W'.heap[k]?=W.heap[k]?:=fun k hk=>ha.block k (by omega) (by omega)
 exact ⟨(hb _ (by omega)).trans h.z,(World.cell?_of_block (hb _ (by dsimp only;omega))).trans h.c1,(World.cell?_of_block (hb _ (by dsimp only;omega))).trans h.c2,(World.frozen?_of_block (hb _ (by dsimp only;omega))).trans h.f1,(World.frozen?_of_block (hb _ (by dsimp only;omega))).trans h.f2,Nat.lt_of_lt_of_le hlt ha.size,
  ⟨ha.os.trans h.since.os,ha.tape.trans h.since.tape,ha.output.trans h.since.output,Nat.le_trans h.since.size ha.size,fun k hk=>(hb k (by omega)).trans (h.since.block k hk)⟩⟩
theorem rd_start (w:World) (G:Option Addr) (c e:Nat) (l:List Wd) (hw:WsAt w G l) (hG:∀ g,G=some ⟨g,0,none⟩→g < w.heap.size):
  Rd w ((((w.alloc z39).alloc (.cells #[.int .i64 0] 3)).alloc (.cells #[.bool false] 4)).alloc (.cells #[.slice G l.length c,.int .i64 0,.int .i64 (e:Nat)] 177))∧
  PsAt ((((w.alloc z39).alloc (.cells #[.int .i64 0] 3)).alloc (.cells #[.bool false] 4)).alloc (.cells #[.slice G l.length c,.int .i64 0,.int .i64 (e:Nat)] 177)) (w.heap.size+1+1+1) G c l e 0:=by
 have e1:(w.alloc z39).heap.size=w.heap.size+1:=by simp
 have e2:((w.alloc z39).alloc (.cells #[.int .i64 0] 3)).heap.size=w.heap.size+1+1:=by simp
 have e3:(((w.alloc z39).alloc (.cells #[.int .i64 0] 3)).alloc (.cells #[.bool false] 4)).heap.size=w.heap.size+1+1+1:=by simp
 have s1:w.Since w.heap.size (w.alloc z39):=(World.Since.refl _ _).alloc (Nat.le_refl _) _
 have s2:=s1.alloc s1.size (.cells #[.int .i64 0] 3)
 have s3:=s2.alloc s2.size (.cells #[.bool false] 4)
 have s4:=s3.alloc s3.size (.cells #[.slice G l.length c,.int .i64 0,.int .i64 (e:Nat)] 177)
 have b0:(w.alloc z39).heap[w.heap.size]?=some z39:=heap_alloc_new w _
 have b1:=heap_alloc_new (w.alloc z39) (.cells #[.int .i64 0] 3)
 rw [e1] at b1
 have b2:=heap_alloc_new ((w.alloc z39).alloc (.cells #[.int .i64 0] 3)) (.cells #[.bool false] 4)
 rw [e2] at b2
 have b3:=heap_alloc_new (((w.alloc z39).alloc (.cells #[.int .i64 0] 3)).alloc (.cells #[.bool false] 4)) (.cells #[.slice G l.length c,.int .i64 0,.int .i64 (e:Nat)] 177)
 rw [e3] at b3
 have b0':=((Go.Deep.blk_alloc_lt _ (.cells #[.slice G l.length c,.int .i64 0,.int .i64 (e:Nat)] 177) _ (by rw [e3];omega)).trans ((Go.Deep.blk_alloc_lt _ (.cells #[.bool false] 4) _ (by rw [e2];omega)).trans ((Go.Deep.blk_alloc_lt _ (.cells #[.int .i64 0] 3) _ (by rw [e1];omega)).trans b0)))
 have b1':=((Go.Deep.blk_alloc_lt _ (.cells #[.slice G l.length c,.int .i64 0,.int .i64 (e:Nat)] 177) _ (by rw [e3];omega)).trans ((Go.Deep.blk_alloc_lt _ (.cells #[.bool false] 4) _ (by rw [e2];omega)).trans b1))
 have b2':=((Go.Deep.blk_alloc_lt _ (.cells #[.slice G l.length c,.int .i64 0,.int .i64 (e:Nat)] 177) _ (by rw [e3];omega)).trans b2)
 have e4:((((w.alloc z39).alloc (.cells #[.int .i64 0] 3)).alloc (.cells #[.bool false] 4)).alloc (.cells #[.slice G l.length c,.int .i64 0,.int .i64 (e:Nat)] 177)).heap.size=w.heap.size+1+1+1+1:=by simp
 refine ⟨⟨b0',?_,?_,?_,?_,by rw [e4];omega,s4⟩,⟨by rw [e4];omega,?_,?_,?_,?_,hw.same s4.size (fun g hg hlt=>s4.block g hlt),fun g hg=>by have:=hG g hg;omega⟩⟩
 ·
  unfold World.cell?;rw [b1'];rfl
 ·
  unfold World.cell?;rw [b2'];rfl
 ·
  unfold World.frozen?;rw [b1'];simp
 ·
  unfold World.frozen?;rw [b2'];simp
 ·
  unfold World.cell?;rw [b3];rfl
 ·
  unfold World.cell?;rw [b3];rfl
 ·
  unfold World.cell?;rw [b3];rfl
 ·
  unfold World.frozen?;rw [b3];simp
theorem set4_step {W:World} {B:Nat} {a b c d:Value} (hb:W.heap[B]?=some (.cells #[a,b,c,d] 39)) (v0 v1 v2 v3:Value):
  ∃ V,(((W.setCell ⟨B,0,none⟩ v0).setCell ⟨B,1,none⟩ v1).setCell ⟨B,2,none⟩ v2).setCell ⟨B,3,none⟩ v3=V∧V.heap[B]?=some (.cells #[v0,v1,v2,v3] 39)∧(∀ k,k ≠ B→V.heap[k]?=W.heap[k]?)∧V.heap.size=W.heap.size∧V.os=W.os∧V.tape=W.tape∧V.output=W.output:=
 ⟨_,rfl,set4_blk hb v0 v1 v2 v3,fun _ hk=>set4_other hk v0 v1 v2 v3,set4_size W B v0 v1 v2 v3,rfl,rfl,rfl⟩
theorem set1_step {W:World} {B:Nat} {a:Value} (hb:W.cell? ⟨B,0,none⟩=some a) (v:Value):
  ∃ V,W.setCell ⟨B,0,none⟩ v=V∧V.cell? ⟨B,0,none⟩=some v∧(∀ k,k ≠ B→V.heap[k]?=W.heap[k]?)∧V.heap.size=W.heap.size∧V.os=W.os∧V.tape=W.tape∧V.output=W.output:=
 ⟨_,rfl,World.cell?_setCell_same _ _ _ hb,fun _ hk=>Go.Deep.blk_setCell_other _ _ _ _ hk,by simp,rfl,rfl,rfl⟩
theorem rd_fin {w W:World} (h:Rd w W) {pb lo:Nat} {t:Tm} {v0 v1 v2 v3:Value} (ht:TmAt W (Only pb) lo t [v0,v1,v2,v3]) (hlo:w.heap.size+1+1 < lo):
  ∃ V,((((((((((W.setCell ⟨w.heap.size,0,none⟩ v0).setCell ⟨w.heap.size,1,none⟩ v1).setCell ⟨w.heap.size,2,none⟩ v2).setCell ⟨w.heap.size,3,none⟩ v3).setCell ⟨w.heap.size,0,none⟩ v0).setCell ⟨w.heap.size,1,none⟩ v1).setCell ⟨w.heap.size,2,none⟩ v2).setCell ⟨w.heap.size,3,none⟩ v3).setCell ⟨w.heap.size+1,0,none⟩ (.int .i64 0)).setCell ⟨w.heap.size+1+1,0,none⟩ (.bool true))=V∧
   V.cell? ⟨w.heap.size,0,none⟩=some v0∧V.cell? ⟨w.heap.size,1,none⟩=some v1∧V.cell? ⟨w.heap.size,2,none⟩=some v2∧V.cell? ⟨w.heap.size,3,none⟩=some v3∧V.cell? ⟨w.heap.size+1,0,none⟩=some (.int .i64 0)∧V.cell? ⟨w.heap.size+1+1,0,none⟩=some (.bool true)∧
   Hid (TmAt V (Only pb) lo t [v0,v1,v2,v3])∧Hid (w.Since w.heap.size V):=by
 have hz:=h.z
 rw [z39_lit] at hz
 obtain ⟨V1,e1,a1,b1,s1,o1,t1,u1⟩:=set4_step hz v0 v1 v2 v3
 rw [e1]
 obtain ⟨V2,e2,a2,b2,s2,o2,t2,u2⟩:=set4_step a1 v0 v1 v2 v3
 rw [e2]
 have d5:=(World.cell?_of_block (a:=⟨w.heap.size+1,0,none⟩) ((b2 (w.heap.size+1) (by omega)).trans (b1 (w.heap.size+1) (by omega)))).trans h.c1
 have d6:=(World.cell?_of_block (a:=⟨w.heap.size+1+1,0,none⟩) ((b2 (w.heap.size+1+1) (by omega)).trans (b1 (w.heap.size+1+1) (by omega)))).trans h.c2
 obtain ⟨V3,e3,a3,b3,s3,o3,t3,u3⟩:=set1_step d5 (.int .i64 0)
 rw [e3]
 obtain ⟨V4,e4,a4,b4,s4,o4,t4,u4⟩:=set1_step ((World.cell?_of_block (a:=⟨w.heap.size+1+1,0,none⟩) (b3 (w.heap.size+1+1) (by omega))).trans d6) (.bool true)
 rw [e4]
 obtain ⟨c0,c1,c2,c3,-⟩:=cells4 a2
 have hb0:V4.heap[w.heap.size]?=V2.heap[w.heap.size]?:=(b4 _ (by omega)).trans (b3 _ (by omega))
 have hall:∀ k,k ≠ w.heap.size→k ≠ w.heap.size+1→k ≠ w.heap.size+1+1→V4.heap[k]?=W.heap[k]?:=fun k h1 h2 h3=>((b4 k h3).trans (b3 k h2)).trans ((b2 k h1).trans (b1 k h1))
 refine ⟨V4,rfl,(World.cell?_of_block hb0).trans c0,(World.cell?_of_block hb0).trans c1,(World.cell?_of_block hb0).trans c2,(World.cell?_of_block hb0).trans c3,(World.cell?_of_block (b4 _ (by dsimp only;omega))).trans a3,a4,Lib.hid ?_,Lib.hid ?_⟩
 ·
  exact TmAt.up ⟨by omega,fun k hk _ _=>hall k (by omega) (by omega) (by omega)⟩ _ _ ht
 ·
  exact ⟨by rw [o4,o3,o2,o1];exact h.since.os,by rw [t4,t3,t2,t1];exact h.since.tape,by rw [u4,u3,u2,u1];exact h.since.output,by have:=h.since.size;omega,fun k hk=>(hall k (by omega) (by omega) (by omega)).trans (h.since.block k hk)⟩
theorem read_ok (w:World) (G:Option Addr) (c e f m:Nat) (l:List Wd) (t:Tm) (hw:WsAt w G l) (hG:∀ g,G=some ⟨g,0,none⟩→g < w.heap.size) (hl:WsOk l) (hr:parse lang l e f (.several true) 0=some (.ok [t] m)) (hm:¬ m < l.length):
  Calls Tryz.prog 39 #[.slice G l.length c,.int .i64 (e:Nat)] w fun E w'=>∃ v,E=.returned (.tuple #[v,.int .i64 0,.bool true])∧TermOf w' (fun _=>False) w.heap.size [t] v∧w.Since w.heap.size w':=by
 have hmf:∀ (fn:Fn) (first cap:Array Value) (w:World),(Instr.makeFunc fn first cap).run Tryz.prog w=.ok (.func fn first cap) w:=fun _ _ _ _=>rfl
 obtain ⟨R0,P0⟩:=rd_start w G c e l hw hG
 have KF:=Lib.hid (formula_all _ c e G l hl _ 0 f _ P0 hr)
 have R0:=Lib.hid R0
 have hmI:¬ (m:Int) < (l.length:Int):=by omega
 rw [z39_lit] at KF R0
 clear hw hG hl hr P0 hm
 go_enter_defers Tryz.func39,Tryz.ntmps39
 go_wp2_with fail
 refine KF.out.mono ?_
 rintro r0 w5 ⟨v,rfl,⟨t',cs,ht1,rfl,ht⟩,ha,hp⟩
 injection ht1 with ht1
 subst ht1
 obtain ⟨k1,x1,n1,G1,m1,c1,rfl⟩:=tm_four ht
 have R5:=R0.out.adv ha
 have HT:=Lib.hid ht
 obtain ⟨q0,q1,q2,q3,q4⟩:=res_facts R5.z
 have g1:=R5.c1
 have g2:=R5.c2
 have g3:=R5.f1
 have g4:=R5.f2
 have g5:=hp.c1
 have R5:=Lib.hid R5
 obtain ⟨V,hV,y0,y1,y2,y3,y4,y5,Y6,Y7⟩:=rd_fin R5.out ht (by simp)
 clear ha hp ht KF
 go_wp2_with fail
 refine leaves_cons (f:=90) (args:=#[.pointer (some ⟨w.heap.size,0,none⟩),.pointer (some ⟨w.heap.size+1,0,none⟩),.pointer (some ⟨w.heap.size+1+1,0,none⟩)]) (by simp) (by simp [go_sem]) ?_
 refine (catch_idle w.heap.size V).mono ?_
 rintro e u' w'' ⟨rfl,rfl,rfl⟩
 simp [Leaves,settle,results,Tryz.results39,go_sem,y0,y1,y2,y3,y4,y5]
 exact ⟨⟨t,_,rfl,rfl,TmAt.mono (by simp;omega) _ _ (TmAt.turn (fun _ _ _ h=>h.elim) _ _ Y6.out)⟩,Y7.out⟩
end Go.Proofs.YthbdlnflmfchjaaGreatDoor
namespace Go.Proofs.YthbdlnflmfchjaaGreatDoor
open Go.RowKit Go.Proofs.Fm Go.Proofs.MapEnt
set_option maxHeartbeats 1600000
set_option maxRecDepth 1000000
def RdEnd (w w':World) (p:Nat):Prop:=w'.cell? ⟨w.heap.size,0,none⟩=some (.int .u8 0)∧w'.cell? ⟨w.heap.size,1,none⟩=some (.string ⟨#[]⟩)∧w'.cell? ⟨w.heap.size,2,none⟩=some (.int .i64 0)∧w'.cell? ⟨w.heap.size,3,none⟩=some (.slice none 0 0)∧w'.cell? ⟨w.heap.size+1,0,none⟩=some (.int .i64 (p:Nat))∧w'.cell? ⟨w.heap.size+1+1,0,none⟩=some (.bool false)∧w.Since w.heap.size w'
theorem catch_rd {w W:World} (p:Nat) {a0 a1 a2 a3:Value} (h0:W.heap[w.heap.size]?=some (.cells #[a0,a1,a2,a3] 39)) (c1:W.cell? ⟨w.heap.size+1,0,none⟩=some (.int .i64 0)) (c2:W.cell? ⟨w.heap.size+1+1,0,none⟩=some (.bool false)) (f1:W.frozen? ⟨w.heap.size+1,0,none⟩=false) (f2:W.frozen? ⟨w.heap.size+1+1,0,none⟩=false) (hlt:w.heap.size+1+1 < W.heap.size) (hsi:w.Since w.heap.size W):
  CallsD Tryz.prog 90 #[.pointer (some ⟨w.heap.size,0,none⟩),.pointer (some ⟨w.heap.size+1,0,none⟩),.pointer (some ⟨w.heap.size+1+1,0,none⟩)] (.panicking [{ v:=.iface 173 (.agg #[.int .i64 (p:Nat)]),recovered:=false }]) W fun e u' w'=>
   e=.returned (.tuple #[])∧u'=.panicking [{ v:=.iface 173 (.agg #[.int .i64 (p:Nat)]),recovered:=true }]∧RdEnd w w' p:=by
 refine (catch_pan w.heap.size p W _ _ _ _ h0 c1 c2 f1 f2 hlt).mono fun e u' w' hh=>?_
 obtain ⟨h1,h2,h3,h4,h5,h6⟩:=hh
 obtain ⟨c0,c1,c2,c3,-⟩:=res_facts h3
 exact ⟨h1,h2,c0,c1,c2,c3,h4,h5,⟨h6.os.trans hsi.os,h6.tape.trans hsi.tape,h6.output.trans hsi.output,Nat.le_trans hsi.size h6.size,fun k hk=>(h6.block k hk).trans (hsi.block k hk)⟩⟩
theorem read_bad (w:World) (G:Option Addr) (c e f p:Nat) (l:List Wd) (hw:WsAt w G l) (hG:∀ g,G=some ⟨g,0,none⟩→g < w.heap.size) (hl:WsOk l) (hr:parse lang l e f (.several true) 0=some (.bad p)):
  Calls Tryz.prog 39 #[.slice G l.length c,.int .i64 (e:Nat)] w fun E w'=>E=.returned (.tuple #[.agg #[.int .u8 0,.string ⟨#[]⟩,.int .i64 0,.slice none 0 0],.int .i64 (p:Nat),.bool false])∧w.Since w.heap.size w':=by
 have hmf:∀ (fn:Fn) (first cap:Array Value) (w:World),(Instr.makeFunc fn first cap).run Tryz.prog w=.ok (.func fn first cap) w:=fun _ _ _ _=>rfl
 obtain ⟨R0,P0⟩:=rd_start w G c e l hw hG
 have KF:Hid (Calls Tryz.prog 91 #[.pointer (some ⟨w.heap.size+1+1+1,0,none⟩)] ((((w.alloc z39).alloc (.cells #[.int .i64 0] 3)).alloc (.cells #[.bool false] 4)).alloc (.cells #[.slice G l.length c,.int .i64 0,.int .i64 (e:Nat)] 177)) fun E w'=>E=.panicked [{ v:=.iface 173 (.agg #[.int .i64 (p:Nat)]),recovered:=false }]∧Adv ((((w.alloc z39).alloc (.cells #[.int .i64 0] 3)).alloc (.cells #[.bool false] 4)).alloc (.cells #[.slice G l.length c,.int .i64 0,.int .i64 (e:Nat)] 177)) (w.heap.size+1+1+1) w'):=Lib.hid (formula_all _ c e G l hl _ 0 f _ P0 hr)
 have R0:=Lib.hid R0
 rw [z39_lit] at KF R0
 clear hw hG hl hr P0
 go_enter_defers Tryz.func39,Tryz.ntmps39
 go_wp2_with fail
 refine KF.out.mono ?_
 rintro r0 w5 ⟨rfl,ha⟩
 have R5:=Lib.hid (R0.out.adv ha)
 clear ha KF
 go_wp2_with fail
 refine leaves_cons (f:=90) (args:=#[.pointer (some ⟨w.heap.size,0,none⟩),.pointer (some ⟨w.heap.size+1,0,none⟩),.pointer (some ⟨w.heap.size+1+1,0,none⟩)]) (by simp) (by simp [go_sem]) ?_
 have hz:=R5.out.z
 rw [z39_lit] at hz
 refine (catch_rd p hz R5.out.c1 R5.out.c2 R5.out.f1 R5.out.f2 R5.out.lt R5.out.since).mono ?_
 rintro e u' w'' ⟨rfl,rfl,y0,y1,y2,y3,y4,y5,hs⟩
 simp [Leaves,settle,results,Tryz.results39,go_sem,y0,y1,y2,y3,y4,y5]
 exact hs
theorem read_more (w:World) (G:Option Addr) (c e f m:Nat) (l:List Wd) (t:Tm) (hw:WsAt w G l) (hG:∀ g,G=some ⟨g,0,none⟩→g < w.heap.size) (hl:WsOk l) (hr:parse lang l e f (.several true) 0=some (.ok [t] m)) (hm:m < l.length):
  Calls Tryz.prog 39 #[.slice G l.length c,.int .i64 (e:Nat)] w fun E w'=>E=.returned (.tuple #[.agg #[.int .u8 0,.string ⟨#[]⟩,.int .i64 0,.slice none 0 0],.int .i64 (placeOf l e m:Nat),.bool false])∧w.Since w.heap.size w':=by
 have hmf:∀ (fn:Fn) (first cap:Array Value) (w:World),(Instr.makeFunc fn first cap).run Tryz.prog w=.ok (.func fn first cap) w:=fun _ _ _ _=>rfl
 obtain ⟨R0,P0⟩:=rd_start w G c e l hw hG
 have KF:=Lib.hid (formula_all _ c e G l hl _ 0 f _ P0 hr)
 have R0:=Lib.hid R0
 have hmI:(m:Int) < (l.length:Int):=by omega
 have HW:=Lib.hid hw
 have HG:=Lib.hid hG
 rw [z39_lit] at KF R0
 clear hw hG hl hr P0 hm
 go_enter_defers Tryz.func39,Tryz.ntmps39
 go_wp2_with fail
 refine KF.out.mono ?_
 rintro r0 w5 ⟨v,rfl,⟨t',cs,ht1,rfl,ht⟩,ha,hp⟩
 injection ht1 with ht1
 subst ht1
 obtain ⟨k1,x1,n1,G1,m1,c1,rfl⟩:=tm_four ht
 have R5:=R0.out.adv ha
 obtain ⟨q0,q1,q2,q3,q4⟩:=res_facts R5.z
 have g5:=hp.c1
 have hz:=R5.z
 rw [z39_lit] at hz
 obtain ⟨V,hV,a1,b1,s1,o1,t1,u1⟩:=set4_step hz (.int .u8 (k1:Nat)) (.string x1) (.int .i64 (n1:Nat)) (.slice G1 m1 c1)
 have hblk:∀ k,k ≠ w.heap.size→V.heap[k]?=w5.heap[k]?:=b1
 have hpV:PsAt V (w.heap.size+1+1+1) G c l e m:=by
  have hc:∀ j,V.cell? ⟨w.heap.size+1+1+1,j,none⟩=w5.cell? ⟨w.heap.size+1+1+1,j,none⟩:=fun j=>World.cell?_of_block (b1 _ (by dsimp only;omega))
  exact ⟨by rw [s1];exact hp.lt,(hc _).trans hp.c0,(hc _).trans hp.c1,(hc _).trans hp.c2,(World.frozen?_of_block (b1 _ (by dsimp only;omega))).trans hp.fz,hp.at_.same (by omega) (fun g hg _=>b1 g (by have:=HG.out g hg;omega)),hp.apart⟩
 have HK:=Lib.hid (fail_n hpV)
 have g6:=hpV.c1
 have A1:=Lib.hid a1
 have B1:=Lib.hid b1
 have S1:=Lib.hid (And.intro s1 (And.intro o1 (And.intro t1 u1)))
 have R5:=Lib.hid R5
 clear ha hp ht KF hz a1 b1 s1 o1 t1 u1 hblk hpV
 go_wp2_with fail
 refine HK.out.mono ?_
 rintro r0 w6 ⟨rfl,ha⟩
 have A6:=Lib.hid ha
 clear ha
 go_wp2_with fail
 have hb6:∀ k,k < w.heap.size+1+1+1→w6.heap[k]?=V.heap[k]?:=fun k hk=>A6.out.block k (by have:=R5.out.lt;have:=S1.out.1;omega) (by omega)
 have hb5:∀ k,k < w.heap.size+1+1+1→k ≠ w.heap.size→w6.heap[k]?=w5.heap[k]?:=fun k hk hne=>(hb6 k hk).trans (B1.out k hne)
 have hlt:w.heap.size+1+1 < w6.heap.size:=Nat.lt_of_lt_of_le R5.out.lt (by have:=A6.out.size;have:=S1.out.1;omega)
 have hsi:w.Since w.heap.size w6:=⟨A6.out.os.trans (S1.out.2.1.trans R5.out.since.os),A6.out.tape.trans (S1.out.2.2.1.trans R5.out.since.tape),A6.out.output.trans (S1.out.2.2.2.trans R5.out.since.output),by omega,fun k hk=>(hb5 k (by omega) (by omega)).trans (R5.out.since.block k hk)⟩
 refine leaves_cons (f:=90) (args:=#[.pointer (some ⟨w.heap.size,0,none⟩),.pointer (some ⟨w.heap.size+1,0,none⟩),.pointer (some ⟨w.heap.size+1+1,0,none⟩)]) (by simp) (by simp [go_sem]) ?_
 refine (catch_rd (placeOf l e m) ((hb6 _ (by omega)).trans A1.out) ((World.cell?_of_block (hb5 _ (by dsimp only;omega) (by dsimp only;omega))).trans R5.out.c1) ((World.cell?_of_block (hb5 _ (by dsimp only;omega) (by dsimp only;omega))).trans R5.out.c2) ((World.frozen?_of_block (hb5 _ (by dsimp only;omega) (by dsimp only;omega))).trans R5.out.f1) ((World.frozen?_of_block (hb5 _ (by dsimp only;omega) (by dsimp only;omega))).trans R5.out.f2) hlt hsi).mono ?_
 rintro e u' w'' ⟨rfl,rfl,y0,y1,y2,y3,y4,y5,hs⟩
 simp [Leaves,settle,results,Tryz.results39,go_sem,y0,y1,y2,y3,y4,y5]
 exact hs
end Go.Proofs.YthbdlnflmfchjaaGreatDoor
namespace Go.Proofs.YthbdlnflmfchjaaGreatDoor
open Go.RowKit Go.Proofs.Fm Go.Proofs.MapEnt
def zT:Value:=.agg #[.int .u8 0,.string ⟨#[]⟩,.int .i64 0,.slice none 0 0]
theorem bytes_beq (T s:ByteArray):(T.toList == s.toList)=decide (T=s):=by
 rw [Lib.toList_data,Lib.toList_data]
 by_cases h:T=s
 ·
  subst h;rw [decide_eq_true rfl];exact beq_self_eq_true _
 ·
  rw [decide_eq_false h]
  exact beq_eq_false_iff_ne.2 (fun e=>h (Go.WideShapes.bytes_inj e))
def signL:List ByteArray:=[⟨#[61,61]⟩,⟨#[33,61]⟩,⟨#[60,61]⟩,⟨#[62,61]⟩,⟨#[60]⟩,⟨#[62]⟩,⟨#[126]⟩,⟨#[40]⟩,⟨#[41]⟩,⟨#[44]⟩,⟨#[58]⟩,⟨#[43]⟩,⟨#[45]⟩,⟨#[42]⟩]
end Go.Proofs.YthbdlnflmfchjaaGreatDoor
namespace Go.Proofs.YthbdlnflmfchjaaGreatDoor
open Go.RowKit Go.Proofs.Fm Go.Proofs.MapEnt
theorem cells3 {W:World} {B:Nat} {a b c:Value} {t:Nat} (hb:W.heap[B]?=some (.cells #[a,b,c] t)):W.cell? ⟨B,0,none⟩=some a∧W.cell? ⟨B,1,none⟩=some b∧W.cell? ⟨B,2,none⟩=some c:=by
 refine ⟨?_,?_,?_⟩
 ·
  unfold World.cell?;rw [hb];rfl
 ·
  unfold World.cell?;rw [hb];rfl
 ·
  unfold World.cell?;rw [hb];rfl
theorem digitsV_ge (s:ByteArray) (e:Nat):∀ (k i v:Nat),e - i≤k→v≤digitsV s i e v
 | 0,i,v,h=>by rw [digitsV,dif_neg (by omega)];exact Nat.le_refl _
 | k+1,i,v,h=>by
  rw [digitsV]
  split
  ·
   have:=digitsV_ge s e k (i+1) (10 * v+(byteAt s i - 48)) (by omega)
   omega
  ·
   exact Nat.le_refl _
end Go.Proofs.YthbdlnflmfchjaaGreatDoor
namespace Go.Proofs.YthbdlnflmfchjaaGreatDoor
open Go.RowKit Go.Proofs.Fm Go.Proofs.MapEnt
def NumsOk (l:List Wd):Prop:=∀ x ∈ l,x.kind=.number→(∀ i (h:i < x.text.size),48≤x.text[i].toNat)∧digitsV x.text 0 x.text.size 0≤1000000∧x.text.size≤100000
end Go.Proofs.YthbdlnflmfchjaaGreatDoor
namespace Go.Proofs.YthbdlnflmfchjaaGreatDoor
open Go.RowKit Go.Proofs.Fm Go.Proofs.MapEnt
theorem wr_since {w w1 w2:World} (h:w.Since w.heap.size w1) (h2:w1.Since w1.heap.size w2):w.Since w.heap.size w2:=h.trans ⟨h2.os,h2.tape,h2.output,h2.size,fun k hk=>h2.block k (Nat.lt_of_lt_of_le hk h.size)⟩
end Go.Proofs.YthbdlnflmfchjaaGreatDoor
