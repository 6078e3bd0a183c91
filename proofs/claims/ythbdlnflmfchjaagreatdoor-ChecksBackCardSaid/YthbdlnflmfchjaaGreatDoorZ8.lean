/- The parser of formulas: atom walked. -/
import Derived.RegionDies
import Derived.Test.YthbdlnflmfchjaaGreatDoorZ7
namespace Go.Proofs.YthbdlnflmfchjaaGreatDoor
open Go.RowKit Go.Proofs.Fm Go.Proofs.MapEnt
set_option maxHeartbeats 3200000
set_option maxRecDepth 1000000
theorem leaf_at (w:World) (A:Nat→Prop) (lo k:Nat) (x:ByteArray) (n:Nat):TermOf w A lo [.mk k x n []] (.agg #[.int .u8 (k:Nat),.string x,.int .i64 (n:Nat),.slice none 0 0]):=
 ⟨_,[.int .u8 (k:Nat),.string x,.int .i64 (n:Nat),.slice none 0 0],rfl,rfl,by unfold TmAt;exact ⟨none,0,[],rfl,.inl ⟨rfl,rfl⟩,by unfold TmsAt;rfl⟩⟩
theorem node_at {w:World} {A:Nat→Prop} {lo:Nat} {ts:List Tm} {v:Value} (k:Nat) (x:ByteArray) (n:Nat) (h:RowOf w A lo ts v):TermOf w A lo [.mk k x n ts] (.agg #[.int .u8 (k:Nat),.string x,.int .i64 (n:Nat),v]):=by
 obtain ⟨G,c,us,rfl,h2,h3⟩:=h
 exact ⟨_,[.int .u8 (k:Nat),.string x,.int .i64 (n:Nat),.slice G ts.length c],rfl,rfl,by unfold TmAt;exact ⟨G,c,us,rfl,h2,h3⟩⟩
theorem lit_ne {t:ByteArray} {s:List UInt8} (h:¬ t=⟨s.toArray⟩):(t.toList == s)=false:=by
 rw [Lib.toList_data]
 refine beq_eq_false_iff_ne.2 (fun e=>h (Go.WideShapes.bytes_inj ?_))
 rw [e]
def ArgsC (pb c e:Nat) (G:Option Addr) (l:List Wd) (rec:Gl→Nat→Option Re):Prop:=
 ∀ w n r,PsAt w pb G c l e n→rec .args n=some r→Calls Tryz.prog 279 #[.pointer (some ⟨pb,0,none⟩)] w (Says RowOf w pb G c l e r)
theorem nextNum_lt {l:List Wd} {n:Nat} (h:nextNum l n=true):n < l.length:=by
 unfold nextNum at h
 cases hx:l[n]? with
 | none=>rw [hx] at h;cases h
 | some x=>exact (List.getElem?_eq_some_iff.1 hx).1
theorem nextStr_lt {l:List Wd} {n:Nat} (h:nextStr l n=true):n < l.length:=by
 unfold nextStr at h
 cases hx:l[n]? with
 | none=>rw [hx] at h;cases h
 | some x=>exact (List.getElem?_eq_some_iff.1 hx).1
theorem nextS_some {l:List Wd} {n:Nat} (h:¬ nextS l n=ByteArray.empty):n < l.length:=by
 unfold nextS at h
 cases hx:l[n]? with
 | none=>rw [hx] at h;exact absurd rfl h
 | some x=>exact (List.getElem?_eq_some_iff.1 hx).1
def z39:Obj:=.cells #[.int .u8 0,.string ByteArray.empty,.int .i64 0,.slice none 0 0] 39
theorem res_cells {w w1:World} {pb:Nat} (hs:(w.alloc z39).Since (w.alloc z39).heap.size w1) (hpb:pb < w.heap.size) (o:Obj) (v:Value):
  ((w1.alloc o).setCell ⟨pb,1,none⟩ v).cell? ⟨w.heap.size,0,none⟩=some (.int .u8 0)∧((w1.alloc o).setCell ⟨pb,1,none⟩ v).cell? ⟨w.heap.size,1,none⟩=some (.string ByteArray.empty)∧
  ((w1.alloc o).setCell ⟨pb,1,none⟩ v).cell? ⟨w.heap.size,2,none⟩=some (.int .i64 0)∧((w1.alloc o).setCell ⟨pb,1,none⟩ v).cell? ⟨w.heap.size,3,none⟩=some (.slice none 0 0)∧
  (∀ j,(w1.alloc o).frozen? ⟨w.heap.size,j,none⟩=false):=by
 have hlt:w.heap.size < w1.heap.size:=Nat.lt_of_lt_of_le (by simp) hs.size
 have hb:w1.heap[w.heap.size]?=some z39:=(hs.block w.heap.size (by simp)).trans (heap_alloc_new w _)
 have hb2:(w1.alloc o).heap[w.heap.size]?=some z39:=(Go.Deep.blk_alloc_lt w1 o w.heap.size hlt).trans hb
 have hb3:((w1.alloc o).setCell ⟨pb,1,none⟩ v).heap[w.heap.size]?=some z39:=(Go.Deep.blk_setCell_other _ _ _ _ (by intro e;dsimp only at e;omega)).trans hb2
 refine ⟨?_,?_,?_,?_,fun j=>?_⟩
 ·
  unfold World.cell?;rw [hb3];rfl
 ·
  unfold World.cell?;rw [hb3];rfl
 ·
  unfold World.cell?;rw [hb3];rfl
 ·
  unfold World.cell?;rw [hb3];rfl
 ·
  unfold World.frozen?;rw [hb2];unfold z39;simp
theorem Adv.new {w w':World} {pb B:Nat} (h:Adv w pb w') (hB:w.heap.size≤B) (j:Nat) (v:Value):Adv w pb (w'.setCell ⟨B,j,none⟩ v):=
 ⟨h.os,h.tape,h.output,by simp;exact h.size,fun k hk hne=>(Go.Deep.blk_setCell_other _ _ _ _ (by intro e;dsimp only at e;omega)).trans (h.block k hk hne)⟩
theorem PsAt.via {w w' wm:World} {pb c e n m:Nat} {G:Option Addr} {l:List Wd} (h:PsAt w pb G c l e n) (ha:Adv w pb w') (hm:PsAt wm pb G c l e m) (hb:w'.heap[pb]?=wm.heap[pb]?):PsAt w' pb G c l e m:=
 ⟨Nat.lt_of_lt_of_le h.lt ha.size,(World.cell?_of_block hb).trans hm.c0,(World.cell?_of_block hb).trans hm.c1,(World.cell?_of_block hb).trans hm.c2,(World.frozen?_of_block hb).trans hm.fz,h.at_.same ha.size (fun g hg hlt=>ha.block g hlt (h.apart g hg)),h.apart⟩
theorem stay4 {w W:World} {pb c e n m B:Nat} {G:Option Addr} {l:List Wd} (h:PsAt w pb G c l e n) (hW:Stay w pb G c l e m W) (hB:w.heap.size≤B) (v0 v1 v2 v3:Value):
  Stay w pb G c l e m ((((W.setCell ⟨B,0,none⟩ v0).setCell ⟨B,1,none⟩ v1).setCell ⟨B,2,none⟩ v2).setCell ⟨B,3,none⟩ v3):=by
 have hlt:=h.lt
 have ha:=(((hW.1.new hB 0 v0).new hB 1 v1).new hB 2 v2).new hB 3 v3
 refine ⟨ha,h.via ha hW.2 ?_⟩
 rw [Go.Deep.blk_setCell_other _ _ _ _ (by intro e;dsimp only at e;omega),Go.Deep.blk_setCell_other _ _ _ _ (by intro e;dsimp only at e;omega),Go.Deep.blk_setCell_other _ _ _ _ (by intro e;dsimp only at e;omega),Go.Deep.blk_setCell_other _ _ _ _ (by intro e;dsimp only at e;omega)]
theorem res_facts {W:World} {B:Nat} (hb:W.heap[B]?=some z39):W.cell? ⟨B,0,none⟩=some (.int .u8 0)∧W.cell? ⟨B,1,none⟩=some (.string ByteArray.empty)∧W.cell? ⟨B,2,none⟩=some (.int .i64 0)∧W.cell? ⟨B,3,none⟩=some (.slice none 0 0)∧∀ j,W.frozen? ⟨B,j,none⟩=false:=by
 refine ⟨?_,?_,?_,?_,fun j=>?_⟩
 ·
  unfold World.cell?;rw [hb];rfl
 ·
  unfold World.cell?;rw [hb];rfl
 ·
  unfold World.cell?;rw [hb];rfl
 ·
  unfold World.cell?;rw [hb];rfl
 ·
  unfold World.frozen?;rw [hb];unfold z39;simp
theorem kept4 {W:World} {A:Nat→Prop} {lo B:Nat} (hB:B < lo) (v0 v1 v2 v3:Value):Kept W A lo ((((W.setCell ⟨B,0,none⟩ v0).setCell ⟨B,1,none⟩ v1).setCell ⟨B,2,none⟩ v2).setCell ⟨B,3,none⟩ v3):=by
 refine ⟨by simp,fun k hk _ _=>?_⟩
 rw [Go.Deep.blk_setCell_other _ _ _ _ (by intro e;dsimp only at e;omega),Go.Deep.blk_setCell_other _ _ _ _ (by intro e;dsimp only at e;omega),Go.Deep.blk_setCell_other _ _ _ _ (by intro e;dsimp only at e;omega),Go.Deep.blk_setCell_other _ _ _ _ (by intro e;dsimp only at e;omega)]
theorem atom_says (pb c e:Nat) (G:Option Addr) (l:List Wd) (hl:WsOk l) (rec:Gl→Nat→Option Re) (HA:ArgsC pb c e G l rec) (w:World) (n:Nat) (r:Re) (h:PsAt w pb G c l e n) (hr:Fm.step lang l e rec .atom n=some r):
  Calls Tryz.prog 345 #[.pointer (some ⟨pb,0,none⟩)] w (Says TermOf w pb G c l e r):=by
 have hpb:=h.lt
 have RC:=Lib.hid (fun w1 hs=>res_cells (w:=w) (w1:=w1) hs hpb)
 have hw0:=(World.Since.refl w.heap.size w).alloc (Nat.le_refl _) z39
 have KP:=Lib.hid (peek_says (w.alloc z39) pb c e n G l (h.up hw0))
 rw [nextV_form] at KP
 have HP:=Lib.hid (h.up hw0)
 have H0:=Lib.hid h
 have HW:=Lib.hid hw0
 clear hw0
 unfold z39 at KP HP HW
 have HAh:=Lib.hid HA
 have HL:=Lib.hid hl
 rw [step_atom hl] at hr
 clear h HA hl
 by_cases c1:nextNum l n=true
 ·
  have hn:=nextNum_lt c1
  rw [if_pos c1] at hr
  injection hr with hr
  subst hr
  have HQ:Hid (∀ w',Stay w pb G c l e (n+1) w'→Says TermOf w pb G c l e (.ok [.mk 1 ByteArray.empty (nextN l n) []] (n+1)) (.returned (.agg #[.int .u8 1,.string ByteArray.empty,.int .i64 (((nextN l n):Nat):Int),.slice none 0 0])) w'):=Lib.hid (fun w' hw=>⟨_,rfl,leaf_at w' _ _ 1 _ _,hw⟩)
  generalize hQ:Says TermOf w pb G c l e (.ok [.mk 1 ByteArray.empty (nextN l n) []] (n+1))=Q at *
  have z3:IntKind.i64.wrap ((n:Int)+1)=(n:Int)+1:=IntWalk.i64_in _ (by have:=HL.out.len;omega)
  generalize nextN l n=N at *
  generalize nextT l n=T at *
  generalize nextS l n=t at *
  generalize nextStr l n=SB at *
  generalize nextNum l n=NB at *
  generalize placeOf l e n=PL at *
  subst c1
  clear hQ
  go_enter Tryz.func345,Tryz.ntmps345
  go_wp2_with fail
  refine KP.out.mono ?_
  rintro r w1 ⟨rfl,hs⟩
  have S1:=Lib.hid hs
  have q0:=fun o v=>(RC.out w1 hs o v).1
  have q1:=fun o v=>(RC.out w1 hs o v).2.1
  have q2:=fun o v=>(RC.out w1 hs o v).2.2.1
  have q3:=fun o v=>(RC.out w1 hs o v).2.2.2.1
  have q4:=fun o=>(RC.out w1 hs o (.bool true)).2.2.2.2
  have P1:=Lib.hid ((HP.out.up hs).up ((World.Since.refl _ _).alloc (Nat.le_refl _) (.cells #[.int .i64 (PL:Nat),.string t,.bool true,.int .i64 (N:Nat),.bool SB,.string T,.bool false] 100)))
  have k1:=P1.out.c1
  have f1:=P1.out.fz
  clear hs KP
  go_wp2_with fail
  exact bodyPost_ret (v:=.agg #[.int .u8 1,.string ⟨#[]⟩,.int .i64 (N:Nat),.slice none 0 0]) (by simp [results,Tryz.results345,go_sem,q0,q1,q2,q3]) rfl (HQ.out _ (stay4 H0.out ⟨((((Adv.refl w pb).since HW.out).since S1.out).since ((World.Since.refl _ _).alloc (Nat.le_refl _) _)).trans (Adv.set _ pb 1 _),P1.out.set (n+1)⟩ (Nat.le_refl _) _ _ _ _))
 rw [if_neg c1] at hr
 have c1:=Bool.eq_false_iff.2 c1
 by_cases c2:nextStr l n=true
 ·
  have hn:=nextStr_lt c2
  rw [if_pos c2] at hr
  injection hr with hr
  subst hr
  have HQ:Hid (∀ w',Stay w pb G c l e (n+1) w'→Says TermOf w pb G c l e (.ok [.mk 2 (nextT l n) 0 []] (n+1)) (.returned (.agg #[.int .u8 2,.string (nextT l n),.int .i64 ((0:Nat):Int),.slice none 0 0])) w'):=Lib.hid (fun w' hw=>⟨_,rfl,leaf_at w' _ _ 2 _ _,hw⟩)
  generalize hQ:Says TermOf w pb G c l e (.ok [.mk 2 (nextT l n) 0 []] (n+1))=Q at *
  have z3:IntKind.i64.wrap ((n:Int)+1)=(n:Int)+1:=IntWalk.i64_in _ (by have:=HL.out.len;omega)
  generalize nextN l n=N at *
  generalize nextT l n=T at *
  generalize nextS l n=t at *
  generalize nextStr l n=SB at *
  generalize nextNum l n=NB at *
  generalize placeOf l e n=PL at *
  subst c1 c2
  clear hQ
  go_enter Tryz.func345,Tryz.ntmps345
  go_wp2_with fail
  refine KP.out.mono ?_
  rintro r w1 ⟨rfl,hs⟩
  have S1:=Lib.hid hs
  have q0:=fun o v=>(RC.out w1 hs o v).1
  have q1:=fun o v=>(RC.out w1 hs o v).2.1
  have q2:=fun o v=>(RC.out w1 hs o v).2.2.1
  have q3:=fun o v=>(RC.out w1 hs o v).2.2.2.1
  have q4:=fun o=>(RC.out w1 hs o (.bool true)).2.2.2.2
  have P1:=Lib.hid ((HP.out.up hs).up ((World.Since.refl _ _).alloc (Nat.le_refl _) (.cells #[.int .i64 (PL:Nat),.string t,.bool false,.int .i64 (N:Nat),.bool true,.string T,.bool false] 100)))
  have k1:=P1.out.c1
  have f1:=P1.out.fz
  clear hs KP
  go_wp2_with fail
  exact bodyPost_ret (v:=.agg #[.int .u8 2,.string T,.int .i64 0,.slice none 0 0]) (by simp [results,Tryz.results345,go_sem,q0,q1,q2,q3]) rfl (HQ.out _ (stay4 H0.out ⟨((((Adv.refl w pb).since HW.out).since S1.out).since ((World.Since.refl _ _).alloc (Nat.le_refl _) _)).trans (Adv.set _ pb 1 _),P1.out.set (n+1)⟩ (Nat.le_refl _) _ _ _ _))
 rw [if_neg c2] at hr
 have c2:=Bool.eq_false_iff.2 c2
 by_cases c3:nextS l n=sSource
 ·
  have hn:=nextS_some (l:=l) (n:=n) (by rw [c3];decide)
  rw [if_pos c3] at hr
  injection hr with hr
  subst hr
  have HQ:Hid (∀ w',Stay w pb G c l e (n+1) w'→Says TermOf w pb G c l e (.ok [.mk 4 ByteArray.empty 0 []] (n+1)) (.returned (.agg #[.int .u8 4,.string ByteArray.empty,.int .i64 ((0:Nat):Int),.slice none 0 0])) w'):=Lib.hid (fun w' hw=>⟨_,rfl,leaf_at w' _ _ 4 _ _,hw⟩)
  generalize hQ:Says TermOf w pb G c l e (.ok [.mk 4 ByteArray.empty 0 []] (n+1))=Q at *
  have z3:IntKind.i64.wrap ((n:Int)+1)=(n:Int)+1:=IntWalk.i64_in _ (by have:=HL.out.len;omega)
  generalize nextN l n=N at *
  generalize nextT l n=T at *
  generalize nextS l n=t at *
  generalize nextStr l n=SB at *
  generalize nextNum l n=NB at *
  generalize placeOf l e n=PL at *
  unfold sSource at c3
  subst c1 c2 c3
  clear hQ
  go_enter Tryz.func345,Tryz.ntmps345
  go_wp2_with fail
  refine KP.out.mono ?_
  rintro r w1 ⟨rfl,hs⟩
  have S1:=Lib.hid hs
  have q0:=fun o v=>(RC.out w1 hs o v).1
  have q1:=fun o v=>(RC.out w1 hs o v).2.1
  have q2:=fun o v=>(RC.out w1 hs o v).2.2.1
  have q3:=fun o v=>(RC.out w1 hs o v).2.2.2.1
  have q4:=fun o=>(RC.out w1 hs o (.bool true)).2.2.2.2
  have P1:=Lib.hid ((HP.out.up hs).up ((World.Since.refl _ _).alloc (Nat.le_refl _) (.cells #[.int .i64 (PL:Nat),.string ⟨#[115,111,117,114,99,101]⟩,.bool false,.int .i64 (N:Nat),.bool false,.string T,.bool false] 100)))
  have k1:=P1.out.c1
  have f1:=P1.out.fz
  clear hs KP
  go_wp2_with fail
  exact bodyPost_ret (v:=.agg #[.int .u8 4,.string ⟨#[]⟩,.int .i64 0,.slice none 0 0]) (by simp [results,Tryz.results345,go_sem,q0,q1,q2,q3]) rfl (HQ.out _ (stay4 H0.out ⟨((((Adv.refl w pb).since HW.out).since S1.out).since ((World.Since.refl _ _).alloc (Nat.le_refl _) _)).trans (Adv.set _ pb 1 _),P1.out.set (n+1)⟩ (Nat.le_refl _) _ _ _ _))
 rw [if_neg c3] at hr
 by_cases c4:nextS l n=sTarget
 ·
  have hn:=nextS_some (l:=l) (n:=n) (by rw [c4];decide)
  rw [if_pos c4] at hr
  injection hr with hr
  subst hr
  have HQ:Hid (∀ w',Stay w pb G c l e (n+1) w'→Says TermOf w pb G c l e (.ok [.mk 5 ByteArray.empty 0 []] (n+1)) (.returned (.agg #[.int .u8 5,.string ByteArray.empty,.int .i64 ((0:Nat):Int),.slice none 0 0])) w'):=Lib.hid (fun w' hw=>⟨_,rfl,leaf_at w' _ _ 5 _ _,hw⟩)
  generalize hQ:Says TermOf w pb G c l e (.ok [.mk 5 ByteArray.empty 0 []] (n+1))=Q at *
  have z3:IntKind.i64.wrap ((n:Int)+1)=(n:Int)+1:=IntWalk.i64_in _ (by have:=HL.out.len;omega)
  generalize nextN l n=N at *
  generalize nextT l n=T at *
  generalize nextS l n=t at *
  generalize nextStr l n=SB at *
  generalize nextNum l n=NB at *
  generalize placeOf l e n=PL at *
  unfold sTarget at c4
  subst c1 c2 c4
  clear c3
  clear hQ
  go_enter Tryz.func345,Tryz.ntmps345
  go_wp2_with fail
  refine KP.out.mono ?_
  rintro r w1 ⟨rfl,hs⟩
  have S1:=Lib.hid hs
  have q0:=fun o v=>(RC.out w1 hs o v).1
  have q1:=fun o v=>(RC.out w1 hs o v).2.1
  have q2:=fun o v=>(RC.out w1 hs o v).2.2.1
  have q3:=fun o v=>(RC.out w1 hs o v).2.2.2.1
  have q4:=fun o=>(RC.out w1 hs o (.bool true)).2.2.2.2
  have P1:=Lib.hid ((HP.out.up hs).up ((World.Since.refl _ _).alloc (Nat.le_refl _) (.cells #[.int .i64 (PL:Nat),.string ⟨#[116,97,114,103,101,116]⟩,.bool false,.int .i64 (N:Nat),.bool false,.string T,.bool false] 100)))
  have k1:=P1.out.c1
  have f1:=P1.out.fz
  clear hs KP
  go_wp2_with fail
  exact bodyPost_ret (v:=.agg #[.int .u8 5,.string ⟨#[]⟩,.int .i64 0,.slice none 0 0]) (by simp [results,Tryz.results345,go_sem,q0,q1,q2,q3]) rfl (HQ.out _ (stay4 H0.out ⟨((((Adv.refl w pb).since HW.out).since S1.out).since ((World.Since.refl _ _).alloc (Nat.le_refl _) _)).trans (Adv.set _ pb 1 _),P1.out.set (n+1)⟩ (Nat.le_refl _) _ _ _ _))
 rw [if_neg c4] at hr
 by_cases c5:lang.func (nextS l n)=true
 ·
  rw [if_pos c5] at hr
  have ht:¬ nextS l n=ByteArray.empty:=fun e=>by rw [e] at c5;exact absurd c5 (by decide +kernel)
  have hn:=nextS_some ht
  have h5:=isEmpty_no ht
  have KFn:=Lib.hid (fun w=>function_says w (nextS l n) (nextS_size HL.out n))
  rw [c5] at KFn
  cases hra:rec .args (n+1) with
  | none=>rw [hra] at hr;cases hr
  | some ra=>
   rw [hra] at hr
   have z3:IntKind.i64.wrap ((n:Int)+1)=(n:Int)+1:=IntWalk.i64_in _ (by have:=HL.out.len;omega)
   have x3:=lit_ne (s:=[115,111,117,114,99,101]) c3
   have x4:=lit_ne (s:=[116,97,114,103,101,116]) c4
   clear c3 c4
   cases ra with
   | bad pz=>
    have KA:Hid (∀ w2,PsAt w2 pb G c l e (n+1)→Calls Tryz.prog 279 #[.pointer (some ⟨pb,0,none⟩)] w2 fun E w'=>E=.panicked [{ v:=.iface 173 (.agg #[.int .i64 (pz:Nat)]),recovered:=false }]∧Adv w2 pb w'):=Lib.hid (fun w2 hp=>HAh.out w2 (n+1) _ hp hra)
    injection hr with hr
    subst hr
    have HQ:Hid (∀ w',Adv w pb w'→Says TermOf w pb G c l e (.bad pz) (strayE pz) w'):=Lib.hid (fun w' hw=>⟨rfl,hw⟩)
    generalize hQ:Says TermOf w pb G c l e (.bad pz)=Q at *
    generalize nextN l n=N at *
    generalize nextT l n=T at *
    generalize nextS l n=t at *
    generalize nextStr l n=SB at *
    generalize nextNum l n=NB at *
    generalize placeOf l e n=PL at *
    subst c1 c2
    clear hra hQ c5 ht
    go_enter Tryz.func345,Tryz.ntmps345
    go_wp2_with fail
    refine KP.out.mono ?_
    rintro r w1 ⟨rfl,hs⟩
    have S1:=Lib.hid hs
    have hlt1:pb < w1.heap.size:=(HP.out.up hs).lt
    clear hs KP
    go_wp2_with fail
    refine (KFn.out _).mono ?_
    rintro r w2 ⟨rfl,hs⟩
    have S2:=Lib.hid (since_new hs)
    have P2:=Lib.hid ((HP.out.up S1.out).up (since_new hs))
    have k1:=P2.out.c1
    have f1:=P2.out.fz
    have kt:∀ v,(w2.setCell ⟨pb,1,none⟩ v).cell? ⟨w1.heap.size,1,none⟩=some (.string t):=fun v=>(World.cell?_setCell_other _ _ _ _ (by intro e;injection e with e;omega)).trans ((hs.cell (a:=⟨w1.heap.size,1,none⟩) (by simp)).trans (by unfold World.cell?;rw [heap_alloc_new];rfl))
    clear hs KFn
    go_wp2_with fail
    have ktd:∀ v,(w2.setCell ⟨pb,1,none⟩ v).drew.cell? ⟨w1.heap.size,1,none⟩=some (.string t):=kt
    go_region_dies
    all_goals
     refine (KA.out _ ((P2.out.set (n+1)).up (World.Since.refl _ _).drew)).mono ?_
     rintro r w3 ⟨rfl,ha⟩
     exact ⟨rfl,HQ.out _ ((((((Adv.refl w pb).since HW.out).since S1.out).since S2.out).trans (Adv.set w2 pb 1 _)).trans (((Adv.refl _ pb).since (World.Since.refl _ _).drew).trans ha))⟩
   | ok ts m=>
    have KA:Hid (∀ w2,PsAt w2 pb G c l e (n+1)→Calls Tryz.prog 279 #[.pointer (some ⟨pb,0,none⟩)] w2 fun E w'=>∃ v,E=.returned v∧RowOf w' (Only pb) w2.heap.size ts v∧Stay w2 pb G c l e m w'):=Lib.hid (fun w2 hp=>HAh.out w2 (n+1) _ hp hra)
    dsimp only [andThen] at hr
    injection hr with hr
    subst hr
    have HQ:Hid (∀ v w',RowOf w' (Only pb) w.heap.size ts v→Stay w pb G c l e m w'→Says TermOf w pb G c l e (.ok [.mk 6 (nextS l n) 0 ts] m) (.returned (.agg #[.int .u8 6,.string (nextS l n),.int .i64 0,v])) w'):=Lib.hid (fun v w' hv hw=>⟨_,rfl,node_at 6 _ 0 hv,hw⟩)
    generalize hQ:Says TermOf w pb G c l e (.ok [.mk 6 (nextS l n) 0 ts] m)=Q at *
    generalize nextN l n=N at *
    generalize nextT l n=T at *
    generalize nextS l n=t at *
    generalize nextStr l n=SB at *
    generalize nextNum l n=NB at *
    generalize placeOf l e n=PL at *
    subst c1 c2
    clear hra hQ c5 ht
    go_enter Tryz.func345,Tryz.ntmps345
    go_wp2_with fail
    refine KP.out.mono ?_
    rintro r w1 ⟨rfl,hs⟩
    have S1:=Lib.hid hs
    have hlt1:pb < w1.heap.size:=(HP.out.up hs).lt
    have hlt0:w.heap.size < w1.heap.size:=Nat.lt_of_lt_of_le (by simp) hs.size
    have HB1:Hid (w1.heap[w.heap.size]?=some z39):=Lib.hid ((hs.block w.heap.size (by simp)).trans (heap_alloc_new w _))
    clear hs KP
    go_wp2_with fail
    refine (KFn.out _).mono ?_
    rintro r w2 ⟨rfl,hs⟩
    have S2:=Lib.hid (since_new hs)
    have P2:=Lib.hid ((HP.out.up S1.out).up (since_new hs))
    have HB2:Hid (w2.heap[w.heap.size]?=some z39):=Lib.hid (((since_new hs).block w.heap.size hlt0).trans HB1.out)
    have hlt2:w.heap.size < w2.heap.size:=Nat.lt_of_lt_of_le hlt0 (since_new hs).size
    have k1:=P2.out.c1
    have f1:=P2.out.fz
    have kt:∀ v,(w2.setCell ⟨pb,1,none⟩ v).cell? ⟨w1.heap.size,1,none⟩=some (.string t):=fun v=>(World.cell?_setCell_other _ _ _ _ (by intro e;injection e with e;omega)).trans ((hs.cell (a:=⟨w1.heap.size,1,none⟩) (by simp)).trans (by unfold World.cell?;rw [heap_alloc_new];rfl))
    have ktd:∀ v,(w2.setCell ⟨pb,1,none⟩ v).drew.cell? ⟨w1.heap.size,1,none⟩=some (.string t):=kt
    have HLT:=Lib.hid (And.intro (And.intro hlt1 hlt0) (And.intro hlt2 (Nat.lt_of_lt_of_le (by simp:w1.heap.size < (w1.alloc (.cells #[.int .i64 (PL:Nat),.string t,.bool false,.int .i64 (N:Nat),.bool false,.string T,.bool false] 100)).heap.size) hs.size)))
    clear hs KFn
    go_wp2_with fail
    go_region_with (first
      | (
       go_at_call 279;refine (KA.out _ ((P2.out.set (n+1)).up (World.Since.refl _ _).drew)).mono ?_;rintro r w3 ⟨v,rfl,hro,hst⟩;
       have R3:=Lib.hid hro;have T3:=Lib.hid hst;
       have HB3:w3.heap[w.heap.size]?=some z39:=((hst.1.block w.heap.size (by simp;exact HLT.out.2.1) (by omega)).trans (Go.Deep.blk_setCell_other _ _ _ _ (by intro e;dsimp only at e;omega))).trans HB2.out;
       obtain ⟨q0,q1,q2,q3,q4⟩:=res_facts HB3;
       have kt3:w3.cell? ⟨w1.heap.size,1,none⟩=some (.string t):=(World.cell?_of_block (hst.1.block w1.heap.size (by simp;exact HLT.out.2.2) (by omega))).trans (ktd _);
       obtain ⟨Gs,cc,us,rfl,-⟩:=hro;
       clear hst HB3))
    all_goals
     go_wp2_with fail
     exact bodyPost_ret (v:=.agg #[.int .u8 6,.string t,.int .i64 0,.slice Gs ts.length cc]) (by simp [results,Tryz.results345,go_sem,q0,q1,q2,q3]) rfl
      (HQ.out _ _ ((R3.out.up (kept4 (by simp;exact HLT.out.2.1) _ _ _ _)).mono (by simp;exact Nat.le_of_lt HLT.out.2.1))
       (stay4 H0.out ⟨(((((Adv.refl w pb).since HW.out).since S1.out).since S2.out).trans (Adv.set w2 pb 1 _)).trans (((Adv.refl _ pb).since (World.Since.refl _ _).drew).trans T3.out.1),T3.out.2⟩ (Nat.le_refl _) _ _ _ _))
 rw [if_neg c5] at hr
 have x3:=lit_ne (s:=[115,111,117,114,99,101]) c3
 have x4:=lit_ne (s:=[116,97,114,103,101,116]) c4
 have KN:=Lib.hid (fun w2 hp=>name_says w2 pb c e n G l hp HL.out)
 have KFn:=Lib.hid (fun w=>function_says w (nextS l n) (nextS_size HL.out n))
 rw [Bool.eq_false_iff.2 c5] at KFn
 clear c3 c4 c5
 cases hnm:nameAt lang l n with
 | none=>
  rw [hnm] at hr
  dsimp only at hr
  injection hr with hr
  subst hr
  have KN2:Hid (∀ w2,PsAt w2 pb G c l e n→Calls Tryz.prog 275 #[.pointer (some ⟨pb,0,none⟩)] w2 fun E w'=>E=.panicked [{ v:=.iface 173 (.agg #[.int .i64 (placeOf l e n:Nat)]),recovered:=false }]∧Adv w2 pb w'):=Lib.hid (fun w2 hp=>(KN.out w2 hp).mono fun E w' h=>h.2 hnm)
  have HQ:Hid (∀ w',Adv w pb w'→Says TermOf w pb G c l e (.bad (placeOf l e n)) (strayE (placeOf l e n)) w'):=Lib.hid (fun w' hw=>⟨rfl,hw⟩)
  generalize hQ:Says TermOf w pb G c l e (.bad (placeOf l e n))=Q at *
  clear hnm hQ KN
  generalize nextN l n=N at *
  generalize nextT l n=T at *
  generalize nextS l n=t at *
  generalize nextStr l n=SB at *
  generalize nextNum l n=NB at *
  generalize placeOf l e n=PL at *
  subst c1 c2
  by_cases h1:t=ByteArray.empty
  ·
   subst h1
   clear x3 x4
   go_enter Tryz.func345,Tryz.ntmps345
   go_wp2_with fail
   refine KP.out.mono ?_
   rintro r w1 ⟨rfl,hs⟩
   have S1:=Lib.hid hs
   clear hs KP
   go_wp2_with fail
   refine (KN2.out _ ((HP.out.up S1.out).up ((World.Since.refl _ _).alloc (Nat.le_refl _) _))).mono ?_
   rintro r w3 ⟨rfl,ha⟩
   have A3:=Lib.hid ha
   clear ha
   go_wp2_with fail
   exact ⟨rfl,HQ.out _ (((((Adv.refl w pb).since HW.out).since S1.out).since ((World.Since.refl _ _).alloc (Nat.le_refl _) _)).trans A3.out)⟩
  ·
   have h5:=isEmpty_no h1
   clear h1
   go_enter Tryz.func345,Tryz.ntmps345
   go_wp2_with fail
   refine KP.out.mono ?_
   rintro r w1 ⟨rfl,hs⟩
   have S1:=Lib.hid hs
   clear hs KP
   go_wp2_with fail
   refine (KFn.out _).mono ?_
   rintro r w2 ⟨rfl,hs⟩
   have S2:=Lib.hid (since_new hs)
   clear hs KFn
   go_wp2_with fail
   refine (KN2.out _ ((HP.out.up S1.out).up S2.out)).mono ?_
   rintro r w3 ⟨rfl,ha⟩
   have A3:=Lib.hid ha
   clear ha
   go_wp2_with fail
   exact ⟨rfl,HQ.out _ (((((Adv.refl w pb).since HW.out).since S1.out).since S2.out).trans A3.out)⟩
 | some x=>
  rw [hnm] at hr
  dsimp only at hr
  injection hr with hr
  subst hr
  have h1:¬ nextS l n=ByteArray.empty:=fun h=>by
   rw [nameAt_eq HL.out,if_neg (fun hh=>hh.1 h)] at hnm
   cases hnm
  have KN2:Hid (∀ w2,PsAt w2 pb G c l e n→Calls Tryz.prog 275 #[.pointer (some ⟨pb,0,none⟩)] w2 fun E w'=>E=.returned (.string x)∧Stay w2 pb G c l e (n+1) w'):=Lib.hid (fun w2 hp=>(KN.out w2 hp).mono fun E w' h=>h.1 x hnm)
  have HQ:Hid (∀ w',Stay w pb G c l e (n+1) w'→Says TermOf w pb G c l e (.ok [.mk 3 x 0 []] (n+1)) (.returned (.agg #[.int .u8 3,.string x,.int .i64 0,.slice none 0 0])) w'):=Lib.hid (fun w' hw=>⟨_,rfl,leaf_at w' _ _ 3 _ _,hw⟩)
  generalize hQ:Says TermOf w pb G c l e (.ok [.mk 3 x 0 []] (n+1))=Q at *
  clear hnm hQ KN
  generalize nextN l n=N at *
  generalize nextT l n=T at *
  generalize nextS l n=t at *
  generalize nextStr l n=SB at *
  generalize nextNum l n=NB at *
  generalize placeOf l e n=PL at *
  subst c1 c2
  have h5:=isEmpty_no h1
  clear h1
  go_enter Tryz.func345,Tryz.ntmps345
  go_wp2_with fail
  refine KP.out.mono ?_
  rintro r w1 ⟨rfl,hs⟩
  have S1:=Lib.hid hs
  have hlt0:w.heap.size < w1.heap.size:=Nat.lt_of_lt_of_le (by simp) hs.size
  have HB1:Hid (w1.heap[w.heap.size]?=some z39):=Lib.hid ((hs.block w.heap.size (by simp)).trans (heap_alloc_new w _))
  clear hs KP
  go_wp2_with fail
  refine (KFn.out _).mono ?_
  rintro r w2 ⟨rfl,hs⟩
  have S2:=Lib.hid (since_new hs)
  have HB2:Hid (w2.heap[w.heap.size]?=some z39):=Lib.hid (((since_new hs).block w.heap.size hlt0).trans HB1.out)
  have hlt2:w.heap.size < w2.heap.size:=Nat.lt_of_lt_of_le hlt0 (since_new hs).size
  clear hs KFn
  go_wp2_with fail
  refine (KN2.out _ ((HP.out.up S1.out).up S2.out)).mono ?_
  rintro r w3 ⟨rfl,hst⟩
  have T3:=Lib.hid hst
  have HB3:w3.heap[w.heap.size]?=some z39:=(hst.1.block w.heap.size hlt2 (by omega)).trans HB2.out
  obtain ⟨q0,q1,q2,q3,q4⟩:=res_facts HB3
  clear hst HB3 hlt2 hlt0
  go_wp2_with fail
  exact bodyPost_ret (v:=.agg #[.int .u8 3,.string x,.int .i64 0,.slice none 0 0]) (by simp [results,Tryz.results345,go_sem,q0,q1,q2,q3]) rfl
   (HQ.out _ (stay4 H0.out ⟨((((Adv.refl w pb).since HW.out).since S1.out).since S2.out).trans T3.out.1,T3.out.2⟩ (Nat.le_refl _) _ _ _ _))
end Go.Proofs.YthbdlnflmfchjaaGreatDoor
