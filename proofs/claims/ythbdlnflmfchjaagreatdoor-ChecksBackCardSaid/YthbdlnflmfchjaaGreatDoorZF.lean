/- The parser of formulas: what a walk of unit holds; its callees, one way each. -/
import Derived.Test.YthbdlnflmfchjaaGreatDoorZD
set_option linter.unusedVariables false
set_option linter.unusedSimpArgs false
namespace Go.Proofs.YthbdlnflmfchjaaGreatDoor
open Go.RowKit Go.Proofs.Fm Go.Proofs.MapEnt
set_option maxHeartbeats 1600000
set_option maxRecDepth 1000000
structure Inv (w:World) (pb c e:Nat) (G:Option Addr) (l:List Wd) (n:Nat) (wc:World):Prop where
 p0:∃ n0,PsAt w pb G c l e n0
 ad:Adv w pb wc
 ps:PsAt wc pb G c l e n
 z:wc.heap[w.heap.size]?=some z39
section
variable {w wc w':World} {pb c e n m:Nat} {G:Option Addr} {l:List Wd}
theorem Inv.start (h:PsAt w pb G c l e n):Inv w pb c e G l n (w.alloc z39):=
 ⟨⟨n,h⟩,(Adv.refl w pb).since ((World.Since.refl _ _).alloc (Nat.le_refl _) _),h.up ((World.Since.refl _ _).alloc (Nat.le_refl _) _),heap_alloc_new w _⟩
theorem Inv.lt (h:Inv w pb c e G l n wc):w.heap.size < wc.heap.size:=blk_lt h.z
theorem Inv.pbl (h:Inv w pb c e G l n wc):pb < w.heap.size:=by obtain ⟨_,h⟩:=h.p0;exact h.lt
theorem Inv.since (h:Inv w pb c e G l n wc) (hs:wc.Since wc.heap.size w'):Inv w pb c e G l n w':=⟨h.p0,h.ad.since hs,h.ps.up hs,(hs.block _ h.lt).trans h.z⟩
theorem Inv.alloc (h:Inv w pb c e G l n wc) (o:Obj):Inv w pb c e G l n (wc.alloc o):=h.since ((World.Since.refl _ _).alloc (Nat.le_refl _) _)
theorem Inv.drew (h:Inv w pb c e G l n wc):Inv w pb c e G l n wc.drew:=h.since (World.Since.refl _ _).drew
theorem Inv.adv (h:Inv w pb c e G l n wc) (ha:Adv wc pb w') (hp:PsAt w' pb G c l e m):Inv w pb c e G l m w':=⟨h.p0,h.ad.trans ha,hp,(ha.block _ h.lt (by have:=h.pbl;omega)).trans h.z⟩
theorem Inv.set (h:Inv w pb c e G l n wc) {b:Nat} (hb:w.heap.size < b) (j:Nat) (v:Value):Inv w pb c e G l n (wc.setCell ⟨b,j,none⟩ v):=by
 have hpb:=h.pbl
 obtain ⟨n0,h0⟩:=h.p0
 exact ⟨h.p0,h.ad.new (Nat.le_of_lt hb) j v,h0.via (h.ad.new (Nat.le_of_lt hb) j v) h.ps (Go.Deep.blk_setCell_other _ _ _ _ (by intro e;dsimp only at e;omega)),(Go.Deep.blk_setCell_other _ _ _ _ (by intro e;dsimp only at e;omega)).trans h.z⟩
theorem Inv.next (h:Inv w pb c e G l n wc) (m:Nat):Inv w pb c e G l m (wc.setCell ⟨pb,1,none⟩ (.int .i64 (m:Nat))):=h.adv (Adv.set wc pb 1 _) (h.ps.set m)
theorem Inv.facts (h:Inv w pb c e G l n wc):wc.cell? ⟨w.heap.size,0,none⟩=some (.int .u8 0)∧wc.cell? ⟨w.heap.size,1,none⟩=some (.string ByteArray.empty)∧wc.cell? ⟨w.heap.size,2,none⟩=some (.int .i64 0)∧wc.cell? ⟨w.heap.size,3,none⟩=some (.slice none 0 0)∧∀ j,wc.frozen? ⟨w.heap.size,j,none⟩=false:=res_facts h.z
theorem Inv.fin (h:Inv w pb c e G l m wc) {t:Tm} {v0 v1 v2 v3:Value} (ht:TermOf wc (Only pb) (w.heap.size+1) [t] (.agg #[v0,v1,v2,v3])):
  TermOf ((((wc.setCell ⟨w.heap.size,0,none⟩ v0).setCell ⟨w.heap.size,1,none⟩ v1).setCell ⟨w.heap.size,2,none⟩ v2).setCell ⟨w.heap.size,3,none⟩ v3) (Only pb) w.heap.size [t] (.agg #[v0,v1,v2,v3])∧
   Stay w pb G c l e m ((((wc.setCell ⟨w.heap.size,0,none⟩ v0).setCell ⟨w.heap.size,1,none⟩ v1).setCell ⟨w.heap.size,2,none⟩ v2).setCell ⟨w.heap.size,3,none⟩ v3):=by
 obtain ⟨n0,h0⟩:=h.p0
 obtain ⟨t',cs,e1,e2,h2⟩:=ht
 refine ⟨⟨t',cs,e1,e2,?_⟩,stay4 h0 ⟨h.ad,h.ps⟩ (Nat.le_refl _) _ _ _ _⟩
 exact TmAt.mono (Nat.le_succ _) _ _ (TmAt.up (kept4 (Nat.lt_succ_self _) _ _ _ _) _ _ h2)
theorem Kept.since {w w':World} (hs:w.Since w.heap.size w') (A:Nat→Prop) (lo:Nat):Kept w A lo w':=⟨hs.size,fun k _ hk _=>hs.block k hk⟩
theorem Kept.alloc (w:World) (o:Obj) (A:Nat→Prop) (lo:Nat):Kept w A lo (w.alloc o):=Kept.since ((World.Since.refl _ _).alloc (Nat.le_refl _) _) A lo
theorem Kept.set {W:World} {A:Nat→Prop} {lo B:Nat} (hB:B < lo) (j:Nat) (v:Value):Kept W A lo (W.setCell ⟨B,j,none⟩ v):=
 ⟨by simp,fun k hk _ _=>Go.Deep.blk_setCell_other _ _ _ _ (by intro e;dsimp only at e;omega)⟩
theorem row1_at {W:World} {A:Nat→Prop} {lo:Nat} {t:Tm} {cs:List Value} (h:TmAt W A lo t cs) (hA:¬ A W.heap.size) (hlo:lo≤W.heap.size):
  RowOf (W.alloc (.cells cs.toArray 39)) A lo [t] (.slice (some ⟨W.heap.size,0,none⟩) 1 1):=by
 refine ⟨_,_,cs,rfl,.inr ⟨W.heap.size,rfl,hA,hlo,by simp,fun i hi=>?_⟩,?_⟩
 ·
  unfold World.cell?
  rw [heap_alloc_new]
  simp [List.getElem?_eq_getElem hi]
 ·
  unfold TmsAt
  exact ⟨cs,[],by simp,TmAt.up (Kept.alloc W _ A lo) _ _ h,by unfold TmsAt;rfl⟩
theorem row2_at {W:World} {A:Nat→Prop} {lo:Nat} {t t2:Tm} {c1 c2:List Value} (h:TmAt W A lo t c1) (h2:TmAt W A lo t2 c2) (hA:¬ A W.heap.size) (hlo:lo≤W.heap.size):
  RowOf (W.alloc (.cells (c1 ++ c2).toArray 39)) A lo [t,t2] (.slice (some ⟨W.heap.size,0,none⟩) 2 2):=by
 refine ⟨_,_,c1 ++ c2,rfl,.inr ⟨W.heap.size,rfl,hA,hlo,by simp,fun i hi=>?_⟩,?_⟩
 ·
  unfold World.cell?
  rw [heap_alloc_new]
  simp [List.getElem?_eq_getElem hi]
 ·
  unfold TmsAt
  refine ⟨c1,c2,rfl,TmAt.up (Kept.alloc W _ A lo) _ _ h,?_⟩
  unfold TmsAt
  exact ⟨c2,[],by simp,TmAt.up (Kept.alloc W _ A lo) _ _ h2,by unfold TmsAt;rfl⟩
theorem take_y {W:World} (hp:PsAt W pb G c l e n) (hl:WsOk l) (ss:List ByteArray) (hss:ss.length≤1000) (hy:anyW l n ss=true) (b:Nat) (hb:b=W.heap.size):
  Calls Tryz.prog 235 #[.pointer (some ⟨pb,0,none⟩),.slice (some ⟨b,0,none⟩) ss.length ss.length] (W.alloc (.cells (ss.map Value.string).toArray 9)) fun E w'=>E=.returned (.tuple #[.string (nextS l n),.bool true])∧Adv W pb w'∧PsAt w' pb G c l e (n+1):=by
 subst hb
 have hs:W.Since W.heap.size (W.alloc (.cells (ss.map Value.string).toArray 9)):=(World.Since.refl _ _).alloc (Nat.le_refl _) _
 refine (take_says _ pb c e n G l (hp.up hs) hl.full hl.len ss W.heap.size ss.length (SsAt.made W ss) hss).mono fun _ _ h=>?_
 obtain ⟨h1,h2,_⟩:=h
 obtain ⟨h3,h4⟩:=h2 hy
 exact ⟨h3,((Adv.refl W pb).since hs).trans h1,h4⟩
theorem take_n {W:World} (hp:PsAt W pb G c l e n) (hl:WsOk l) (ss:List ByteArray) (hss:ss.length≤1000) (hy:anyW l n ss=false) (b:Nat) (hb:b=W.heap.size):
  Calls Tryz.prog 235 #[.pointer (some ⟨pb,0,none⟩),.slice (some ⟨b,0,none⟩) ss.length ss.length] (W.alloc (.cells (ss.map Value.string).toArray 9)) fun E w'=>E=.returned (.tuple #[.string ⟨#[]⟩,.bool false])∧Adv W pb w'∧PsAt w' pb G c l e n:=by
 subst hb
 have hs:W.Since W.heap.size (W.alloc (.cells (ss.map Value.string).toArray 9)):=(World.Since.refl _ _).alloc (Nat.le_refl _) _
 refine (take_says _ pb c e n G l (hp.up hs) hl.full hl.len ss W.heap.size ss.length (SsAt.made W ss) hss).mono fun _ _ h=>?_
 obtain ⟨h1,_,h2⟩:=h
 obtain ⟨h3,h4⟩:=h2 hy
 exact ⟨h3,((Adv.refl W pb).since hs).trans h1,h4⟩
theorem must_y {W:World} (hp:PsAt W pb G c l e n) (hl:WsOk l) (s:ByteArray) (hy:isW l n s=true):
  Calls Tryz.prog 276 #[.pointer (some ⟨pb,0,none⟩),.string s] W fun E w'=>E=.returned (.tuple #[])∧Adv W pb w'∧PsAt w' pb G c l e (n+1):=(must_says W pb c e n G l hp hl s).mono fun _ _ h=>h.1 hy
theorem must_n {W:World} (hp:PsAt W pb G c l e n) (hl:WsOk l) (s:ByteArray) (hy:isW l n s=false):
  Calls Tryz.prog 276 #[.pointer (some ⟨pb,0,none⟩),.string s] W fun E w'=>E=.panicked [{ v:=.iface 173 (.agg #[.int .i64 (placeOf l e n:Nat)]),recovered:=false }]∧Adv W pb w':=(must_says W pb c e n G l hp hl s).mono fun _ _ h=>h.2 hy
theorem name_y {W:World} (hp:PsAt W pb G c l e n) (hl:WsOk l) {x:ByteArray} (hy:nameAt lang l n=some x):
  Calls Tryz.prog 275 #[.pointer (some ⟨pb,0,none⟩)] W fun E w'=>E=.returned (.string x)∧Adv W pb w'∧PsAt w' pb G c l e (n+1):=(name_says W pb c e n G l hp hl).mono fun _ _ h=>h.1 x hy
theorem name_n {W:World} (hp:PsAt W pb G c l e n) (hl:WsOk l) (hy:nameAt lang l n=none):
  Calls Tryz.prog 275 #[.pointer (some ⟨pb,0,none⟩)] W fun E w'=>E=.panicked [{ v:=.iface 173 (.agg #[.int .i64 (placeOf l e n:Nat)]),recovered:=false }]∧Adv W pb w':=(name_says W pb c e n G l hp hl).mono fun _ _ h=>h.2 hy
theorem part_y {W:World} {F fn f:Nat} {g:Gl} (HA:PartC pb c e G l F fn g) (hf:f≤F) (hp:PsAt W pb G c l e n) {ts:List Tm} (hr:parse lang l e f g n=some (.ok ts m)):
  Calls Tryz.prog fn #[.pointer (some ⟨pb,0,none⟩)] W fun E w'=>∃ (k:Nat) (x:ByteArray) (nn:Nat) (G':Option Addr) (mm cc:Nat) (t:Tm),E=.returned (.agg #[.int .u8 (k:Nat),.string x,.int .i64 (nn:Nat),.slice G' mm cc])∧ts=[t]∧TmAt w' (Only pb) W.heap.size t [.int .u8 (k:Nat),.string x,.int .i64 (nn:Nat),.slice G' mm cc]∧Adv W pb w'∧PsAt w' pb G c l e m:=by
 refine (HA f hf W n _ hp hr).mono fun _ _ h=>?_
 obtain ⟨v,rfl,⟨t,cs,h1,rfl,h2⟩,h3⟩:=h
 obtain ⟨k,x,nn,G',mm,cc,rfl⟩:=tm_four h2
 exact ⟨k,x,nn,G',mm,cc,t,rfl,h1,h2,h3⟩
theorem part_n {W:World} {F fn f p:Nat} {g:Gl} (HA:PartC pb c e G l F fn g) (hf:f≤F) (hp:PsAt W pb G c l e n) (hr:parse lang l e f g n=some (.bad p)):
  Calls Tryz.prog fn #[.pointer (some ⟨pb,0,none⟩)] W fun E w'=>E=.panicked [{ v:=.iface 173 (.agg #[.int .i64 (p:Nat)]),recovered:=false }]∧Adv W pb w':=(HA f hf W n _ hp hr).mono fun _ _ h=>h
def ArgsP (pb c e:Nat) (G:Option Addr) (l:List Wd) (F:Nat):Prop:=
 ∀ f,f≤F→∀ w n r,PsAt w pb G c l e n→parse lang l e f .args n=some r→Calls Tryz.prog 279 #[.pointer (some ⟨pb,0,none⟩)] w (Says RowOf w pb G c l e r)
theorem args_y {W:World} {F f:Nat} (HA:ArgsP pb c e G l F) (hf:f≤F) (hp:PsAt W pb G c l e n) {ts:List Tm} (hr:parse lang l e f .args n=some (.ok ts m)):
  Calls Tryz.prog 279 #[.pointer (some ⟨pb,0,none⟩)] W fun E w'=>∃ (G':Option Addr) (mm cc:Nat),E=.returned (.slice G' mm cc)∧RowOf w' (Only pb) W.heap.size ts (.slice G' mm cc)∧Adv W pb w'∧PsAt w' pb G c l e m:=by
 refine (HA f hf W n _ hp hr).mono fun _ _ h=>?_
 obtain ⟨v,rfl,h1,h3⟩:=h
 have h1':=h1
 obtain ⟨G',cc,us,rfl,_⟩:=h1
 exact ⟨_,_,_,rfl,h1',h3⟩
theorem args_n {W:World} {F f p:Nat} (HA:ArgsP pb c e G l F) (hf:f≤F) (hp:PsAt W pb G c l e n) (hr:parse lang l e f .args n=some (.bad p)):
  Calls Tryz.prog 279 #[.pointer (some ⟨pb,0,none⟩)] W fun E w'=>E=.panicked [{ v:=.iface 173 (.agg #[.int .i64 (p:Nat)]),recovered:=false }]∧Adv W pb w':=(HA f hf W n _ hp hr).mono fun _ _ h=>h
theorem andThen_split {o:Option Re} {k:List Tm→Nat→Option Re} {r:Re} (h:andThen o k=some r):(∃ p,o=some (.bad p)∧r=.bad p) ∨ ∃ ts m,o=some (.ok ts m)∧k ts m=some r:=by
 cases o with
 | none=>cases h
 | some x=>
  cases x with
  | bad p=>injection h with h;exact .inl ⟨p,rfl,h.symm⟩
  | ok ts m=>exact .inr ⟨ts,m,rfl,h⟩
end
theorem operators_says (w:World):Calls Tryz.prog 280 #[] w fun r w'=>r=.returned (.slice (some ⟨w.heap.size,0,none⟩) 8 8)∧w'=w.alloc (.cells (operL.map Value.string).toArray 9):=by
 go_enter Tryz.func280,Tryz.ntmps280
 go_wp2_with fail
 go_ret
 exact ⟨rfl,rfl⟩
theorem testAt_eq {l:List Wd} (h:WsOk l) (n:Nat):testAt lang l n=if ¬ nextS l n=ByteArray.empty∧lang.test (nextS l n)=true then some (nextS l n) else none:=by
 unfold testAt nextS
 cases hx:l[n]? with
 | none=>exact (if_neg (fun h=>h.1 rfl)).symm
 | some x=>
  have hm:x ∈ l:=List.mem_of_getElem? hx
  have hk:=h.all x hm
  have hf:=h.full x hm
  obtain ⟨k,t,p⟩:=x
  cases k with
  | letters=>
   have h2:=hf (.inl rfl)
   dsimp only at h2
   simp [wS,h2]
  | sign=>
   have h1:=hk.sign rfl
   dsimp only at h1
   show none=if ¬ t=ByteArray.empty∧lang.test t=true then some t else none
   refine (if_neg (fun h=>h1.2 ?_)).symm
   have h2:=h.2
   unfold lang at h2
   dsimp only at h2
   cases hx:findE t with
   | none=>rw [hx] at h2;cases h2
   | some x=>
    obtain ⟨h3,rfl⟩:=findE_name hx
    exact (by decide +kernel:∀ x ∈ table,97≤byteAt x.name 0∧byteAt x.name 0≤122) x h3
  | number=>simp [wS]
  | string=>simp [wS]
theorem operAt_eq {l:List Wd} (h:WsOk l) (n:Nat):operAt lang l n=if anyW l n operL=true then some (nextS l n) else none:=by
 unfold operAt nextS anyW isW
 cases hx:l[n]? with
 | none=>simp
 | some x=>
  obtain ⟨k,t,p⟩:=x
  have hc:(lang.oper t)=operL.any fun s=>decide (t=s):=by
   unfold lang
   dsimp only
   congr 1
   funext s
   rw [Bool.eq_iff_iff,decide_eq_true_eq,decide_eq_true_eq]
   exact eq_comm
  cases k with
  | letters=>
   have e1:(operL.any fun s=>(decide (Kd.letters=Kd.letters) || decide (Kd.letters=Kd.sign)) && decide (t=s))=operL.any fun s=>decide (t=s):=by
    congr 1
   show (if (Kd.letters=Kd.letters ∨ Kd.letters=Kd.sign)∧lang.oper t=true then some t else none)=if (operL.any fun s=>(decide (Kd.letters=Kd.letters) || decide (Kd.letters=Kd.sign)) && decide (t=s))=true then some t else none
   rw [e1,← hc]
   by_cases ho:lang.oper t=true
   ·
    rw [if_pos ⟨.inl rfl,ho⟩,if_pos ho]
   ·
    rw [if_neg (fun h=>ho h.2),if_neg ho]
  | sign=>
   have e1:(operL.any fun s=>(decide (Kd.sign=Kd.letters) || decide (Kd.sign=Kd.sign)) && decide (t=s))=operL.any fun s=>decide (t=s):=by
    congr 1
   show (if (Kd.sign=Kd.letters ∨ Kd.sign=Kd.sign)∧lang.oper t=true then some t else none)=if (operL.any fun s=>(decide (Kd.sign=Kd.letters) || decide (Kd.sign=Kd.sign)) && decide (t=s))=true then some t else none
   rw [e1,← hc]
   by_cases ho:lang.oper t=true
   ·
    rw [if_pos ⟨.inr rfl,ho⟩,if_pos ho]
   ·
    rw [if_neg (fun h=>ho h.2),if_neg ho]
  | number=>simp
  | string=>simp
end Go.Proofs.YthbdlnflmfchjaaGreatDoor
namespace Go.Proofs.YthbdlnflmfchjaaGreatDoor
open Go.RowKit Go.Proofs.Fm Go.Proofs.MapEnt
set_option maxHeartbeats 3200000
set_option maxRecDepth 1000000
theorem field_s (p:Nat) (s:ByteArray) (a:Bool) (b:Nat) (c:Bool) (d:ByteArray) (f:Bool) (W:World):(Instr.field 100 (.agg #[.int .i64 (p:Nat),.string s,.bool a,.int .i64 (b:Nat),.bool c,.string d,.bool f]) 1).run Tryz.prog W=.ok (.string s) W:=by kernel_rfl
theorem peek_y {W:World} {pb c e n:Nat} {G:Option Addr} {l:List Wd} (hp:PsAt W pb G c l e n):Calls Tryz.prog 169 #[.pointer (some ⟨pb,0,none⟩)] W fun E w'=>(∃ (p:Nat) (a:Bool) (b:Nat) (c:Bool) (d:ByteArray) (f:Bool),E=.returned (.agg #[.int .i64 (p:Nat),.string (nextS l n),.bool a,.int .i64 (b:Nat),.bool c,.string d,.bool f]))∧W.Since W.heap.size w':=by
 refine (peek_says W pb c e n G l hp).mono fun _ _ h=>?_
 obtain ⟨p,a,b,cc,d,f,e1⟩:=nextV_agg l e n
 obtain ⟨rfl,h2⟩:=h
 exact ⟨⟨p,a,b,cc,d,f,by rw [e1]⟩,h2⟩
theorem unit_not (pb c e F:Nat) (G:Option Addr) (l:List Wd) (hl:WsOk l) (HU:PartC pb c e G l F 236 .unit) (HF:PartC pb c e G l F 91 (.several true)) (HT:PartC pb c e G l F 277 .term) (HR:ArgsP pb c e G l F) (w:World) (n:Nat) (r:Re) (h:PsAt w pb G c l e n) (c1:isW l n sNot=true)
  (hr:andThen (parse lang l e F .unit (n+1)) (fun ts n1=>some (.ok [.mk 12 ByteArray.empty 0 ts] n1))=some r):
  Calls Tryz.prog 236 #[.pointer (some ⟨pb,0,none⟩)] w (Says TermOf w pb G c l e r):=by
 have I0:=Lib.hid (Inv.start h)
 have hpb:=h.lt
 have K1:=Lib.hid (take_y (Inv.start h).ps hl [⟨#[110,111,116]⟩] (by decide) (by rw [anyW_one];exact c1) (w.heap.size+1) (by simp))
 unfold z39 at I0 K1
 rcases andThen_split hr with ⟨p,ha,rfl⟩ | ⟨ts,m,ha,hk⟩
 ·
  have K4:=Lib.hid (fun W hp=>part_n (W:=W) HU (Nat.le_refl _) hp ha)
  have HQ:Hid (∀ w',Adv w pb w'→Says TermOf w pb G c l e (.bad p) (strayE (p)) w'):=Lib.hid (fun w' h=>⟨rfl,h⟩)
  generalize Says TermOf w pb G c l e (.bad p)=Q at *
  clear h hr ha hl HU HF HT HR c1
  go_enter Tryz.func236,Tryz.ntmps236
  go_wp2_with fail
  refine (K1.out).mono ?_
  rintro r0 w1 ⟨rfl,ha,hp⟩
  have I1:=Lib.hid (I0.out.adv ha hp)
  clear ha hp
  go_wp2_with fail
  refine (K4.out _ I1.out.ps).mono ?_
  rintro r0 w2 ⟨rfl,ha⟩
  have A2:=Lib.hid ha
  clear ha
  go_wp2_with fail
  exact ⟨rfl,HQ.out _ (I1.out.ad.trans A2.out)⟩
 ·
  injection hk with hk
  subst hk
  have K4:=Lib.hid (fun W hp=>part_y (W:=W) HU (Nat.le_refl _) hp ha)
  have HQ:Hid (∀ w' v,TermOf w' (Only pb) w.heap.size [.mk 12 ByteArray.empty 0 ts] v→Stay w pb G c l e m w'→Says TermOf w pb G c l e (.ok [.mk 12 ByteArray.empty 0 ts] m) (.returned v) w'):=Lib.hid (fun w' v h1 h2=>⟨v,rfl,h1,h2⟩)
  generalize Says TermOf w pb G c l e (.ok [.mk 12 ByteArray.empty 0 ts] m)=Q at *
  clear h hr ha hl HU HF HT HR c1
  go_enter Tryz.func236,Tryz.ntmps236
  go_wp2_with fail
  refine (K1.out).mono ?_
  rintro r0 w1 ⟨rfl,ha,hp⟩
  have I1:=Lib.hid (I0.out.adv ha hp)
  clear ha hp
  go_wp2_with fail
  refine (K4.out _ I1.out.ps).mono ?_
  rintro r0 w2 ⟨k2,x2,nn2,G2,mm2,cc2,t2,rfl,rfl,ht,ha,hp⟩
  have J2:=Lib.hid (I1.out.adv ha hp)
  have I2:=Lib.hid (J2.out.alloc (.cells #[.int .u8 (k2:Nat),.string x2,.int .i64 (nn2:Nat),.slice G2 mm2 cc2] 39))
  have R2:=Lib.hid (row1_at (A:=Only pb) (lo:=w.heap.size+1) (TmAt.mono I1.out.lt _ _ ht) (fun h=>by have h:w2.heap.size=pb:=h;have:=J2.out.lt;omega) J2.out.lt)
  obtain ⟨q0,q1,q2,q3,q4⟩:=I2.out.facts
  clear ht ha hp K4
  go_wp2_with fail
  have hf:=I2.out.fin (node_at 12 ByteArray.empty 0 R2.out)
  exact bodyPost_ret (v:=.agg #[.int .u8 12,.string ⟨#[]⟩,.int .i64 0,.slice (some ⟨w2.heap.size,0,none⟩) 1 1]) (by simp [results,Tryz.results236,go_sem,q0,q1,q2,q3]) rfl (HQ.out _ _ hf.1 hf.2)
theorem unit_open (pb c e F:Nat) (G:Option Addr) (l:List Wd) (hl:WsOk l) (HU:PartC pb c e G l F 236 .unit) (HF:PartC pb c e G l F 91 (.several true)) (HT:PartC pb c e G l F 277 .term) (HR:ArgsP pb c e G l F) (w:World) (n:Nat) (r:Re) (h:PsAt w pb G c l e n) (c1:isW l n sNot=false) (c2:anyW l n [sAll,sAny]=false) (c3:isW l n sOpen=true)
  (hr:andThen (parse lang l e F (.several true) (n+1)) (fun ts n1=>if isW l n1 sShut then some (.ok ts (n1+1)) else some (.bad (placeOf l e n1)))=some r):
  Calls Tryz.prog 236 #[.pointer (some ⟨pb,0,none⟩)] w (Says TermOf w pb G c l e r):=by
 have I0:=Lib.hid (Inv.start h)
 have hpb:=h.lt
 have K1:=Lib.hid (take_n (Inv.start h).ps hl [⟨#[110,111,116]⟩] (by decide) (by rw [anyW_one];exact c1) (w.heap.size+1) (by simp))
 unfold z39 at I0 K1
 have K2:=Lib.hid (fun W (hp:PsAt W pb G c l e n)=>take_n (W:=W) hp hl [⟨#[97,108,108]⟩,⟨#[97,110,121]⟩] (by decide) c2 W.heap.size rfl)
 have K3:=Lib.hid (fun W (hp:PsAt W pb G c l e n)=>take_y (W:=W) hp hl [⟨#[40]⟩] (by decide) (by rw [anyW_one];exact c3) W.heap.size rfl)
 rcases andThen_split hr with ⟨p,ha,rfl⟩ | ⟨ts,m,ha,hk⟩
 ·
  have K4:=Lib.hid (fun W hp=>part_n (W:=W) HF (Nat.le_refl _) hp ha)
  have HQ:Hid (∀ w',Adv w pb w'→Says TermOf w pb G c l e (.bad p) (strayE (p)) w'):=Lib.hid (fun w' h=>⟨rfl,h⟩)
  generalize Says TermOf w pb G c l e (.bad p)=Q at *
  clear h hr ha hl HU HF HT HR c1 c2 c3
  go_enter Tryz.func236,Tryz.ntmps236
  go_wp2_with fail
  refine (K1.out).mono ?_
  rintro r0 w1 ⟨rfl,ha,hp⟩
  have I1:=Lib.hid (I0.out.adv ha hp)
  clear ha hp
  go_wp2_with fail
  refine (K2.out _ I1.out.ps).mono ?_
  rintro r0 w2 ⟨rfl,ha,hp⟩
  have I2:=Lib.hid (I1.out.adv ha hp)
  clear ha hp
  go_wp2_with fail
  refine (K3.out _ I2.out.ps).mono ?_
  rintro r0 w3 ⟨rfl,ha,hp⟩
  have I3:=Lib.hid (I2.out.adv ha hp)
  clear ha hp
  go_wp2_with fail
  refine (K4.out _ I3.out.ps).mono ?_
  rintro r0 w4 ⟨rfl,ha⟩
  have A4:=Lib.hid ha
  clear ha
  go_wp2_with fail
  exact ⟨rfl,HQ.out _ (I3.out.ad.trans A4.out)⟩
 ·
  have K4:=Lib.hid (fun W hp=>part_y (W:=W) HF (Nat.le_refl _) hp ha)
  by_cases c5:isW l m sShut=true
  ·
   rw [if_pos c5] at hk
   injection hk with hk
   subst hk
   have K5:=Lib.hid (fun W (hp:PsAt W pb G c l e m)=>must_y (W:=W) hp hl ⟨#[41]⟩ c5)
   have HQ:Hid (∀ w' v,TermOf w' (Only pb) w.heap.size ts v→Stay w pb G c l e (m+1) w'→Says TermOf w pb G c l e (.ok ts (m+1)) (.returned v) w'):=Lib.hid (fun w' v h1 h2=>⟨v,rfl,h1,h2⟩)
   generalize Says TermOf w pb G c l e (.ok ts (m+1))=Q at *
   clear h hr ha hl HU HF HT HR c1 c2 c3 c5
   go_enter Tryz.func236,Tryz.ntmps236
   go_wp2_with fail
   refine (K1.out).mono ?_
   rintro r0 w1 ⟨rfl,ha,hp⟩
   have I1:=Lib.hid (I0.out.adv ha hp)
   clear ha hp
   go_wp2_with fail
   refine (K2.out _ I1.out.ps).mono ?_
   rintro r0 w2 ⟨rfl,ha,hp⟩
   have I2:=Lib.hid (I1.out.adv ha hp)
   clear ha hp
   go_wp2_with fail
   refine (K3.out _ I2.out.ps).mono ?_
   rintro r0 w3 ⟨rfl,ha,hp⟩
   have I3:=Lib.hid (I2.out.adv ha hp)
   clear ha hp
   go_wp2_with fail
   refine (K4.out _ I3.out.ps).mono ?_
   rintro r0 w4 ⟨k4,x4,nn4,G4,mm4,cc4,t4,rfl,rfl,ht,ha,hp⟩
   have J4:=Lib.hid (I3.out.adv ha hp)
   have I4:=Lib.hid (J4.out.alloc (.cells #[.int .u8 (k4:Nat),.string x4,.int .i64 (nn4:Nat),.slice G4 mm4 cc4] 39))
   have T4:=Lib.hid ht
   clear ht ha hp K4
   go_wp2_with fail
   refine (K5.out _ I4.out.ps).mono ?_
   rintro r0 w5 ⟨rfl,ha,hp⟩
   have hlt:w4.heap.size ≠ pb:=by have:=J4.out.lt;have:=I3.out.pbl;omega
   have I5:=Lib.hid (I4.out.adv ha hp)
   have T5:=Lib.hid (TmAt.up (ha.kept (A:=Only pb) rfl _) _ _ (TmAt.up (Kept.alloc w4 (.cells #[.int .u8 (k4:Nat),.string x4,.int .i64 (nn4:Nat),.slice G4 mm4 cc4] 39) _ _) _ _ T4.out))
   obtain ⟨s0,s1,s2,s3,-⟩:=cells4 ((ha.block w4.heap.size (by simp) hlt).trans (heap_alloc_new w4 _))
   obtain ⟨q0,q1,q2,q3,q4⟩:=I5.out.facts
   clear ha hp K5 hlt
   go_wp2_with fail
   have hf:=I5.out.fin (⟨t4,_,rfl,rfl,TmAt.mono I3.out.lt _ _ T5.out⟩)
   exact bodyPost_ret (v:=.agg #[.int .u8 (k4:Nat),.string x4,.int .i64 (nn4:Nat),.slice G4 mm4 cc4]) (by simp [results,Tryz.results236,go_sem,q0,q1,q2,q3]) rfl (HQ.out _ _ hf.1 hf.2)
  ·
   rw [if_neg c5] at hk
   injection hk with hk
   subst hk
   have K5:=Lib.hid (fun W (hp:PsAt W pb G c l e m)=>must_n (W:=W) hp hl ⟨#[41]⟩ (Bool.eq_false_iff.2 c5))
   have HQ:Hid (∀ w',Adv w pb w'→Says TermOf w pb G c l e (.bad (placeOf l e m)) (strayE ((placeOf l e m))) w'):=Lib.hid (fun w' h=>⟨rfl,h⟩)
   generalize Says TermOf w pb G c l e (.bad (placeOf l e m))=Q at *
   clear h hr ha hl HU HF HT HR c1 c2 c3 c5
   go_enter Tryz.func236,Tryz.ntmps236
   go_wp2_with fail
   refine (K1.out).mono ?_
   rintro r0 w1 ⟨rfl,ha,hp⟩
   have I1:=Lib.hid (I0.out.adv ha hp)
   clear ha hp
   go_wp2_with fail
   refine (K2.out _ I1.out.ps).mono ?_
   rintro r0 w2 ⟨rfl,ha,hp⟩
   have I2:=Lib.hid (I1.out.adv ha hp)
   clear ha hp
   go_wp2_with fail
   refine (K3.out _ I2.out.ps).mono ?_
   rintro r0 w3 ⟨rfl,ha,hp⟩
   have I3:=Lib.hid (I2.out.adv ha hp)
   clear ha hp
   go_wp2_with fail
   refine (K4.out _ I3.out.ps).mono ?_
   rintro r0 w4 ⟨k4,x4,nn4,G4,mm4,cc4,t4,rfl,rfl,ht,ha,hp⟩
   have J4:=Lib.hid (I3.out.adv ha hp)
   have I4:=Lib.hid (J4.out.alloc (.cells #[.int .u8 (k4:Nat),.string x4,.int .i64 (nn4:Nat),.slice G4 mm4 cc4] 39))
   have T4:=Lib.hid ht
   clear ht ha hp K4
   go_wp2_with fail
   refine (K5.out _ I4.out.ps).mono ?_
   rintro r0 w5 ⟨rfl,ha⟩
   have A5:=Lib.hid ha
   clear ha
   go_wp2_with fail
   exact ⟨rfl,HQ.out _ (I4.out.ad.trans A5.out)⟩
theorem unit_test (pb c e F:Nat) (G:Option Addr) (l:List Wd) (hl:WsOk l) (HU:PartC pb c e G l F 236 .unit) (HF:PartC pb c e G l F 91 (.several true)) (HT:PartC pb c e G l F 277 .term) (HR:ArgsP pb c e G l F) (w:World) (n:Nat) (r:Re) (h:PsAt w pb G c l e n) (c1:isW l n sNot=false) (c2:anyW l n [sAll,sAny]=false) (c3:isW l n sOpen=false) (c4:testAt lang l n=some (nextS l n)) (hne:¬ nextS l n=ByteArray.empty) (htt:lang.test (nextS l n)=true)
  (hr:andThen (parse lang l e F .args (n+1)) (fun ts n1=>some (.ok [.mk 11 (nextS l n) 0 ts] n1))=some r):
  Calls Tryz.prog 236 #[.pointer (some ⟨pb,0,none⟩)] w (Says TermOf w pb G c l e r):=by
 have I0:=Lib.hid (Inv.start h)
 have hpb:=h.lt
 have K1:=Lib.hid (take_n (Inv.start h).ps hl [⟨#[110,111,116]⟩] (by decide) (by rw [anyW_one];exact c1) (w.heap.size+1) (by simp))
 unfold z39 at I0 K1
 have K2:=Lib.hid (fun W (hp:PsAt W pb G c l e n)=>take_n (W:=W) hp hl [⟨#[97,108,108]⟩,⟨#[97,110,121]⟩] (by decide) c2 W.heap.size rfl)
 have K3:=Lib.hid (fun W (hp:PsAt W pb G c l e n)=>take_n (W:=W) hp hl [⟨#[40]⟩] (by decide) (by rw [anyW_one];exact c3) W.heap.size rfl)
 have KP:=Lib.hid (fun W (hp:PsAt W pb G c l e n)=>peek_y (W:=W) hp)
 have KT:=Lib.hid (fun W=>test_says W (nextS l n) (nextS_size hl n))
 have hE:=isEmpty_no hne
 have hn:=testAt_lt c4
 have hlen:=hl.len
 have z1:IntKind.i64.wrap ((n:Int)+1)=(n:Int)+1:=IntWalk.i64_in _ (by omega)
 rw [htt] at KT
 rcases andThen_split hr with ⟨p,ha,rfl⟩ | ⟨ts,m,ha,hk⟩
 ·
  have K4:=Lib.hid (fun W hp=>args_n (W:=W) HR (Nat.le_refl _) hp ha)
  have HQ:Hid (∀ w',Adv w pb w'→Says TermOf w pb G c l e (.bad p) (strayE (p)) w'):=Lib.hid (fun w' h=>⟨rfl,h⟩)
  generalize Says TermOf w pb G c l e (.bad p)=Q at *
  generalize nextS l n=S at *
  clear h hr ha hl HU HF HT HR c1 c2 c3 c4 hne htt hn hlen
  go_enter Tryz.func236,Tryz.ntmps236
  go_wp2_with fail
  refine (K1.out).mono ?_
  rintro r0 w1 ⟨rfl,ha,hp⟩
  have I1:=Lib.hid (I0.out.adv ha hp)
  clear ha hp
  go_wp2_with fail
  refine (K2.out _ I1.out.ps).mono ?_
  rintro r0 w2 ⟨rfl,ha,hp⟩
  have I2:=Lib.hid (I1.out.adv ha hp)
  clear ha hp
  go_wp2_with fail
  refine (K3.out _ I2.out.ps).mono ?_
  rintro r0 w3 ⟨rfl,ha,hp⟩
  have I3:=Lib.hid (I2.out.adv ha hp)
  clear ha hp
  go_wp2_with fail
  refine (KP.out _ I3.out.ps).mono ?_
  rintro r0 w4 ⟨⟨p4,a4,b4,c4,d4,f4,rfl⟩,hs⟩
  have I4:=Lib.hid (I3.out.since hs)
  have hfd:=fun W=>field_s p4 S a4 b4 c4 d4 f4 W
  clear hs
  go_wp2_with fail
  refine (KT.out _).mono ?_
  rintro r0 w5 ⟨rfl,hs⟩
  have I5:=Lib.hid (I4.out.since hs)
  have I6:=Lib.hid (I5.out.next (n+1))
  have e1:((n+1:Nat):Int)=(n:Int)+1:=by omega
  rw [e1] at I6
  have g1:=I5.out.ps.c1
  have g2:=I5.out.ps.fz
  clear hs e1
  go_wp2_with fail
  refine (K4.out _ I6.out.ps).mono ?_
  rintro r0 w7 ⟨rfl,ha⟩
  have A7:=Lib.hid ha
  clear ha
  go_wp2_with fail
  exact ⟨rfl,HQ.out _ (I6.out.ad.trans A7.out)⟩
 ·
  injection hk with hk
  subst hk
  have K4:=Lib.hid (fun W hp=>args_y (W:=W) HR (Nat.le_refl _) hp ha)
  have HQ:Hid (∀ w' v,TermOf w' (Only pb) w.heap.size [.mk 11 (nextS l n) 0 ts] v→Stay w pb G c l e m w'→Says TermOf w pb G c l e (.ok [.mk 11 (nextS l n) 0 ts] m) (.returned v) w'):=Lib.hid (fun w' v h1 h2=>⟨v,rfl,h1,h2⟩)
  generalize Says TermOf w pb G c l e (.ok [.mk 11 (nextS l n) 0 ts] m)=Q at *
  generalize nextS l n=S at *
  clear h hr ha hl HU HF HT HR c1 c2 c3 c4 hne htt hn hlen
  go_enter Tryz.func236,Tryz.ntmps236
  go_wp2_with fail
  refine (K1.out).mono ?_
  rintro r0 w1 ⟨rfl,ha,hp⟩
  have I1:=Lib.hid (I0.out.adv ha hp)
  clear ha hp
  go_wp2_with fail
  refine (K2.out _ I1.out.ps).mono ?_
  rintro r0 w2 ⟨rfl,ha,hp⟩
  have I2:=Lib.hid (I1.out.adv ha hp)
  clear ha hp
  go_wp2_with fail
  refine (K3.out _ I2.out.ps).mono ?_
  rintro r0 w3 ⟨rfl,ha,hp⟩
  have I3:=Lib.hid (I2.out.adv ha hp)
  clear ha hp
  go_wp2_with fail
  refine (KP.out _ I3.out.ps).mono ?_
  rintro r0 w4 ⟨⟨p4,a4,b4,c4,d4,f4,rfl⟩,hs⟩
  have I4:=Lib.hid (I3.out.since hs)
  have hfd:=fun W=>field_s p4 S a4 b4 c4 d4 f4 W
  clear hs
  go_wp2_with fail
  refine (KT.out _).mono ?_
  rintro r0 w5 ⟨rfl,hs⟩
  have I5:=Lib.hid (I4.out.since hs)
  have I6:=Lib.hid (I5.out.next (n+1))
  have e1:((n+1:Nat):Int)=(n:Int)+1:=by omega
  rw [e1] at I6
  have g1:=I5.out.ps.c1
  have g2:=I5.out.ps.fz
  clear hs e1
  go_wp2_with fail
  refine (K4.out _ I6.out.ps).mono ?_
  rintro r0 w7 ⟨G7,mm7,cc7,rfl,ht,ha,hp⟩
  have I7:=Lib.hid (I6.out.adv ha hp)
  have R7:=Lib.hid (RowOf.mono ht I6.out.lt)
  obtain ⟨q0,q1,q2,q3,q4⟩:=I7.out.facts
  clear ht ha hp K4
  go_wp2_with fail
  have hf:=I7.out.fin (node_at 11 S 0 R7.out)
  exact bodyPost_ret (v:=.agg #[.int .u8 11,.string S,.int .i64 0,.slice G7 mm7 cc7]) (by simp [results,Tryz.results236,go_sem,q0,q1,q2,q3]) rfl (HQ.out _ _ hf.1 hf.2)
end Go.Proofs.YthbdlnflmfchjaaGreatDoor
