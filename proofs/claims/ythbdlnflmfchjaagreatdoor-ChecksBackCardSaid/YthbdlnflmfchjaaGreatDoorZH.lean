/- The parser of formulas: unit walked: a comparison. -/
import Derived.Test.YthbdlnflmfchjaaGreatDoorZF
set_option linter.unusedVariables false
set_option linter.unusedSimpArgs false
namespace Go.Proofs.YthbdlnflmfchjaaGreatDoor
open Go.RowKit Go.Proofs.Fm Go.Proofs.MapEnt
set_option maxHeartbeats 3200000
set_option maxRecDepth 1000000
theorem take_ops {W:World} {pb c e n:Nat} {G:Option Addr} {l:List Wd} (hp:PsAt W pb G c l e n) (hl:WsOk l) (b:Nat) (hb:b=W.heap.size):
  (anyW l n operL=true→Calls Tryz.prog 235 #[.pointer (some ⟨pb,0,none⟩),.slice (some ⟨b,0,none⟩) 8 8] (W.alloc (.cells (operL.map Value.string).toArray 9)) fun E w'=>E=.returned (.tuple #[.string (nextS l n),.bool true])∧Adv W pb w'∧PsAt w' pb G c l e (n+1))∧
  (anyW l n operL=false→Calls Tryz.prog 235 #[.pointer (some ⟨pb,0,none⟩),.slice (some ⟨b,0,none⟩) 8 8] (W.alloc (.cells (operL.map Value.string).toArray 9)) fun E w'=>E=.returned (.tuple #[.string ⟨#[]⟩,.bool false])∧Adv W pb w'∧PsAt w' pb G c l e n):=
 ⟨fun h=>take_y (W:=W) hp hl operL (by decide) h b hb,fun h=>take_n (W:=W) hp hl operL (by decide) h b hb⟩
theorem fail_n {W:World} {pb c e n:Nat} {G:Option Addr} {l:List Wd} (hp:PsAt W pb G c l e n):Calls Tryz.prog 92 #[.pointer (some ⟨pb,0,none⟩)] W fun E w'=>E=.panicked [{ v:=.iface 173 (.agg #[.int .i64 (placeOf l e n:Nat)]),recovered:=false }]∧Adv W pb w':=(fail_says W pb c e n G l hp).mono fun _ _ h=>⟨h.1,(Adv.refl W pb).since h.2⟩
theorem unit_cmp_e (pb c e F:Nat) (G:Option Addr) (l:List Wd) (hl:WsOk l) (HU:PartC pb c e G l F 236 .unit) (HF:PartC pb c e G l F 91 (.several true)) (HT:PartC pb c e G l F 277 .term) (HR:ArgsP pb c e G l F) (w:World) (n:Nat) (r:Re) (h:PsAt w pb G c l e n) (c1:isW l n sNot=false) (c2:anyW l n [sAll,sAny]=false) (c3:isW l n sOpen=false) (c4:nextS l n=ByteArray.empty)
  (hr:andThen (parse lang l e F .term n) (fun ts n1=>match operAt lang l n1 with
    | some x=>andThen (parse lang l e F .term (n1+1)) fun us n2=>some (.ok [.mk 10 x 0 (ts ++ us)] n2)
    | none=>some (Re.bad (placeOf l e n1)))=some r):
  Calls Tryz.prog 236 #[.pointer (some ⟨pb,0,none⟩)] w (Says TermOf w pb G c l e r):=by
 have I0:=Lib.hid (Inv.start h)
 have hpb:=h.lt
 have K1:=Lib.hid (take_n (Inv.start h).ps hl [⟨#[110,111,116]⟩] (by decide) (by rw [anyW_one];exact c1) (w.heap.size+1) (by simp))
 unfold z39 at I0 K1
 have K2:=Lib.hid (fun W (hp:PsAt W pb G c l e n)=>take_n (W:=W) hp hl [⟨#[97,108,108]⟩,⟨#[97,110,121]⟩] (by decide) c2 W.heap.size rfl)
 have K3:=Lib.hid (fun W (hp:PsAt W pb G c l e n)=>take_n (W:=W) hp hl [⟨#[40]⟩] (by decide) (by rw [anyW_one];exact c3) W.heap.size rfl)
 have KP:=Lib.hid (fun W (hp:PsAt W pb G c l e n)=>peek_y (W:=W) hp)
 rw [c4] at KP
 rcases andThen_split hr with ⟨p,ha,rfl⟩ | ⟨ts,m,ha,hk⟩
 ·
  have K5:=Lib.hid (fun W hp=>part_n (W:=W) HT (Nat.le_refl _) hp ha)
  have HQ:Hid (∀ w',Adv w pb w'→Says TermOf w pb G c l e (.bad p) (strayE (p)) w'):=Lib.hid (fun w' h=>⟨rfl,h⟩)
  generalize Says TermOf w pb G c l e (.bad p)=Q at *
  clear h hl HU HF HT HR c1 c2 c3 c4 hr ha
  go_enter Tryz.func236,Tryz.ntmps236
  go_wp2_with fail
  refine (K1.out).mono ?_
  rintro r0 w1 ⟨rfl,ha,hp⟩
  have I1:=Lib.hid (I0.out.adv ha hp)
  clear ha hp
  go_wp2_with fail
  refine (K2.out _ I1.out.ps).mono ?_
  rintro r0 w2 ⟨rfl,ha,hp⟩
  have I2:=Lib.hid (I1.out.adv ha hp)
  clear ha hp
  go_wp2_with fail
  refine (K3.out _ I2.out.ps).mono ?_
  rintro r0 w3 ⟨rfl,ha,hp⟩
  have I3:=Lib.hid (I2.out.adv ha hp)
  clear ha hp
  go_wp2_with fail
  refine (KP.out _ I3.out.ps).mono ?_
  rintro r0 w4 ⟨⟨p4,a4,b4,c4,d4,f4,rfl⟩,hs⟩
  have I4:=Lib.hid (I3.out.since hs)
  have hfd:=fun W=>field_s p4 ByteArray.empty a4 b4 c4 d4 f4 W
  clear hs
  go_wp2_with fail
  have I5:=I4
  refine (K5.out _ I5.out.ps).mono ?_
  rintro r0 w6 ⟨rfl,ha⟩
  have A6:=Lib.hid ha
  clear ha
  go_wp2_with fail
  exact ⟨rfl,HQ.out _ (I5.out.ad.trans A6.out)⟩
 ·
  have K5:=Lib.hid (fun W hp=>part_y (W:=W) HT (Nat.le_refl _) hp ha)
  have ho:=operAt_eq hl m
  by_cases c5:anyW l m operL=true
  ·
   rw [if_pos c5] at ho
   rw [ho] at hk
   dsimp only at hk
   have K6:=Lib.hid (fun W b hb (hp:PsAt W pb G c l e m)=>(take_ops (W:=W) hp hl b hb).1 c5)
   rcases andThen_split hk with ⟨q,hb,rfl⟩ | ⟨us,m2,hb,hk2⟩
   ·
    clear hk
    have K7:=Lib.hid (fun W hp=>part_n (W:=W) HT (Nat.le_refl _) hp hb)
    have HQ:Hid (∀ w',Adv w pb w'→Says TermOf w pb G c l e (.bad q) (strayE (q)) w'):=Lib.hid (fun w' h=>⟨rfl,h⟩)
    generalize Says TermOf w pb G c l e (.bad q)=Q at *
    clear h hl HU HF HT HR c1 c2 c3 c4 hr ha c5 ho hb
    go_enter Tryz.func236,Tryz.ntmps236
    go_wp2_with fail
    refine (K1.out).mono ?_
    rintro r0 w1 ⟨rfl,ha,hp⟩
    have I1:=Lib.hid (I0.out.adv ha hp)
    clear ha hp
    go_wp2_with fail
    refine (K2.out _ I1.out.ps).mono ?_
    rintro r0 w2 ⟨rfl,ha,hp⟩
    have I2:=Lib.hid (I1.out.adv ha hp)
    clear ha hp
    go_wp2_with fail
    refine (K3.out _ I2.out.ps).mono ?_
    rintro r0 w3 ⟨rfl,ha,hp⟩
    have I3:=Lib.hid (I2.out.adv ha hp)
    clear ha hp
    go_wp2_with fail
    refine (KP.out _ I3.out.ps).mono ?_
    rintro r0 w4 ⟨⟨p4,a4,b4,c4,d4,f4,rfl⟩,hs⟩
    have I4:=Lib.hid (I3.out.since hs)
    have hfd:=fun W=>field_s p4 ByteArray.empty a4 b4 c4 d4 f4 W
    clear hs
    go_wp2_with fail
    have I5:=I4
    refine (K5.out _ I5.out.ps).mono ?_
    rintro r0 w6 ⟨k6,x6,nn6,G6,mm6,cc6,t6,rfl,rfl,ht,ha,hp⟩
    have J6:=Lib.hid (I5.out.adv ha hp)
    have I6:=Lib.hid (J6.out.alloc (.cells #[.int .u8 (k6:Nat),.string x6,.int .i64 (nn6:Nat),.slice G6 mm6 cc6] 39))
    have T6:=Lib.hid ht
    have L6:=Lib.hid I5.out.lt
    clear ht ha hp
    go_wp2_with fail
    refine (operators_says _).mono ?_
    rintro r0 w6b ⟨rfl,rfl⟩
    go_wp2_with fail
    refine (K6.out _ (w6.heap.size+1) (by simp) I6.out.ps).mono ?_
    rintro r0 w7 ⟨rfl,ha,hp⟩
    have I7:=Lib.hid (I6.out.adv ha hp)
    have hpb6:w6.heap.size ≠ pb:=by have:=J6.out.lt;have:=J6.out.pbl;omega
    have T7:=Lib.hid (TmAt.up (ha.kept (A:=Only pb) rfl _) _ _ (TmAt.up (Kept.alloc w6 (.cells #[.int .u8 (k6:Nat),.string x6,.int .i64 (nn6:Nat),.slice G6 mm6 cc6] 39) _ _) _ _ T6.out))
    have b8:=(ha.block w6.heap.size (by simp) hpb6).trans (heap_alloc_new w6 (.cells #[.int .u8 (k6:Nat),.string x6,.int .i64 (nn6:Nat),.slice G6 mm6 cc6] 39))
    have BT7:=Lib.hid b8
    obtain ⟨p0,p1,p2,p3,-⟩:=cells4 b8
    clear ha hp hpb6 b8
    go_wp2_with fail
    have T7d:=Lib.hid (TmAt.up (Kept.since ((World.Since.refl w7.heap.size w7).drew) (Only pb) _) _ _ T7.out)
    have d0:w7.drew.cell? ⟨w6.heap.size,0,none⟩=_:=p0
    have d1:w7.drew.cell? ⟨w6.heap.size,1,none⟩=_:=p1
    have d2:w7.drew.cell? ⟨w6.heap.size,2,none⟩=_:=p2
    have d3:w7.drew.cell? ⟨w6.heap.size,3,none⟩=_:=p3
    go_region_dies
    all_goals
     refine (K7.out _ I7.out.drew.ps).mono ?_
     rintro r0 w8 ⟨rfl,ha⟩
     exact ⟨rfl,HQ.out _ (I7.out.drew.ad.trans ha)⟩
   ·
    clear hk
    injection hk2 with hk2
    subst hk2
    have K7:=Lib.hid (fun W hp=>part_y (W:=W) HT (Nat.le_refl _) hp hb)
    have HQ:Hid (∀ w' v,TermOf w' (Only pb) w.heap.size [.mk 10 (nextS l m) 0 (ts ++ us)] v→Stay w pb G c l e m2 w'→Says TermOf w pb G c l e (.ok [.mk 10 (nextS l m) 0 (ts ++ us)] m2) (.returned v) w'):=Lib.hid (fun w' v h1 h2=>⟨v,rfl,h1,h2⟩)
    generalize Says TermOf w pb G c l e (.ok [.mk 10 (nextS l m) 0 (ts ++ us)] m2)=Q at *
    generalize nextS l m=OP at *
    clear h hl HU HF HT HR c1 c2 c3 c4 hr ha c5 ho hb
    go_enter Tryz.func236,Tryz.ntmps236
    go_wp2_with fail
    refine (K1.out).mono ?_
    rintro r0 w1 ⟨rfl,ha,hp⟩
    have I1:=Lib.hid (I0.out.adv ha hp)
    clear ha hp
    go_wp2_with fail
    refine (K2.out _ I1.out.ps).mono ?_
    rintro r0 w2 ⟨rfl,ha,hp⟩
    have I2:=Lib.hid (I1.out.adv ha hp)
    clear ha hp
    go_wp2_with fail
    refine (K3.out _ I2.out.ps).mono ?_
    rintro r0 w3 ⟨rfl,ha,hp⟩
    have I3:=Lib.hid (I2.out.adv ha hp)
    clear ha hp
    go_wp2_with fail
    refine (KP.out _ I3.out.ps).mono ?_
    rintro r0 w4 ⟨⟨p4,a4,b4,c4,d4,f4,rfl⟩,hs⟩
    have I4:=Lib.hid (I3.out.since hs)
    have hfd:=fun W=>field_s p4 ByteArray.empty a4 b4 c4 d4 f4 W
    clear hs
    go_wp2_with fail
    have I5:=I4
    refine (K5.out _ I5.out.ps).mono ?_
    rintro r0 w6 ⟨k6,x6,nn6,G6,mm6,cc6,t6,rfl,rfl,ht,ha,hp⟩
    have J6:=Lib.hid (I5.out.adv ha hp)
    have I6:=Lib.hid (J6.out.alloc (.cells #[.int .u8 (k6:Nat),.string x6,.int .i64 (nn6:Nat),.slice G6 mm6 cc6] 39))
    have T6:=Lib.hid ht
    have L6:=Lib.hid I5.out.lt
    clear ht ha hp
    go_wp2_with fail
    refine (operators_says _).mono ?_
    rintro r0 w6b ⟨rfl,rfl⟩
    go_wp2_with fail
    refine (K6.out _ (w6.heap.size+1) (by simp) I6.out.ps).mono ?_
    rintro r0 w7 ⟨rfl,ha,hp⟩
    have I7:=Lib.hid (I6.out.adv ha hp)
    have hpb6:w6.heap.size ≠ pb:=by have:=J6.out.lt;have:=J6.out.pbl;omega
    have T7:=Lib.hid (TmAt.up (ha.kept (A:=Only pb) rfl _) _ _ (TmAt.up (Kept.alloc w6 (.cells #[.int .u8 (k6:Nat),.string x6,.int .i64 (nn6:Nat),.slice G6 mm6 cc6] 39) _ _) _ _ T6.out))
    have b8:=(ha.block w6.heap.size (by simp) hpb6).trans (heap_alloc_new w6 (.cells #[.int .u8 (k6:Nat),.string x6,.int .i64 (nn6:Nat),.slice G6 mm6 cc6] 39))
    have BT7:=Lib.hid b8
    obtain ⟨p0,p1,p2,p3,-⟩:=cells4 b8
    clear ha hp hpb6 b8
    go_wp2_with fail
    have T7d:=Lib.hid (TmAt.up (Kept.since ((World.Since.refl w7.heap.size w7).drew) (Only pb) _) _ _ T7.out)
    have d0:w7.drew.cell? ⟨w6.heap.size,0,none⟩=_:=p0
    have d1:w7.drew.cell? ⟨w6.heap.size,1,none⟩=_:=p1
    have d2:w7.drew.cell? ⟨w6.heap.size,2,none⟩=_:=p2
    have d3:w7.drew.cell? ⟨w6.heap.size,3,none⟩=_:=p3
    go_region_with (first
     | (
      go_at_call 277;refine (K7.out _ I7.out.drew.ps).mono ?_;rintro r0 w8 ⟨k8,x8,nn8,G8,mm8,cc8,t8,rfl,hts,ht,ha,hp⟩;
      have HTS:=Lib.hid hts;
      have I8:=Lib.hid (I7.out.drew.adv ha hp);
      have U8:=Lib.hid ht;have T8:=Lib.hid (TmAt.up (ha.kept (A:=Only pb) rfl _) _ _ T7d.out);
      have L8:=Lib.hid ha.size;
      obtain ⟨y0,y1,y2,y3,-⟩:=cells4 ((ha.block w6.heap.size (blk_lt BT7.out) (by have:=J6.out.lt;have:=J6.out.pbl;omega)).trans BT7.out);
      have I9:=Lib.hid (I8.out.alloc (.cells #[.int .u8 (k6:Nat),.string x6,.int .i64 (nn6:Nat),.slice G6 mm6 cc6,.int .u8 (k8:Nat),.string x8,.int .i64 (nn8:Nat),.slice G8 mm8 cc8] 39));
      obtain ⟨q0,q1,q2,q3,q4⟩:=I9.out.facts;
      clear hts ht ha hp))
    all_goals
     have HTS2:=HTS.out
     subst HTS2
     have hlo8:w.heap.size+1≤w7.drew.heap.size:=I7.out.lt
     have hne8:¬ Only pb w8.heap.size:=fun h=>by have h:w8.heap.size=pb:=h;have:=I8.out.lt;have:=I8.out.pbl;omega
     have hr:=row2_at (A:=Only pb) (lo:=w.heap.size+1) (TmAt.mono L6.out _ _ T8.out) (TmAt.mono hlo8 _ _ U8.out) hne8 (Nat.le_trans hlo8 L8.out)
     have HRW:=Lib.hid hr
     clear hr hlo8 hne8
     go_wp2_with fail
     have hf:=I9.out.fin (node_at 10 OP 0 HRW.out)
     exact bodyPost_ret (v:=.agg #[.int .u8 10,.string OP,.int .i64 0,.slice (some ⟨w8.heap.size,0,none⟩) 2 2]) (by simp [results,Tryz.results236,go_sem,q0,q1,q2,q3]) rfl (HQ.out _ _ hf.1 hf.2)
  ·
   rw [if_neg c5] at ho
   rw [ho] at hk
   dsimp only at hk
   injection hk with hk
   subst hk
   have K6:=Lib.hid (fun W b hb (hp:PsAt W pb G c l e m)=>(take_ops (W:=W) hp hl b hb).2 (Bool.eq_false_iff.2 c5))
   have K7:=Lib.hid (fun W (hp:PsAt W pb G c l e m)=>fail_n (W:=W) hp)
   have HQ:Hid (∀ w',Adv w pb w'→Says TermOf w pb G c l e (.bad (placeOf l e m)) (strayE ((placeOf l e m))) w'):=Lib.hid (fun w' h=>⟨rfl,h⟩)
   generalize Says TermOf w pb G c l e (.bad (placeOf l e m))=Q at *
   clear h hl HU HF HT HR c1 c2 c3 c4 hr ha c5 ho
   go_enter Tryz.func236,Tryz.ntmps236
   go_wp2_with fail
   refine (K1.out).mono ?_
   rintro r0 w1 ⟨rfl,ha,hp⟩
   have I1:=Lib.hid (I0.out.adv ha hp)
   clear ha hp
   go_wp2_with fail
   refine (K2.out _ I1.out.ps).mono ?_
   rintro r0 w2 ⟨rfl,ha,hp⟩
   have I2:=Lib.hid (I1.out.adv ha hp)
   clear ha hp
   go_wp2_with fail
   refine (K3.out _ I2.out.ps).mono ?_
   rintro r0 w3 ⟨rfl,ha,hp⟩
   have I3:=Lib.hid (I2.out.adv ha hp)
   clear ha hp
   go_wp2_with fail
   refine (KP.out _ I3.out.ps).mono ?_
   rintro r0 w4 ⟨⟨p4,a4,b4,c4,d4,f4,rfl⟩,hs⟩
   have I4:=Lib.hid (I3.out.since hs)
   have hfd:=fun W=>field_s p4 ByteArray.empty a4 b4 c4 d4 f4 W
   clear hs
   go_wp2_with fail
   have I5:=I4
   refine (K5.out _ I5.out.ps).mono ?_
   rintro r0 w6 ⟨k6,x6,nn6,G6,mm6,cc6,t6,rfl,rfl,ht,ha,hp⟩
   have J6:=Lib.hid (I5.out.adv ha hp)
   have I6:=Lib.hid (J6.out.alloc (.cells #[.int .u8 (k6:Nat),.string x6,.int .i64 (nn6:Nat),.slice G6 mm6 cc6] 39))
   have T6:=Lib.hid ht
   have L6:=Lib.hid I5.out.lt
   clear ht ha hp
   go_wp2_with fail
   refine (operators_says _).mono ?_
   rintro r0 w6b ⟨rfl,rfl⟩
   go_wp2_with fail
   refine (K6.out _ (w6.heap.size+1) (by simp) I6.out.ps).mono ?_
   rintro r0 w7 ⟨rfl,ha,hp⟩
   have I7:=Lib.hid (I6.out.adv ha hp)
   clear ha hp
   go_wp2_with fail
   refine (K7.out _ I7.out.ps).mono ?_
   rintro r0 w8 ⟨rfl,ha⟩
   have A8:=Lib.hid ha
   clear ha
   go_wp2_with fail
   exact ⟨rfl,HQ.out _ (I7.out.ad.trans A8.out)⟩
theorem unit_cmp_t (pb c e F:Nat) (G:Option Addr) (l:List Wd) (hl:WsOk l) (HU:PartC pb c e G l F 236 .unit) (HF:PartC pb c e G l F 91 (.several true)) (HT:PartC pb c e G l F 277 .term) (HR:ArgsP pb c e G l F) (w:World) (n:Nat) (r:Re) (h:PsAt w pb G c l e n) (c1:isW l n sNot=false) (c2:anyW l n [sAll,sAny]=false) (c3:isW l n sOpen=false) (c4:¬ nextS l n=ByteArray.empty) (htt:lang.test (nextS l n)=false)
  (hr:andThen (parse lang l e F .term n) (fun ts n1=>match operAt lang l n1 with
    | some x=>andThen (parse lang l e F .term (n1+1)) fun us n2=>some (.ok [.mk 10 x 0 (ts ++ us)] n2)
    | none=>some (Re.bad (placeOf l e n1)))=some r):
  Calls Tryz.prog 236 #[.pointer (some ⟨pb,0,none⟩)] w (Says TermOf w pb G c l e r):=by
 have I0:=Lib.hid (Inv.start h)
 have hpb:=h.lt
 have K1:=Lib.hid (take_n (Inv.start h).ps hl [⟨#[110,111,116]⟩] (by decide) (by rw [anyW_one];exact c1) (w.heap.size+1) (by simp))
 unfold z39 at I0 K1
 have K2:=Lib.hid (fun W (hp:PsAt W pb G c l e n)=>take_n (W:=W) hp hl [⟨#[97,108,108]⟩,⟨#[97,110,121]⟩] (by decide) c2 W.heap.size rfl)
 have K3:=Lib.hid (fun W (hp:PsAt W pb G c l e n)=>take_n (W:=W) hp hl [⟨#[40]⟩] (by decide) (by rw [anyW_one];exact c3) W.heap.size rfl)
 have KP:=Lib.hid (fun W (hp:PsAt W pb G c l e n)=>peek_y (W:=W) hp)
 have KT:=Lib.hid (fun W=>test_says W (nextS l n) (nextS_size hl n))
 have hE:=isEmpty_no c4
 rw [htt] at KT
 generalize nextS l n=S at *
 rcases andThen_split hr with ⟨p,ha,rfl⟩ | ⟨ts,m,ha,hk⟩
 ·
  have K5:=Lib.hid (fun W hp=>part_n (W:=W) HT (Nat.le_refl _) hp ha)
  have HQ:Hid (∀ w',Adv w pb w'→Says TermOf w pb G c l e (.bad p) (strayE (p)) w'):=Lib.hid (fun w' h=>⟨rfl,h⟩)
  generalize Says TermOf w pb G c l e (.bad p)=Q at *
  clear h hl HU HF HT HR c1 c2 c3 c4 htt hr ha
  go_enter Tryz.func236,Tryz.ntmps236
  go_wp2_with fail
  refine (K1.out).mono ?_
  rintro r0 w1 ⟨rfl,ha,hp⟩
  have I1:=Lib.hid (I0.out.adv ha hp)
  clear ha hp
  go_wp2_with fail
  refine (K2.out _ I1.out.ps).mono ?_
  rintro r0 w2 ⟨rfl,ha,hp⟩
  have I2:=Lib.hid (I1.out.adv ha hp)
  clear ha hp
  go_wp2_with fail
  refine (K3.out _ I2.out.ps).mono ?_
  rintro r0 w3 ⟨rfl,ha,hp⟩
  have I3:=Lib.hid (I2.out.adv ha hp)
  clear ha hp
  go_wp2_with fail
  refine (KP.out _ I3.out.ps).mono ?_
  rintro r0 w4 ⟨⟨p4,a4,b4,c4,d4,f4,rfl⟩,hs⟩
  have I4:=Lib.hid (I3.out.since hs)
  have hfd:=fun W=>field_s p4 S a4 b4 c4 d4 f4 W
  clear hs
  go_wp2_with fail
  refine (KT.out _).mono ?_
  rintro r0 w5 ⟨rfl,hs⟩
  have I5:=Lib.hid (I4.out.since hs)
  clear hs
  go_wp2_with fail
  refine (K5.out _ I5.out.ps).mono ?_
  rintro r0 w6 ⟨rfl,ha⟩
  have A6:=Lib.hid ha
  clear ha
  go_wp2_with fail
  exact ⟨rfl,HQ.out _ (I5.out.ad.trans A6.out)⟩
 ·
  have K5:=Lib.hid (fun W hp=>part_y (W:=W) HT (Nat.le_refl _) hp ha)
  have ho:=operAt_eq hl m
  by_cases c5:anyW l m operL=true
  ·
   rw [if_pos c5] at ho
   rw [ho] at hk
   dsimp only at hk
   have K6:=Lib.hid (fun W b hb (hp:PsAt W pb G c l e m)=>(take_ops (W:=W) hp hl b hb).1 c5)
   rcases andThen_split hk with ⟨q,hb,rfl⟩ | ⟨us,m2,hb,hk2⟩
   ·
    clear hk
    have K7:=Lib.hid (fun W hp=>part_n (W:=W) HT (Nat.le_refl _) hp hb)
    have HQ:Hid (∀ w',Adv w pb w'→Says TermOf w pb G c l e (.bad q) (strayE (q)) w'):=Lib.hid (fun w' h=>⟨rfl,h⟩)
    generalize Says TermOf w pb G c l e (.bad q)=Q at *
    clear h hl HU HF HT HR c1 c2 c3 c4 htt hr ha c5 ho hb
    go_enter Tryz.func236,Tryz.ntmps236
    go_wp2_with fail
    refine (K1.out).mono ?_
    rintro r0 w1 ⟨rfl,ha,hp⟩
    have I1:=Lib.hid (I0.out.adv ha hp)
    clear ha hp
    go_wp2_with fail
    refine (K2.out _ I1.out.ps).mono ?_
    rintro r0 w2 ⟨rfl,ha,hp⟩
    have I2:=Lib.hid (I1.out.adv ha hp)
    clear ha hp
    go_wp2_with fail
    refine (K3.out _ I2.out.ps).mono ?_
    rintro r0 w3 ⟨rfl,ha,hp⟩
    have I3:=Lib.hid (I2.out.adv ha hp)
    clear ha hp
    go_wp2_with fail
    refine (KP.out _ I3.out.ps).mono ?_
    rintro r0 w4 ⟨⟨p4,a4,b4,c4,d4,f4,rfl⟩,hs⟩
    have I4:=Lib.hid (I3.out.since hs)
    have hfd:=fun W=>field_s p4 S a4 b4 c4 d4 f4 W
    clear hs
    go_wp2_with fail
    refine (KT.out _).mono ?_
    rintro r0 w5 ⟨rfl,hs⟩
    have I5:=Lib.hid (I4.out.since hs)
    clear hs
    go_wp2_with fail
    refine (K5.out _ I5.out.ps).mono ?_
    rintro r0 w6 ⟨k6,x6,nn6,G6,mm6,cc6,t6,rfl,rfl,ht,ha,hp⟩
    have J6:=Lib.hid (I5.out.adv ha hp)
    have I6:=Lib.hid (J6.out.alloc (.cells #[.int .u8 (k6:Nat),.string x6,.int .i64 (nn6:Nat),.slice G6 mm6 cc6] 39))
    have T6:=Lib.hid ht
    have L6:=Lib.hid I5.out.lt
    clear ht ha hp
    go_wp2_with fail
    refine (operators_says _).mono ?_
    rintro r0 w6b ⟨rfl,rfl⟩
    go_wp2_with fail
    refine (K6.out _ (w6.heap.size+1) (by simp) I6.out.ps).mono ?_
    rintro r0 w7 ⟨rfl,ha,hp⟩
    have I7:=Lib.hid (I6.out.adv ha hp)
    have hpb6:w6.heap.size ≠ pb:=by have:=J6.out.lt;have:=J6.out.pbl;omega
    have T7:=Lib.hid (TmAt.up (ha.kept (A:=Only pb) rfl _) _ _ (TmAt.up (Kept.alloc w6 (.cells #[.int .u8 (k6:Nat),.string x6,.int .i64 (nn6:Nat),.slice G6 mm6 cc6] 39) _ _) _ _ T6.out))
    have b8:=(ha.block w6.heap.size (by simp) hpb6).trans (heap_alloc_new w6 (.cells #[.int .u8 (k6:Nat),.string x6,.int .i64 (nn6:Nat),.slice G6 mm6 cc6] 39))
    have BT7:=Lib.hid b8
    obtain ⟨p0,p1,p2,p3,-⟩:=cells4 b8
    clear ha hp hpb6 b8
    go_wp2_with fail
    have T7d:=Lib.hid (TmAt.up (Kept.since ((World.Since.refl w7.heap.size w7).drew) (Only pb) _) _ _ T7.out)
    have d0:w7.drew.cell? ⟨w6.heap.size,0,none⟩=_:=p0
    have d1:w7.drew.cell? ⟨w6.heap.size,1,none⟩=_:=p1
    have d2:w7.drew.cell? ⟨w6.heap.size,2,none⟩=_:=p2
    have d3:w7.drew.cell? ⟨w6.heap.size,3,none⟩=_:=p3
    go_region_dies
    all_goals
     refine (K7.out _ I7.out.drew.ps).mono ?_
     rintro r0 w8 ⟨rfl,ha⟩
     exact ⟨rfl,HQ.out _ (I7.out.drew.ad.trans ha)⟩
   ·
    clear hk
    injection hk2 with hk2
    subst hk2
    have K7:=Lib.hid (fun W hp=>part_y (W:=W) HT (Nat.le_refl _) hp hb)
    have HQ:Hid (∀ w' v,TermOf w' (Only pb) w.heap.size [.mk 10 (nextS l m) 0 (ts ++ us)] v→Stay w pb G c l e m2 w'→Says TermOf w pb G c l e (.ok [.mk 10 (nextS l m) 0 (ts ++ us)] m2) (.returned v) w'):=Lib.hid (fun w' v h1 h2=>⟨v,rfl,h1,h2⟩)
    generalize Says TermOf w pb G c l e (.ok [.mk 10 (nextS l m) 0 (ts ++ us)] m2)=Q at *
    generalize nextS l m=OP at *
    clear h hl HU HF HT HR c1 c2 c3 c4 htt hr ha c5 ho hb
    go_enter Tryz.func236,Tryz.ntmps236
    go_wp2_with fail
    refine (K1.out).mono ?_
    rintro r0 w1 ⟨rfl,ha,hp⟩
    have I1:=Lib.hid (I0.out.adv ha hp)
    clear ha hp
    go_wp2_with fail
    refine (K2.out _ I1.out.ps).mono ?_
    rintro r0 w2 ⟨rfl,ha,hp⟩
    have I2:=Lib.hid (I1.out.adv ha hp)
    clear ha hp
    go_wp2_with fail
    refine (K3.out _ I2.out.ps).mono ?_
    rintro r0 w3 ⟨rfl,ha,hp⟩
    have I3:=Lib.hid (I2.out.adv ha hp)
    clear ha hp
    go_wp2_with fail
    refine (KP.out _ I3.out.ps).mono ?_
    rintro r0 w4 ⟨⟨p4,a4,b4,c4,d4,f4,rfl⟩,hs⟩
    have I4:=Lib.hid (I3.out.since hs)
    have hfd:=fun W=>field_s p4 S a4 b4 c4 d4 f4 W
    clear hs
    go_wp2_with fail
    refine (KT.out _).mono ?_
    rintro r0 w5 ⟨rfl,hs⟩
    have I5:=Lib.hid (I4.out.since hs)
    clear hs
    go_wp2_with fail
    refine (K5.out _ I5.out.ps).mono ?_
    rintro r0 w6 ⟨k6,x6,nn6,G6,mm6,cc6,t6,rfl,rfl,ht,ha,hp⟩
    have J6:=Lib.hid (I5.out.adv ha hp)
    have I6:=Lib.hid (J6.out.alloc (.cells #[.int .u8 (k6:Nat),.string x6,.int .i64 (nn6:Nat),.slice G6 mm6 cc6] 39))
    have T6:=Lib.hid ht
    have L6:=Lib.hid I5.out.lt
    clear ht ha hp
    go_wp2_with fail
    refine (operators_says _).mono ?_
    rintro r0 w6b ⟨rfl,rfl⟩
    go_wp2_with fail
    refine (K6.out _ (w6.heap.size+1) (by simp) I6.out.ps).mono ?_
    rintro r0 w7 ⟨rfl,ha,hp⟩
    have I7:=Lib.hid (I6.out.adv ha hp)
    have hpb6:w6.heap.size ≠ pb:=by have:=J6.out.lt;have:=J6.out.pbl;omega
    have T7:=Lib.hid (TmAt.up (ha.kept (A:=Only pb) rfl _) _ _ (TmAt.up (Kept.alloc w6 (.cells #[.int .u8 (k6:Nat),.string x6,.int .i64 (nn6:Nat),.slice G6 mm6 cc6] 39) _ _) _ _ T6.out))
    have b8:=(ha.block w6.heap.size (by simp) hpb6).trans (heap_alloc_new w6 (.cells #[.int .u8 (k6:Nat),.string x6,.int .i64 (nn6:Nat),.slice G6 mm6 cc6] 39))
    have BT7:=Lib.hid b8
    obtain ⟨p0,p1,p2,p3,-⟩:=cells4 b8
    clear ha hp hpb6 b8
    go_wp2_with fail
    have T7d:=Lib.hid (TmAt.up (Kept.since ((World.Since.refl w7.heap.size w7).drew) (Only pb) _) _ _ T7.out)
    have d0:w7.drew.cell? ⟨w6.heap.size,0,none⟩=_:=p0
    have d1:w7.drew.cell? ⟨w6.heap.size,1,none⟩=_:=p1
    have d2:w7.drew.cell? ⟨w6.heap.size,2,none⟩=_:=p2
    have d3:w7.drew.cell? ⟨w6.heap.size,3,none⟩=_:=p3
    go_region_with (first
     | (
      go_at_call 277;refine (K7.out _ I7.out.drew.ps).mono ?_;rintro r0 w8 ⟨k8,x8,nn8,G8,mm8,cc8,t8,rfl,hts,ht,ha,hp⟩;
      have HTS:=Lib.hid hts;
      have I8:=Lib.hid (I7.out.drew.adv ha hp);
      have U8:=Lib.hid ht;have T8:=Lib.hid (TmAt.up (ha.kept (A:=Only pb) rfl _) _ _ T7d.out);
      have L8:=Lib.hid ha.size;
      obtain ⟨y0,y1,y2,y3,-⟩:=cells4 ((ha.block w6.heap.size (blk_lt BT7.out) (by have:=J6.out.lt;have:=J6.out.pbl;omega)).trans BT7.out);
      have I9:=Lib.hid (I8.out.alloc (.cells #[.int .u8 (k6:Nat),.string x6,.int .i64 (nn6:Nat),.slice G6 mm6 cc6,.int .u8 (k8:Nat),.string x8,.int .i64 (nn8:Nat),.slice G8 mm8 cc8] 39));
      obtain ⟨q0,q1,q2,q3,q4⟩:=I9.out.facts;
      clear hts ht ha hp))
    all_goals
     have HTS2:=HTS.out
     subst HTS2
     have hlo8:w.heap.size+1≤w7.drew.heap.size:=I7.out.lt
     have hne8:¬ Only pb w8.heap.size:=fun h=>by have h:w8.heap.size=pb:=h;have:=I8.out.lt;have:=I8.out.pbl;omega
     have hr:=row2_at (A:=Only pb) (lo:=w.heap.size+1) (TmAt.mono L6.out _ _ T8.out) (TmAt.mono hlo8 _ _ U8.out) hne8 (Nat.le_trans hlo8 L8.out)
     have HRW:=Lib.hid hr
     clear hr hlo8 hne8
     go_wp2_with fail
     have hf:=I9.out.fin (node_at 10 OP 0 HRW.out)
     exact bodyPost_ret (v:=.agg #[.int .u8 10,.string OP,.int .i64 0,.slice (some ⟨w8.heap.size,0,none⟩) 2 2]) (by simp [results,Tryz.results236,go_sem,q0,q1,q2,q3]) rfl (HQ.out _ _ hf.1 hf.2)
  ·
   rw [if_neg c5] at ho
   rw [ho] at hk
   dsimp only at hk
   injection hk with hk
   subst hk
   have K6:=Lib.hid (fun W b hb (hp:PsAt W pb G c l e m)=>(take_ops (W:=W) hp hl b hb).2 (Bool.eq_false_iff.2 c5))
   have K7:=Lib.hid (fun W (hp:PsAt W pb G c l e m)=>fail_n (W:=W) hp)
   have HQ:Hid (∀ w',Adv w pb w'→Says TermOf w pb G c l e (.bad (placeOf l e m)) (strayE ((placeOf l e m))) w'):=Lib.hid (fun w' h=>⟨rfl,h⟩)
   generalize Says TermOf w pb G c l e (.bad (placeOf l e m))=Q at *
   clear h hl HU HF HT HR c1 c2 c3 c4 htt hr ha c5 ho
   go_enter Tryz.func236,Tryz.ntmps236
   go_wp2_with fail
   refine (K1.out).mono ?_
   rintro r0 w1 ⟨rfl,ha,hp⟩
   have I1:=Lib.hid (I0.out.adv ha hp)
   clear ha hp
   go_wp2_with fail
   refine (K2.out _ I1.out.ps).mono ?_
   rintro r0 w2 ⟨rfl,ha,hp⟩
   have I2:=Lib.hid (I1.out.adv ha hp)
   clear ha hp
   go_wp2_with fail
   refine (K3.out _ I2.out.ps).mono ?_
   rintro r0 w3 ⟨rfl,ha,hp⟩
   have I3:=Lib.hid (I2.out.adv ha hp)
   clear ha hp
   go_wp2_with fail
   refine (KP.out _ I3.out.ps).mono ?_
   rintro r0 w4 ⟨⟨p4,a4,b4,c4,d4,f4,rfl⟩,hs⟩
   have I4:=Lib.hid (I3.out.since hs)
   have hfd:=fun W=>field_s p4 S a4 b4 c4 d4 f4 W
   clear hs
   go_wp2_with fail
   refine (KT.out _).mono ?_
   rintro r0 w5 ⟨rfl,hs⟩
   have I5:=Lib.hid (I4.out.since hs)
   clear hs
   go_wp2_with fail
   refine (K5.out _ I5.out.ps).mono ?_
   rintro r0 w6 ⟨k6,x6,nn6,G6,mm6,cc6,t6,rfl,rfl,ht,ha,hp⟩
   have J6:=Lib.hid (I5.out.adv ha hp)
   have I6:=Lib.hid (J6.out.alloc (.cells #[.int .u8 (k6:Nat),.string x6,.int .i64 (nn6:Nat),.slice G6 mm6 cc6] 39))
   have T6:=Lib.hid ht
   have L6:=Lib.hid I5.out.lt
   clear ht ha hp
   go_wp2_with fail
   refine (operators_says _).mono ?_
   rintro r0 w6b ⟨rfl,rfl⟩
   go_wp2_with fail
   refine (K6.out _ (w6.heap.size+1) (by simp) I6.out.ps).mono ?_
   rintro r0 w7 ⟨rfl,ha,hp⟩
   have I7:=Lib.hid (I6.out.adv ha hp)
   clear ha hp
   go_wp2_with fail
   refine (K7.out _ I7.out.ps).mono ?_
   rintro r0 w8 ⟨rfl,ha⟩
   have A8:=Lib.hid ha
   clear ha
   go_wp2_with fail
   exact ⟨rfl,HQ.out _ (I7.out.ad.trans A8.out)⟩
end Go.Proofs.YthbdlnflmfchjaaGreatDoor
