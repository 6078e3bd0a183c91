/- The parser of formulas: unit walked: all. -/
import Derived.Test.YthbdlnflmfchjaaGreatDoorZF
set_option linter.unusedVariables false
set_option linter.unusedSimpArgs false
namespace Go.Proofs.YthbdlnflmfchjaaGreatDoor
open Go.RowKit Go.Proofs.Fm Go.Proofs.MapEnt
set_option maxHeartbeats 3200000
set_option maxRecDepth 1000000
theorem unit_all (pb c e F:Nat) (G:Option Addr) (l:List Wd) (hl:WsOk l) (HU:PartC pb c e G l F 236 .unit) (HF:PartC pb c e G l F 91 (.several true)) (HT:PartC pb c e G l F 277 .term) (HR:ArgsP pb c e G l F) (w:World) (n:Nat) (r:Re) (h:PsAt w pb G c l e n) (c1:isW l n sNot=false) (c2:isW l n sAll=true)
  (hr:(match nameAt lang l (n+1) with
   | none=>some (Re.bad (placeOf l e (n+1)))
   | some x=>if isW l (n+2) sIn then andThen (parse lang l e F .term (n+3)) fun ts n1=>
     if isW l n1 sColon then andThen (parse lang l e F .unit (n1+1)) fun us n2=>some (.ok [.mk 15 x 0 (ts ++ us)] n2)
     else some (.bad (placeOf l e n1))
    else some (.bad (placeOf l e (n+2))))=some r):
  Calls Tryz.prog 236 #[.pointer (some ⟨pb,0,none⟩)] w (Says TermOf w pb G c l e r):=by
 have I0:=Lib.hid (Inv.start h)
 have hpb:=h.lt
 have K1:=Lib.hid (take_n (Inv.start h).ps hl [⟨#[110,111,116]⟩] (by decide) (by rw [anyW_one];exact c1) (w.heap.size+1) (by simp))
 unfold z39 at I0 K1
 have K2:=Lib.hid (fun W (hp:PsAt W pb G c l e n)=>take_y (W:=W) hp hl [⟨#[97,108,108]⟩,⟨#[97,110,121]⟩] (by decide) (by unfold anyW;rw [List.any_eq_true];exact ⟨_,by exact List.mem_cons_self ..,c2⟩) W.heap.size rfl)
 rw [isW_next c2] at K2
 unfold sAll at K2
 cases hx:nameAt lang l (n+1) with
 | none=>
  have K3:=Lib.hid (fun W (hp:PsAt W pb G c l e (n+1))=>name_n (W:=W) hp hl hx)
  rw [hx] at hr
  injection hr with hr
  subst hr
  have HQ:Hid (∀ w',Adv w pb w'→Says TermOf w pb G c l e (.bad (placeOf l e (n+1))) (strayE ((placeOf l e (n+1)))) w'):=Lib.hid (fun w' h=>⟨rfl,h⟩)
  generalize Says TermOf w pb G c l e (.bad (placeOf l e (n+1)))=Q at *
  clear h hl HU HF HT HR c1 c2 hx
  go_enter Tryz.func236,Tryz.ntmps236
  go_wp2_with fail
  refine (K1.out).mono ?_
  rintro r0 w1 ⟨rfl,ha,hp⟩
  have I1:=Lib.hid (I0.out.adv ha hp)
  clear ha hp
  go_wp2_with fail
  refine (K2.out _ I1.out.ps).mono ?_
  rintro r0 w2 ⟨rfl,ha,hp⟩
  have I2:=Lib.hid (I1.out.adv ha hp)
  clear ha hp
  go_wp2_with fail
  refine (K3.out _ I2.out.ps).mono ?_
  rintro r0 w3 ⟨rfl,ha⟩
  have A3:=Lib.hid ha
  clear ha
  go_wp2_with fail
  exact ⟨rfl,HQ.out _ (I2.out.ad.trans A3.out)⟩
 | some x=>
  rw [hx] at hr
  dsimp only at hr
  have K3:=Lib.hid (fun W (hp:PsAt W pb G c l e (n+1))=>name_y (W:=W) hp hl hx)
  by_cases c3:isW l (n+2) sIn=true
  ·
   rw [if_pos c3] at hr
   have K4:=Lib.hid (fun W (hp:PsAt W pb G c l e (n+1+1))=>must_y (W:=W) hp hl ⟨#[105,110]⟩ c3)
   rcases andThen_split hr with ⟨p,ha,rfl⟩ | ⟨ts,m,ha,hk⟩
   ·
    clear hr
    have K5:=Lib.hid (fun W hp=>part_n (W:=W) HT (Nat.le_refl _) hp ha)
    have HQ:Hid (∀ w',Adv w pb w'→Says TermOf w pb G c l e (.bad p) (strayE (p)) w'):=Lib.hid (fun w' h=>⟨rfl,h⟩)
    generalize Says TermOf w pb G c l e (.bad p)=Q at *
    clear h hl HU HF HT HR c1 c2 hx c3 ha
    go_enter Tryz.func236,Tryz.ntmps236
    go_wp2_with fail
    refine (K1.out).mono ?_
    rintro r0 w1 ⟨rfl,ha,hp⟩
    have I1:=Lib.hid (I0.out.adv ha hp)
    clear ha hp
    go_wp2_with fail
    refine (K2.out _ I1.out.ps).mono ?_
    rintro r0 w2 ⟨rfl,ha,hp⟩
    have I2:=Lib.hid (I1.out.adv ha hp)
    clear ha hp
    go_wp2_with fail
    refine (K3.out _ I2.out.ps).mono ?_
    rintro r0 w3 ⟨rfl,ha,hp⟩
    have J3:=Lib.hid (I2.out.adv ha hp)
    clear ha hp
    have hb7:=J3.out.lt
    have I4:=Lib.hid (J3.out.alloc (.cells #[.int .u8 15,.string x,.int .i64 0,.slice none 0 0] 39))
    have B4:=Lib.hid (heap_alloc_new w3 (.cells #[.int .u8 15,.string x,.int .i64 0,.slice none 0 0] 39))
    have HB7:=Lib.hid hb7
    clear hb7
    go_wp2_with fail
    refine (K4.out _ I4.out.ps).mono ?_
    rintro r0 w5 ⟨rfl,ha,hp⟩
    have I5:=Lib.hid (I4.out.adv ha hp)
    have B5:=Lib.hid ((ha.block w3.heap.size (blk_lt B4.out) (by have:=J3.out.lt;have:=J3.out.pbl;omega)).trans B4.out)
    clear ha hp
    go_wp2_with fail
    refine (K5.out _ I5.out.ps).mono ?_
    rintro r0 w6 ⟨rfl,ha⟩
    have A6:=Lib.hid ha
    clear ha
    go_wp2_with fail
    exact ⟨rfl,HQ.out _ (I5.out.ad.trans A6.out)⟩
   ·
    clear hr
    have K5:=Lib.hid (fun W hp=>part_y (W:=W) HT (Nat.le_refl _) hp ha)
    by_cases c5:isW l m sColon=true
    ·
     rw [if_pos c5] at hk
     have K6:=Lib.hid (fun W (hp:PsAt W pb G c l e m)=>must_y (W:=W) hp hl ⟨#[58]⟩ c5)
     rcases andThen_split hk with ⟨q,hb,rfl⟩ | ⟨us,m2,hb,hk2⟩
     ·
      clear hk
      have K7:=Lib.hid (fun W hp=>part_n (W:=W) HU (Nat.le_refl _) hp hb)
      have HQ:Hid (∀ w',Adv w pb w'→Says TermOf w pb G c l e (.bad q) (strayE (q)) w'):=Lib.hid (fun w' h=>⟨rfl,h⟩)
      generalize Says TermOf w pb G c l e (.bad q)=Q at *
      clear h hl HU HF HT HR c1 c2 hx c3 ha c5 hb
      go_enter Tryz.func236,Tryz.ntmps236
      go_wp2_with fail
      refine (K1.out).mono ?_
      rintro r0 w1 ⟨rfl,ha,hp⟩
      have I1:=Lib.hid (I0.out.adv ha hp)
      clear ha hp
      go_wp2_with fail
      refine (K2.out _ I1.out.ps).mono ?_
      rintro r0 w2 ⟨rfl,ha,hp⟩
      have I2:=Lib.hid (I1.out.adv ha hp)
      clear ha hp
      go_wp2_with fail
      refine (K3.out _ I2.out.ps).mono ?_
      rintro r0 w3 ⟨rfl,ha,hp⟩
      have J3:=Lib.hid (I2.out.adv ha hp)
      clear ha hp
      have hb7:=J3.out.lt
      have I4:=Lib.hid (J3.out.alloc (.cells #[.int .u8 15,.string x,.int .i64 0,.slice none 0 0] 39))
      have B4:=Lib.hid (heap_alloc_new w3 (.cells #[.int .u8 15,.string x,.int .i64 0,.slice none 0 0] 39))
      have HB7:=Lib.hid hb7
      clear hb7
      go_wp2_with fail
      refine (K4.out _ I4.out.ps).mono ?_
      rintro r0 w5 ⟨rfl,ha,hp⟩
      have I5:=Lib.hid (I4.out.adv ha hp)
      have B5:=Lib.hid ((ha.block w3.heap.size (blk_lt B4.out) (by have:=J3.out.lt;have:=J3.out.pbl;omega)).trans B4.out)
      clear ha hp
      go_wp2_with fail
      refine (K5.out _ I5.out.ps).mono ?_
      rintro r0 w6 ⟨k6,x6,nn6,G6,mm6,cc6,t6,rfl,rfl,ht,ha,hp⟩
      have J6:=Lib.hid (I5.out.adv ha hp)
      have I6:=Lib.hid (J6.out.alloc (.cells #[.int .u8 (k6:Nat),.string x6,.int .i64 (nn6:Nat),.slice G6 mm6 cc6] 39))
      have T6:=Lib.hid ht
      have B6:=Lib.hid ((Go.Deep.blk_alloc_lt w6 (.cells #[.int .u8 (k6:Nat),.string x6,.int .i64 (nn6:Nat),.slice G6 mm6 cc6] 39) w3.heap.size (Nat.lt_of_lt_of_le (blk_lt B5.out) ha.size)).trans ((ha.block w3.heap.size (blk_lt B5.out) (by have:=J3.out.lt;have:=J3.out.pbl;omega)).trans B5.out))
      have L5:=Lib.hid (Nat.le_trans (Nat.succ_le_of_lt (blk_lt B5.out)) (Nat.le_refl _))
      have L6:=Lib.hid ha.size
      clear ht ha hp
      go_wp2_with fail
      refine (K6.out _ I6.out.ps).mono ?_
      rintro r0 w7 ⟨rfl,ha,hp⟩
      have I7:=Lib.hid (I6.out.adv ha hp)
      have hpb6:w6.heap.size ≠ pb∧w3.heap.size ≠ pb:=by have:=J6.out.lt;have:=J3.out.lt;have:=J6.out.pbl;omega
      have T7:=Lib.hid (TmAt.up (ha.kept (A:=Only pb) rfl _) _ _ (TmAt.up (Kept.alloc w6 (.cells #[.int .u8 (k6:Nat),.string x6,.int .i64 (nn6:Nat),.slice G6 mm6 cc6] 39) _ _) _ _ T6.out))
      have b8:=(ha.block w6.heap.size (by simp) hpb6.1).trans (heap_alloc_new w6 (.cells #[.int .u8 (k6:Nat),.string x6,.int .i64 (nn6:Nat),.slice G6 mm6 cc6] 39))
      have B7:=Lib.hid ((ha.block w3.heap.size (blk_lt B6.out) hpb6.2).trans B6.out)
      have L7:=Lib.hid (Nat.lt_of_lt_of_le (blk_lt B6.out) ha.size)
      have BT7:=Lib.hid b8
      obtain ⟨p0,p1,p2,p3,-⟩:=cells4 b8
      clear ha hp hpb6 b8
      go_wp2_with fail
      have T7d:=Lib.hid (TmAt.up (Kept.since ((World.Since.refl w7.heap.size w7).drew) (Only pb) _) _ _ T7.out)
      have d0:w7.drew.cell? ⟨w6.heap.size,0,none⟩=_:=p0
      have d1:w7.drew.cell? ⟨w6.heap.size,1,none⟩=_:=p1
      have d2:w7.drew.cell? ⟨w6.heap.size,2,none⟩=_:=p2
      have d3:w7.drew.cell? ⟨w6.heap.size,3,none⟩=_:=p3
      go_region_dies
      all_goals
       refine (K7.out _ I7.out.drew.ps).mono ?_
       rintro r0 w8 ⟨rfl,ha⟩
       exact ⟨rfl,HQ.out _ (I7.out.drew.ad.trans ha)⟩
     ·
      clear hk
      injection hk2 with hk2
      subst hk2
      have K7:=Lib.hid (fun W hp=>part_y (W:=W) HU (Nat.le_refl _) hp hb)
      have HQ:Hid (∀ w' v,TermOf w' (Only pb) w.heap.size [.mk 15 x 0 (ts ++ us)] v→Stay w pb G c l e m2 w'→Says TermOf w pb G c l e (.ok [.mk 15 x 0 (ts ++ us)] m2) (.returned v) w'):=Lib.hid (fun w' v h1 h2=>⟨v,rfl,h1,h2⟩)
      generalize Says TermOf w pb G c l e (.ok [.mk 15 x 0 (ts ++ us)] m2)=Q at *
      clear h hl HU HF HT HR c1 c2 hx c3 ha c5 hb
      go_enter Tryz.func236,Tryz.ntmps236
      go_wp2_with fail
      refine (K1.out).mono ?_
      rintro r0 w1 ⟨rfl,ha,hp⟩
      have I1:=Lib.hid (I0.out.adv ha hp)
      clear ha hp
      go_wp2_with fail
      refine (K2.out _ I1.out.ps).mono ?_
      rintro r0 w2 ⟨rfl,ha,hp⟩
      have I2:=Lib.hid (I1.out.adv ha hp)
      clear ha hp
      go_wp2_with fail
      refine (K3.out _ I2.out.ps).mono ?_
      rintro r0 w3 ⟨rfl,ha,hp⟩
      have J3:=Lib.hid (I2.out.adv ha hp)
      clear ha hp
      have hb7:=J3.out.lt
      have I4:=Lib.hid (J3.out.alloc (.cells #[.int .u8 15,.string x,.int .i64 0,.slice none 0 0] 39))
      have B4:=Lib.hid (heap_alloc_new w3 (.cells #[.int .u8 15,.string x,.int .i64 0,.slice none 0 0] 39))
      have HB7:=Lib.hid hb7
      clear hb7
      go_wp2_with fail
      refine (K4.out _ I4.out.ps).mono ?_
      rintro r0 w5 ⟨rfl,ha,hp⟩
      have I5:=Lib.hid (I4.out.adv ha hp)
      have B5:=Lib.hid ((ha.block w3.heap.size (blk_lt B4.out) (by have:=J3.out.lt;have:=J3.out.pbl;omega)).trans B4.out)
      clear ha hp
      go_wp2_with fail
      refine (K5.out _ I5.out.ps).mono ?_
      rintro r0 w6 ⟨k6,x6,nn6,G6,mm6,cc6,t6,rfl,rfl,ht,ha,hp⟩
      have J6:=Lib.hid (I5.out.adv ha hp)
      have I6:=Lib.hid (J6.out.alloc (.cells #[.int .u8 (k6:Nat),.string x6,.int .i64 (nn6:Nat),.slice G6 mm6 cc6] 39))
      have T6:=Lib.hid ht
      have B6:=Lib.hid ((Go.Deep.blk_alloc_lt w6 (.cells #[.int .u8 (k6:Nat),.string x6,.int .i64 (nn6:Nat),.slice G6 mm6 cc6] 39) w3.heap.size (Nat.lt_of_lt_of_le (blk_lt B5.out) ha.size)).trans ((ha.block w3.heap.size (blk_lt B5.out) (by have:=J3.out.lt;have:=J3.out.pbl;omega)).trans B5.out))
      have L5:=Lib.hid (Nat.le_trans (Nat.succ_le_of_lt (blk_lt B5.out)) (Nat.le_refl _))
      have L6:=Lib.hid ha.size
      clear ht ha hp
      go_wp2_with fail
      refine (K6.out _ I6.out.ps).mono ?_
      rintro r0 w7 ⟨rfl,ha,hp⟩
      have I7:=Lib.hid (I6.out.adv ha hp)
      have hpb6:w6.heap.size ≠ pb∧w3.heap.size ≠ pb:=by have:=J6.out.lt;have:=J3.out.lt;have:=J6.out.pbl;omega
      have T7:=Lib.hid (TmAt.up (ha.kept (A:=Only pb) rfl _) _ _ (TmAt.up (Kept.alloc w6 (.cells #[.int .u8 (k6:Nat),.string x6,.int .i64 (nn6:Nat),.slice G6 mm6 cc6] 39) _ _) _ _ T6.out))
      have b8:=(ha.block w6.heap.size (by simp) hpb6.1).trans (heap_alloc_new w6 (.cells #[.int .u8 (k6:Nat),.string x6,.int .i64 (nn6:Nat),.slice G6 mm6 cc6] 39))
      have B7:=Lib.hid ((ha.block w3.heap.size (blk_lt B6.out) hpb6.2).trans B6.out)
      have L7:=Lib.hid (Nat.lt_of_lt_of_le (blk_lt B6.out) ha.size)
      have BT7:=Lib.hid b8
      obtain ⟨p0,p1,p2,p3,-⟩:=cells4 b8
      clear ha hp hpb6 b8
      go_wp2_with fail
      have T7d:=Lib.hid (TmAt.up (Kept.since ((World.Since.refl w7.heap.size w7).drew) (Only pb) _) _ _ T7.out)
      have d0:w7.drew.cell? ⟨w6.heap.size,0,none⟩=_:=p0
      have d1:w7.drew.cell? ⟨w6.heap.size,1,none⟩=_:=p1
      have d2:w7.drew.cell? ⟨w6.heap.size,2,none⟩=_:=p2
      have d3:w7.drew.cell? ⟨w6.heap.size,3,none⟩=_:=p3
      go_region_with (first
       | (
        go_at_call 236;refine (K7.out _ I7.out.drew.ps).mono ?_;rintro r0 w8 ⟨k8,x8,nn8,G8,mm8,cc8,t8,rfl,hts,ht,ha,hp⟩;
        have HTS:=Lib.hid hts;
        have I8:=Lib.hid (I7.out.drew.adv ha hp);
        have U8:=Lib.hid ht;have T8:=Lib.hid (TmAt.up (ha.kept (A:=Only pb) rfl _) _ _ T7d.out);
        have hb8:w8.heap[w3.heap.size]?=_:=(ha.block w3.heap.size L7.out (by have:=J3.out.lt;have:=J3.out.pbl;omega)).trans B7.out;
        have hbl:=blk_lt hb8;
        obtain ⟨y0,y1,y2,y3,-⟩:=cells4 ((ha.block w6.heap.size (blk_lt BT7.out) (by have:=J6.out.lt;have:=J6.out.pbl;omega)).trans BT7.out);
        have HB8:=Lib.hid hb8;have L8:=Lib.hid ha.size;
        obtain ⟨s0,s1,s2,s3,s4⟩:=cells4 hb8;
        have e0:∀ o,(w8.alloc o).cell? ⟨w3.heap.size,0,none⟩=_:=fun o=>(World.cell?_alloc_lt w8 o _ hbl).trans s0;
        have e1:∀ o,(w8.alloc o).cell? ⟨w3.heap.size,1,none⟩=_:=fun o=>(World.cell?_alloc_lt w8 o _ hbl).trans s1;
        have e2:∀ o,(w8.alloc o).cell? ⟨w3.heap.size,2,none⟩=_:=fun o=>(World.cell?_alloc_lt w8 o _ hbl).trans s2;
        have e3:∀ o,(w8.alloc o).cell? ⟨w3.heap.size,3,none⟩=_:=fun o=>(World.cell?_alloc_lt w8 o _ hbl).trans s3;
        have e4:∀ o j,(w8.alloc o).frozen? ⟨w3.heap.size,j,none⟩=false:=fun o j=>(World.frozen?_of_block (Go.Deep.blk_alloc_lt w8 o w3.heap.size hbl)).trans (s4 j);
        clear hts ht ha hp hb8 hbl))
      all_goals
       have HTS2:=HTS.out
       subst HTS2
       have I9:=Lib.hid (I8.out.alloc (.cells #[.int .u8 (k6:Nat),.string x6,.int .i64 (nn6:Nat),.slice G6 mm6 cc6,.int .u8 (k8:Nat),.string x8,.int .i64 (nn8:Nat),.slice G8 mm8 cc8] 39))
       have I10:=Lib.hid (I9.out.set HB7.out 3 (.slice (some ⟨w8.heap.size,0,none⟩) 2 2))
       obtain ⟨q0,q1,q2,q3,q4⟩:=I10.out.facts
       obtain ⟨-,-,-,-,q5⟩:=I9.out.facts
       have hlo6:w3.heap.size+1≤w5.heap.size:=blk_lt B5.out
       have hlo8:w3.heap.size+1≤w7.drew.heap.size:=L7.out
       have hne8:¬ Only pb w8.heap.size:=fun h=>by have h:w8.heap.size=pb:=h;have:=I8.out.lt;have:=I8.out.pbl;omega
       have hr:=RowOf.mono (RowOf.up (row2_at (A:=Only pb) (lo:=w3.heap.size+1) (TmAt.mono hlo6 _ _ T8.out) (TmAt.mono hlo8 _ _ U8.out) hne8 (Nat.le_trans hlo8 L8.out)) (Kept.set (B:=w3.heap.size) (Nat.lt_succ_self _) 3 (.slice (some ⟨w8.heap.size,0,none⟩) 2 2))) (lo':=w.heap.size+1) (Nat.le_succ_of_le HB7.out)
       have HRW:=Lib.hid hr
       clear hr hlo6 hlo8 hne8
       go_wp2_with fail
       have hf:=I10.out.fin (node_at 15 x 0 HRW.out)
       exact bodyPost_ret (v:=.agg #[.int .u8 15,.string x,.int .i64 0,.slice (some ⟨w8.heap.size,0,none⟩) 2 2]) (by simp [results,Tryz.results236,go_sem,q0,q1,q2,q3]) rfl (HQ.out _ _ hf.1 hf.2)
    ·
     rw [if_neg c5] at hk
     injection hk with hk
     subst hk
     have K6:=Lib.hid (fun W (hp:PsAt W pb G c l e m)=>must_n (W:=W) hp hl ⟨#[58]⟩ (Bool.eq_false_iff.2 c5))
     have HQ:Hid (∀ w',Adv w pb w'→Says TermOf w pb G c l e (.bad (placeOf l e m)) (strayE ((placeOf l e m))) w'):=Lib.hid (fun w' h=>⟨rfl,h⟩)
     generalize Says TermOf w pb G c l e (.bad (placeOf l e m))=Q at *
     clear h hl HU HF HT HR c1 c2 hx c3 ha c5
     go_enter Tryz.func236,Tryz.ntmps236
     go_wp2_with fail
     refine (K1.out).mono ?_
     rintro r0 w1 ⟨rfl,ha,hp⟩
     have I1:=Lib.hid (I0.out.adv ha hp)
     clear ha hp
     go_wp2_with fail
     refine (K2.out _ I1.out.ps).mono ?_
     rintro r0 w2 ⟨rfl,ha,hp⟩
     have I2:=Lib.hid (I1.out.adv ha hp)
     clear ha hp
     go_wp2_with fail
     refine (K3.out _ I2.out.ps).mono ?_
     rintro r0 w3 ⟨rfl,ha,hp⟩
     have J3:=Lib.hid (I2.out.adv ha hp)
     clear ha hp
     have hb7:=J3.out.lt
     have I4:=Lib.hid (J3.out.alloc (.cells #[.int .u8 15,.string x,.int .i64 0,.slice none 0 0] 39))
     have B4:=Lib.hid (heap_alloc_new w3 (.cells #[.int .u8 15,.string x,.int .i64 0,.slice none 0 0] 39))
     have HB7:=Lib.hid hb7
     clear hb7
     go_wp2_with fail
     refine (K4.out _ I4.out.ps).mono ?_
     rintro r0 w5 ⟨rfl,ha,hp⟩
     have I5:=Lib.hid (I4.out.adv ha hp)
     have B5:=Lib.hid ((ha.block w3.heap.size (blk_lt B4.out) (by have:=J3.out.lt;have:=J3.out.pbl;omega)).trans B4.out)
     clear ha hp
     go_wp2_with fail
     refine (K5.out _ I5.out.ps).mono ?_
     rintro r0 w6 ⟨k6,x6,nn6,G6,mm6,cc6,t6,rfl,rfl,ht,ha,hp⟩
     have J6:=Lib.hid (I5.out.adv ha hp)
     have I6:=Lib.hid (J6.out.alloc (.cells #[.int .u8 (k6:Nat),.string x6,.int .i64 (nn6:Nat),.slice G6 mm6 cc6] 39))
     have T6:=Lib.hid ht
     have B6:=Lib.hid ((Go.Deep.blk_alloc_lt w6 (.cells #[.int .u8 (k6:Nat),.string x6,.int .i64 (nn6:Nat),.slice G6 mm6 cc6] 39) w3.heap.size (Nat.lt_of_lt_of_le (blk_lt B5.out) ha.size)).trans ((ha.block w3.heap.size (blk_lt B5.out) (by have:=J3.out.lt;have:=J3.out.pbl;omega)).trans B5.out))
     have L5:=Lib.hid (Nat.le_trans (Nat.succ_le_of_lt (blk_lt B5.out)) (Nat.le_refl _))
     have L6:=Lib.hid ha.size
     clear ht ha hp
     go_wp2_with fail
     refine (K6.out _ I6.out.ps).mono ?_
     rintro r0 w7 ⟨rfl,ha⟩
     have A7:=Lib.hid ha
     clear ha
     go_wp2_with fail
     exact ⟨rfl,HQ.out _ (I6.out.ad.trans A7.out)⟩
  ·
   rw [if_neg c3] at hr
   injection hr with hr
   subst hr
   have K4:=Lib.hid (fun W (hp:PsAt W pb G c l e (n+1+1))=>must_n (W:=W) hp hl ⟨#[105,110]⟩ (Bool.eq_false_iff.2 c3))
   have HQ:Hid (∀ w',Adv w pb w'→Says TermOf w pb G c l e (.bad (placeOf l e (n+2))) (strayE ((placeOf l e (n+2)))) w'):=Lib.hid (fun w' h=>⟨rfl,h⟩)
   generalize Says TermOf w pb G c l e (.bad (placeOf l e (n+2)))=Q at *
   clear h hl HU HF HT HR c1 c2 hx c3
   go_enter Tryz.func236,Tryz.ntmps236
   go_wp2_with fail
   refine (K1.out).mono ?_
   rintro r0 w1 ⟨rfl,ha,hp⟩
   have I1:=Lib.hid (I0.out.adv ha hp)
   clear ha hp
   go_wp2_with fail
   refine (K2.out _ I1.out.ps).mono ?_
   rintro r0 w2 ⟨rfl,ha,hp⟩
   have I2:=Lib.hid (I1.out.adv ha hp)
   clear ha hp
   go_wp2_with fail
   refine (K3.out _ I2.out.ps).mono ?_
   rintro r0 w3 ⟨rfl,ha,hp⟩
   have J3:=Lib.hid (I2.out.adv ha hp)
   clear ha hp
   have hb7:=J3.out.lt
   have I4:=Lib.hid (J3.out.alloc (.cells #[.int .u8 15,.string x,.int .i64 0,.slice none 0 0] 39))
   have B4:=Lib.hid (heap_alloc_new w3 (.cells #[.int .u8 15,.string x,.int .i64 0,.slice none 0 0] 39))
   have HB7:=Lib.hid hb7
   clear hb7
   go_wp2_with fail
   refine (K4.out _ I4.out.ps).mono ?_
   rintro r0 w5 ⟨rfl,ha⟩
   have A5:=Lib.hid ha
   clear ha
   go_wp2_with fail
   exact ⟨rfl,HQ.out _ (I4.out.ad.trans A5.out)⟩
end Go.Proofs.YthbdlnflmfchjaaGreatDoor
namespace Go.Proofs.YthbdlnflmfchjaaGreatDoor
open Go.RowKit Go.Proofs.Fm Go.Proofs.MapEnt
set_option maxHeartbeats 3200000
set_option maxRecDepth 1000000
theorem unit_any (pb c e F:Nat) (G:Option Addr) (l:List Wd) (hl:WsOk l) (HU:PartC pb c e G l F 236 .unit) (HF:PartC pb c e G l F 91 (.several true)) (HT:PartC pb c e G l F 277 .term) (HR:ArgsP pb c e G l F) (w:World) (n:Nat) (r:Re) (h:PsAt w pb G c l e n) (c1:isW l n sNot=false) (c2:isW l n sAny=true)
  (hr:(match nameAt lang l (n+1) with
   | none=>some (Re.bad (placeOf l e (n+1)))
   | some x=>if isW l (n+2) sIn then andThen (parse lang l e F .term (n+3)) fun ts n1=>
     if isW l n1 sColon then andThen (parse lang l e F .unit (n1+1)) fun us n2=>some (.ok [.mk 16 x 0 (ts ++ us)] n2)
     else some (.bad (placeOf l e n1))
    else some (.bad (placeOf l e (n+2))))=some r):
  Calls Tryz.prog 236 #[.pointer (some ⟨pb,0,none⟩)] w (Says TermOf w pb G c l e r):=by
 have I0:=Lib.hid (Inv.start h)
 have hpb:=h.lt
 have K1:=Lib.hid (take_n (Inv.start h).ps hl [⟨#[110,111,116]⟩] (by decide) (by rw [anyW_one];exact c1) (w.heap.size+1) (by simp))
 unfold z39 at I0 K1
 have K2:=Lib.hid (fun W (hp:PsAt W pb G c l e n)=>take_y (W:=W) hp hl [⟨#[97,108,108]⟩,⟨#[97,110,121]⟩] (by decide) (by unfold anyW;rw [List.any_eq_true];exact ⟨_,by exact List.mem_cons_of_mem _ (List.mem_cons_self ..),c2⟩) W.heap.size rfl)
 rw [isW_next c2] at K2
 unfold sAny at K2
 cases hx:nameAt lang l (n+1) with
 | none=>
  have K3:=Lib.hid (fun W (hp:PsAt W pb G c l e (n+1))=>name_n (W:=W) hp hl hx)
  rw [hx] at hr
  injection hr with hr
  subst hr
  have HQ:Hid (∀ w',Adv w pb w'→Says TermOf w pb G c l e (.bad (placeOf l e (n+1))) (strayE ((placeOf l e (n+1)))) w'):=Lib.hid (fun w' h=>⟨rfl,h⟩)
  generalize Says TermOf w pb G c l e (.bad (placeOf l e (n+1)))=Q at *
  clear h hl HU HF HT HR c1 c2 hx
  go_enter Tryz.func236,Tryz.ntmps236
  go_wp2_with fail
  refine (K1.out).mono ?_
  rintro r0 w1 ⟨rfl,ha,hp⟩
  have I1:=Lib.hid (I0.out.adv ha hp)
  clear ha hp
  go_wp2_with fail
  refine (K2.out _ I1.out.ps).mono ?_
  rintro r0 w2 ⟨rfl,ha,hp⟩
  have I2:=Lib.hid (I1.out.adv ha hp)
  clear ha hp
  go_wp2_with fail
  refine (K3.out _ I2.out.ps).mono ?_
  rintro r0 w3 ⟨rfl,ha⟩
  have A3:=Lib.hid ha
  clear ha
  go_wp2_with fail
  exact ⟨rfl,HQ.out _ (I2.out.ad.trans A3.out)⟩
 | some x=>
  rw [hx] at hr
  dsimp only at hr
  have K3:=Lib.hid (fun W (hp:PsAt W pb G c l e (n+1))=>name_y (W:=W) hp hl hx)
  by_cases c3:isW l (n+2) sIn=true
  ·
   rw [if_pos c3] at hr
   have K4:=Lib.hid (fun W (hp:PsAt W pb G c l e (n+1+1))=>must_y (W:=W) hp hl ⟨#[105,110]⟩ c3)
   rcases andThen_split hr with ⟨p,ha,rfl⟩ | ⟨ts,m,ha,hk⟩
   ·
    clear hr
    have K5:=Lib.hid (fun W hp=>part_n (W:=W) HT (Nat.le_refl _) hp ha)
    have HQ:Hid (∀ w',Adv w pb w'→Says TermOf w pb G c l e (.bad p) (strayE (p)) w'):=Lib.hid (fun w' h=>⟨rfl,h⟩)
    generalize Says TermOf w pb G c l e (.bad p)=Q at *
    clear h hl HU HF HT HR c1 c2 hx c3 ha
    go_enter Tryz.func236,Tryz.ntmps236
    go_wp2_with fail
    refine (K1.out).mono ?_
    rintro r0 w1 ⟨rfl,ha,hp⟩
    have I1:=Lib.hid (I0.out.adv ha hp)
    clear ha hp
    go_wp2_with fail
    refine (K2.out _ I1.out.ps).mono ?_
    rintro r0 w2 ⟨rfl,ha,hp⟩
    have I2:=Lib.hid (I1.out.adv ha hp)
    clear ha hp
    go_wp2_with fail
    refine (K3.out _ I2.out.ps).mono ?_
    rintro r0 w3 ⟨rfl,ha,hp⟩
    have J3:=Lib.hid (I2.out.adv ha hp)
    clear ha hp
    have hb7:=J3.out.lt
    have I4:=Lib.hid (J3.out.alloc (.cells #[.int .u8 16,.string x,.int .i64 0,.slice none 0 0] 39))
    have B4:=Lib.hid (heap_alloc_new w3 (.cells #[.int .u8 16,.string x,.int .i64 0,.slice none 0 0] 39))
    have HB7:=Lib.hid hb7
    clear hb7
    go_wp2_with fail
    refine (K4.out _ I4.out.ps).mono ?_
    rintro r0 w5 ⟨rfl,ha,hp⟩
    have I5:=Lib.hid (I4.out.adv ha hp)
    have B5:=Lib.hid ((ha.block w3.heap.size (blk_lt B4.out) (by have:=J3.out.lt;have:=J3.out.pbl;omega)).trans B4.out)
    clear ha hp
    go_wp2_with fail
    refine (K5.out _ I5.out.ps).mono ?_
    rintro r0 w6 ⟨rfl,ha⟩
    have A6:=Lib.hid ha
    clear ha
    go_wp2_with fail
    exact ⟨rfl,HQ.out _ (I5.out.ad.trans A6.out)⟩
   ·
    clear hr
    have K5:=Lib.hid (fun W hp=>part_y (W:=W) HT (Nat.le_refl _) hp ha)
    by_cases c5:isW l m sColon=true
    ·
     rw [if_pos c5] at hk
     have K6:=Lib.hid (fun W (hp:PsAt W pb G c l e m)=>must_y (W:=W) hp hl ⟨#[58]⟩ c5)
     rcases andThen_split hk with ⟨q,hb,rfl⟩ | ⟨us,m2,hb,hk2⟩
     ·
      clear hk
      have K7:=Lib.hid (fun W hp=>part_n (W:=W) HU (Nat.le_refl _) hp hb)
      have HQ:Hid (∀ w',Adv w pb w'→Says TermOf w pb G c l e (.bad q) (strayE (q)) w'):=Lib.hid (fun w' h=>⟨rfl,h⟩)
      generalize Says TermOf w pb G c l e (.bad q)=Q at *
      clear h hl HU HF HT HR c1 c2 hx c3 ha c5 hb
      go_enter Tryz.func236,Tryz.ntmps236
      go_wp2_with fail
      refine (K1.out).mono ?_
      rintro r0 w1 ⟨rfl,ha,hp⟩
      have I1:=Lib.hid (I0.out.adv ha hp)
      clear ha hp
      go_wp2_with fail
      refine (K2.out _ I1.out.ps).mono ?_
      rintro r0 w2 ⟨rfl,ha,hp⟩
      have I2:=Lib.hid (I1.out.adv ha hp)
      clear ha hp
      go_wp2_with fail
      refine (K3.out _ I2.out.ps).mono ?_
      rintro r0 w3 ⟨rfl,ha,hp⟩
      have J3:=Lib.hid (I2.out.adv ha hp)
      clear ha hp
      have hb7:=J3.out.lt
      have I4:=Lib.hid (J3.out.alloc (.cells #[.int .u8 16,.string x,.int .i64 0,.slice none 0 0] 39))
      have B4:=Lib.hid (heap_alloc_new w3 (.cells #[.int .u8 16,.string x,.int .i64 0,.slice none 0 0] 39))
      have HB7:=Lib.hid hb7
      clear hb7
      go_wp2_with fail
      refine (K4.out _ I4.out.ps).mono ?_
      rintro r0 w5 ⟨rfl,ha,hp⟩
      have I5:=Lib.hid (I4.out.adv ha hp)
      have B5:=Lib.hid ((ha.block w3.heap.size (blk_lt B4.out) (by have:=J3.out.lt;have:=J3.out.pbl;omega)).trans B4.out)
      clear ha hp
      go_wp2_with fail
      refine (K5.out _ I5.out.ps).mono ?_
      rintro r0 w6 ⟨k6,x6,nn6,G6,mm6,cc6,t6,rfl,rfl,ht,ha,hp⟩
      have J6:=Lib.hid (I5.out.adv ha hp)
      have I6:=Lib.hid (J6.out.alloc (.cells #[.int .u8 (k6:Nat),.string x6,.int .i64 (nn6:Nat),.slice G6 mm6 cc6] 39))
      have T6:=Lib.hid ht
      have B6:=Lib.hid ((Go.Deep.blk_alloc_lt w6 (.cells #[.int .u8 (k6:Nat),.string x6,.int .i64 (nn6:Nat),.slice G6 mm6 cc6] 39) w3.heap.size (Nat.lt_of_lt_of_le (blk_lt B5.out) ha.size)).trans ((ha.block w3.heap.size (blk_lt B5.out) (by have:=J3.out.lt;have:=J3.out.pbl;omega)).trans B5.out))
      have L5:=Lib.hid (Nat.le_trans (Nat.succ_le_of_lt (blk_lt B5.out)) (Nat.le_refl _))
      have L6:=Lib.hid ha.size
      clear ht ha hp
      go_wp2_with fail
      refine (K6.out _ I6.out.ps).mono ?_
      rintro r0 w7 ⟨rfl,ha,hp⟩
      have I7:=Lib.hid (I6.out.adv ha hp)
      have hpb6:w6.heap.size ≠ pb∧w3.heap.size ≠ pb:=by have:=J6.out.lt;have:=J3.out.lt;have:=J6.out.pbl;omega
      have T7:=Lib.hid (TmAt.up (ha.kept (A:=Only pb) rfl _) _ _ (TmAt.up (Kept.alloc w6 (.cells #[.int .u8 (k6:Nat),.string x6,.int .i64 (nn6:Nat),.slice G6 mm6 cc6] 39) _ _) _ _ T6.out))
      have b8:=(ha.block w6.heap.size (by simp) hpb6.1).trans (heap_alloc_new w6 (.cells #[.int .u8 (k6:Nat),.string x6,.int .i64 (nn6:Nat),.slice G6 mm6 cc6] 39))
      have B7:=Lib.hid ((ha.block w3.heap.size (blk_lt B6.out) hpb6.2).trans B6.out)
      have L7:=Lib.hid (Nat.lt_of_lt_of_le (blk_lt B6.out) ha.size)
      have BT7:=Lib.hid b8
      obtain ⟨p0,p1,p2,p3,-⟩:=cells4 b8
      clear ha hp hpb6 b8
      go_wp2_with fail
      have T7d:=Lib.hid (TmAt.up (Kept.since ((World.Since.refl w7.heap.size w7).drew) (Only pb) _) _ _ T7.out)
      have d0:w7.drew.cell? ⟨w6.heap.size,0,none⟩=_:=p0
      have d1:w7.drew.cell? ⟨w6.heap.size,1,none⟩=_:=p1
      have d2:w7.drew.cell? ⟨w6.heap.size,2,none⟩=_:=p2
      have d3:w7.drew.cell? ⟨w6.heap.size,3,none⟩=_:=p3
      go_region_dies
      all_goals
       refine (K7.out _ I7.out.drew.ps).mono ?_
       rintro r0 w8 ⟨rfl,ha⟩
       exact ⟨rfl,HQ.out _ (I7.out.drew.ad.trans ha)⟩
     ·
      clear hk
      injection hk2 with hk2
      subst hk2
      have K7:=Lib.hid (fun W hp=>part_y (W:=W) HU (Nat.le_refl _) hp hb)
      have HQ:Hid (∀ w' v,TermOf w' (Only pb) w.heap.size [.mk 16 x 0 (ts ++ us)] v→Stay w pb G c l e m2 w'→Says TermOf w pb G c l e (.ok [.mk 16 x 0 (ts ++ us)] m2) (.returned v) w'):=Lib.hid (fun w' v h1 h2=>⟨v,rfl,h1,h2⟩)
      generalize Says TermOf w pb G c l e (.ok [.mk 16 x 0 (ts ++ us)] m2)=Q at *
      clear h hl HU HF HT HR c1 c2 hx c3 ha c5 hb
      go_enter Tryz.func236,Tryz.ntmps236
      go_wp2_with fail
      refine (K1.out).mono ?_
      rintro r0 w1 ⟨rfl,ha,hp⟩
      have I1:=Lib.hid (I0.out.adv ha hp)
      clear ha hp
      go_wp2_with fail
      refine (K2.out _ I1.out.ps).mono ?_
      rintro r0 w2 ⟨rfl,ha,hp⟩
      have I2:=Lib.hid (I1.out.adv ha hp)
      clear ha hp
      go_wp2_with fail
      refine (K3.out _ I2.out.ps).mono ?_
      rintro r0 w3 ⟨rfl,ha,hp⟩
      have J3:=Lib.hid (I2.out.adv ha hp)
      clear ha hp
      have hb7:=J3.out.lt
      have I4:=Lib.hid (J3.out.alloc (.cells #[.int .u8 16,.string x,.int .i64 0,.slice none 0 0] 39))
      have B4:=Lib.hid (heap_alloc_new w3 (.cells #[.int .u8 16,.string x,.int .i64 0,.slice none 0 0] 39))
      have HB7:=Lib.hid hb7
      clear hb7
      go_wp2_with fail
      refine (K4.out _ I4.out.ps).mono ?_
      rintro r0 w5 ⟨rfl,ha,hp⟩
      have I5:=Lib.hid (I4.out.adv ha hp)
      have B5:=Lib.hid ((ha.block w3.heap.size (blk_lt B4.out) (by have:=J3.out.lt;have:=J3.out.pbl;omega)).trans B4.out)
      clear ha hp
      go_wp2_with fail
      refine (K5.out _ I5.out.ps).mono ?_
      rintro r0 w6 ⟨k6,x6,nn6,G6,mm6,cc6,t6,rfl,rfl,ht,ha,hp⟩
      have J6:=Lib.hid (I5.out.adv ha hp)
      have I6:=Lib.hid (J6.out.alloc (.cells #[.int .u8 (k6:Nat),.string x6,.int .i64 (nn6:Nat),.slice G6 mm6 cc6] 39))
      have T6:=Lib.hid ht
      have B6:=Lib.hid ((Go.Deep.blk_alloc_lt w6 (.cells #[.int .u8 (k6:Nat),.string x6,.int .i64 (nn6:Nat),.slice G6 mm6 cc6] 39) w3.heap.size (Nat.lt_of_lt_of_le (blk_lt B5.out) ha.size)).trans ((ha.block w3.heap.size (blk_lt B5.out) (by have:=J3.out.lt;have:=J3.out.pbl;omega)).trans B5.out))
      have L5:=Lib.hid (Nat.le_trans (Nat.succ_le_of_lt (blk_lt B5.out)) (Nat.le_refl _))
      have L6:=Lib.hid ha.size
      clear ht ha hp
      go_wp2_with fail
      refine (K6.out _ I6.out.ps).mono ?_
      rintro r0 w7 ⟨rfl,ha,hp⟩
      have I7:=Lib.hid (I6.out.adv ha hp)
      have hpb6:w6.heap.size ≠ pb∧w3.heap.size ≠ pb:=by have:=J6.out.lt;have:=J3.out.lt;have:=J6.out.pbl;omega
      have T7:=Lib.hid (TmAt.up (ha.kept (A:=Only pb) rfl _) _ _ (TmAt.up (Kept.alloc w6 (.cells #[.int .u8 (k6:Nat),.string x6,.int .i64 (nn6:Nat),.slice G6 mm6 cc6] 39) _ _) _ _ T6.out))
      have b8:=(ha.block w6.heap.size (by simp) hpb6.1).trans (heap_alloc_new w6 (.cells #[.int .u8 (k6:Nat),.string x6,.int .i64 (nn6:Nat),.slice G6 mm6 cc6] 39))
      have B7:=Lib.hid ((ha.block w3.heap.size (blk_lt B6.out) hpb6.2).trans B6.out)
      have L7:=Lib.hid (Nat.lt_of_lt_of_le (blk_lt B6.out) ha.size)
      have BT7:=Lib.hid b8
      obtain ⟨p0,p1,p2,p3,-⟩:=cells4 b8
      clear ha hp hpb6 b8
      go_wp2_with fail
      have T7d:=Lib.hid (TmAt.up (Kept.since ((World.Since.refl w7.heap.size w7).drew) (Only pb) _) _ _ T7.out)
      have d0:w7.drew.cell? ⟨w6.heap.size,0,none⟩=_:=p0
      have d1:w7.drew.cell? ⟨w6.heap.size,1,none⟩=_:=p1
      have d2:w7.drew.cell? ⟨w6.heap.size,2,none⟩=_:=p2
      have d3:w7.drew.cell? ⟨w6.heap.size,3,none⟩=_:=p3
      go_region_with (first
       | (
        go_at_call 236;refine (K7.out _ I7.out.drew.ps).mono ?_;rintro r0 w8 ⟨k8,x8,nn8,G8,mm8,cc8,t8,rfl,hts,ht,ha,hp⟩;
        have HTS:=Lib.hid hts;
        have I8:=Lib.hid (I7.out.drew.adv ha hp);
        have U8:=Lib.hid ht;have T8:=Lib.hid (TmAt.up (ha.kept (A:=Only pb) rfl _) _ _ T7d.out);
        have hb8:w8.heap[w3.heap.size]?=_:=(ha.block w3.heap.size L7.out (by have:=J3.out.lt;have:=J3.out.pbl;omega)).trans B7.out;
        have hbl:=blk_lt hb8;
        obtain ⟨y0,y1,y2,y3,-⟩:=cells4 ((ha.block w6.heap.size (blk_lt BT7.out) (by have:=J6.out.lt;have:=J6.out.pbl;omega)).trans BT7.out);
        have HB8:=Lib.hid hb8;have L8:=Lib.hid ha.size;
        obtain ⟨s0,s1,s2,s3,s4⟩:=cells4 hb8;
        have e0:∀ o,(w8.alloc o).cell? ⟨w3.heap.size,0,none⟩=_:=fun o=>(World.cell?_alloc_lt w8 o _ hbl).trans s0;
        have e1:∀ o,(w8.alloc o).cell? ⟨w3.heap.size,1,none⟩=_:=fun o=>(World.cell?_alloc_lt w8 o _ hbl).trans s1;
        have e2:∀ o,(w8.alloc o).cell? ⟨w3.heap.size,2,none⟩=_:=fun o=>(World.cell?_alloc_lt w8 o _ hbl).trans s2;
        have e3:∀ o,(w8.alloc o).cell? ⟨w3.heap.size,3,none⟩=_:=fun o=>(World.cell?_alloc_lt w8 o _ hbl).trans s3;
        have e4:∀ o j,(w8.alloc o).frozen? ⟨w3.heap.size,j,none⟩=false:=fun o j=>(World.frozen?_of_block (Go.Deep.blk_alloc_lt w8 o w3.heap.size hbl)).trans (s4 j);
        clear hts ht ha hp hb8 hbl))
      all_goals
       have HTS2:=HTS.out
       subst HTS2
       have I9:=Lib.hid (I8.out.alloc (.cells #[.int .u8 (k6:Nat),.string x6,.int .i64 (nn6:Nat),.slice G6 mm6 cc6,.int .u8 (k8:Nat),.string x8,.int .i64 (nn8:Nat),.slice G8 mm8 cc8] 39))
       have I10:=Lib.hid (I9.out.set HB7.out 3 (.slice (some ⟨w8.heap.size,0,none⟩) 2 2))
       obtain ⟨q0,q1,q2,q3,q4⟩:=I10.out.facts
       obtain ⟨-,-,-,-,q5⟩:=I9.out.facts
       have hlo6:w3.heap.size+1≤w5.heap.size:=blk_lt B5.out
       have hlo8:w3.heap.size+1≤w7.drew.heap.size:=L7.out
       have hne8:¬ Only pb w8.heap.size:=fun h=>by have h:w8.heap.size=pb:=h;have:=I8.out.lt;have:=I8.out.pbl;omega
       have hr:=RowOf.mono (RowOf.up (row2_at (A:=Only pb) (lo:=w3.heap.size+1) (TmAt.mono hlo6 _ _ T8.out) (TmAt.mono hlo8 _ _ U8.out) hne8 (Nat.le_trans hlo8 L8.out)) (Kept.set (B:=w3.heap.size) (Nat.lt_succ_self _) 3 (.slice (some ⟨w8.heap.size,0,none⟩) 2 2))) (lo':=w.heap.size+1) (Nat.le_succ_of_le HB7.out)
       have HRW:=Lib.hid hr
       clear hr hlo6 hlo8 hne8
       go_wp2_with fail
       have hf:=I10.out.fin (node_at 16 x 0 HRW.out)
       exact bodyPost_ret (v:=.agg #[.int .u8 16,.string x,.int .i64 0,.slice (some ⟨w8.heap.size,0,none⟩) 2 2]) (by simp [results,Tryz.results236,go_sem,q0,q1,q2,q3]) rfl (HQ.out _ _ hf.1 hf.2)
    ·
     rw [if_neg c5] at hk
     injection hk with hk
     subst hk
     have K6:=Lib.hid (fun W (hp:PsAt W pb G c l e m)=>must_n (W:=W) hp hl ⟨#[58]⟩ (Bool.eq_false_iff.2 c5))
     have HQ:Hid (∀ w',Adv w pb w'→Says TermOf w pb G c l e (.bad (placeOf l e m)) (strayE ((placeOf l e m))) w'):=Lib.hid (fun w' h=>⟨rfl,h⟩)
     generalize Says TermOf w pb G c l e (.bad (placeOf l e m))=Q at *
     clear h hl HU HF HT HR c1 c2 hx c3 ha c5
     go_enter Tryz.func236,Tryz.ntmps236
     go_wp2_with fail
     refine (K1.out).mono ?_
     rintro r0 w1 ⟨rfl,ha,hp⟩
     have I1:=Lib.hid (I0.out.adv ha hp)
     clear ha hp
     go_wp2_with fail
     refine (K2.out _ I1.out.ps).mono ?_
     rintro r0 w2 ⟨rfl,ha,hp⟩
     have I2:=Lib.hid (I1.out.adv ha hp)
     clear ha hp
     go_wp2_with fail
     refine (K3.out _ I2.out.ps).mono ?_
     rintro r0 w3 ⟨rfl,ha,hp⟩
     have J3:=Lib.hid (I2.out.adv ha hp)
     clear ha hp
     have hb7:=J3.out.lt
     have I4:=Lib.hid (J3.out.alloc (.cells #[.int .u8 16,.string x,.int .i64 0,.slice none 0 0] 39))
     have B4:=Lib.hid (heap_alloc_new w3 (.cells #[.int .u8 16,.string x,.int .i64 0,.slice none 0 0] 39))
     have HB7:=Lib.hid hb7
     clear hb7
     go_wp2_with fail
     refine (K4.out _ I4.out.ps).mono ?_
     rintro r0 w5 ⟨rfl,ha,hp⟩
     have I5:=Lib.hid (I4.out.adv ha hp)
     have B5:=Lib.hid ((ha.block w3.heap.size (blk_lt B4.out) (by have:=J3.out.lt;have:=J3.out.pbl;omega)).trans B4.out)
     clear ha hp
     go_wp2_with fail
     refine (K5.out _ I5.out.ps).mono ?_
     rintro r0 w6 ⟨k6,x6,nn6,G6,mm6,cc6,t6,rfl,rfl,ht,ha,hp⟩
     have J6:=Lib.hid (I5.out.adv ha hp)
     have I6:=Lib.hid (J6.out.alloc (.cells #[.int .u8 (k6:Nat),.string x6,.int .i64 (nn6:Nat),.slice G6 mm6 cc6] 39))
     have T6:=Lib.hid ht
     have B6:=Lib.hid ((Go.Deep.blk_alloc_lt w6 (.cells #[.int .u8 (k6:Nat),.string x6,.int .i64 (nn6:Nat),.slice G6 mm6 cc6] 39) w3.heap.size (Nat.lt_of_lt_of_le (blk_lt B5.out) ha.size)).trans ((ha.block w3.heap.size (blk_lt B5.out) (by have:=J3.out.lt;have:=J3.out.pbl;omega)).trans B5.out))
     have L5:=Lib.hid (Nat.le_trans (Nat.succ_le_of_lt (blk_lt B5.out)) (Nat.le_refl _))
     have L6:=Lib.hid ha.size
     clear ht ha hp
     go_wp2_with fail
     refine (K6.out _ I6.out.ps).mono ?_
     rintro r0 w7 ⟨rfl,ha⟩
     have A7:=Lib.hid ha
     clear ha
     go_wp2_with fail
     exact ⟨rfl,HQ.out _ (I6.out.ad.trans A7.out)⟩
  ·
   rw [if_neg c3] at hr
   injection hr with hr
   subst hr
   have K4:=Lib.hid (fun W (hp:PsAt W pb G c l e (n+1+1))=>must_n (W:=W) hp hl ⟨#[105,110]⟩ (Bool.eq_false_iff.2 c3))
   have HQ:Hid (∀ w',Adv w pb w'→Says TermOf w pb G c l e (.bad (placeOf l e (n+2))) (strayE ((placeOf l e (n+2)))) w'):=Lib.hid (fun w' h=>⟨rfl,h⟩)
   generalize Says TermOf w pb G c l e (.bad (placeOf l e (n+2)))=Q at *
   clear h hl HU HF HT HR c1 c2 hx c3
   go_enter Tryz.func236,Tryz.ntmps236
   go_wp2_with fail
   refine (K1.out).mono ?_
   rintro r0 w1 ⟨rfl,ha,hp⟩
   have I1:=Lib.hid (I0.out.adv ha hp)
   clear ha hp
   go_wp2_with fail
   refine (K2.out _ I1.out.ps).mono ?_
   rintro r0 w2 ⟨rfl,ha,hp⟩
   have I2:=Lib.hid (I1.out.adv ha hp)
   clear ha hp
   go_wp2_with fail
   refine (K3.out _ I2.out.ps).mono ?_
   rintro r0 w3 ⟨rfl,ha,hp⟩
   have J3:=Lib.hid (I2.out.adv ha hp)
   clear ha hp
   have hb7:=J3.out.lt
   have I4:=Lib.hid (J3.out.alloc (.cells #[.int .u8 16,.string x,.int .i64 0,.slice none 0 0] 39))
   have B4:=Lib.hid (heap_alloc_new w3 (.cells #[.int .u8 16,.string x,.int .i64 0,.slice none 0 0] 39))
   have HB7:=Lib.hid hb7
   clear hb7
   go_wp2_with fail
   refine (K4.out _ I4.out.ps).mono ?_
   rintro r0 w5 ⟨rfl,ha⟩
   have A5:=Lib.hid ha
   clear ha
   go_wp2_with fail
   exact ⟨rfl,HQ.out _ (I4.out.ad.trans A5.out)⟩
end Go.Proofs.YthbdlnflmfchjaaGreatDoor
