/- The parser of formulas: several, conj and formula walked. -/
import Derived.Test.YthbdlnflmfchjaaGreatDoorZB
namespace Go.Proofs.YthbdlnflmfchjaaGreatDoor
open Go.RowKit Go.Proofs.Fm Go.Proofs.MapEnt
set_option maxHeartbeats 3200000
set_option maxRecDepth 1000000
theorem own_row2 {w w':World} {lo pb gb cap:Nat} {acc:List Tm} {us:List Value} (hO:w.ownsRow lo 39 4 (.slice (some ⟨gb,0,none⟩) acc.length cap) acc.length us) (hT:TmsAt w (fun b=>b=pb ∨ b=gb) lo acc us) (hpb:pb < lo) (ha:Adv w pb w'):
  RowOf w' (Only pb) lo acc (.slice (some ⟨gb,0,none⟩) acc.length cap):=by
 have hl:=hO.1
 have hg:=hO.lt gb rfl
 have ht:=TmsAt.turn (A':=Only pb) (fun b _ _ h=>.inl h) _ _ (TmsAt.up (w':=w') ⟨ha.size,fun k _ hk hne=>ha.block k hk (fun e=>hne (.inl e))⟩ _ _ hT)
 refine ⟨some ⟨gb,0,none⟩,cap,us,rfl,.inr ⟨gb,rfl,fun h=>?_,hg.1,Nat.lt_of_lt_of_le hg.2 ha.size,fun i hi=>?_⟩,ht⟩
 ·
  have h1:gb=pb:=h
  have:=hg.1
  omega
 ·
  have hne:gb ≠ pb:=by have:=hg.1;omega
  rw [World.cell?_of_block (ha.block gb hg.2 hne),hO.cellAt i (by omega),List.getElem?_eq_getElem hi]
theorem own_one {w w':World} {lo pb gb cap:Nat} {t:Tm} {us:List Value} (hO:w.ownsRow lo 39 4 (.slice (some ⟨gb,0,none⟩) 1 cap) 1 us) (hT:TmsAt w (fun b=>b=pb ∨ b=gb) lo [t] us) (hpb:pb < lo) (ha:Adv w pb w'):
  ∃ (k:Nat) (x:ByteArray) (n:Nat) (G:Option Addr) (m c:Nat),w'.cell? ⟨gb,0,none⟩=some (.int .u8 (k:Nat))∧w'.cell? ⟨gb,1,none⟩=some (.string x)∧w'.cell? ⟨gb,2,none⟩=some (.int .i64 (n:Nat))∧w'.cell? ⟨gb,3,none⟩=some (.slice G m c)∧
   TmAt w' (Only pb) lo t [.int .u8 (k:Nat),.string x,.int .i64 (n:Nat),.slice G m c]:=by
 have hg:=hO.lt gb rfl
 have ht:=TmsAt.turn (A':=Only pb) (fun b _ _ h=>.inl h) _ _ (TmsAt.up (w':=w') ⟨ha.size,fun k _ hk hne=>ha.block k hk (fun e=>hne (.inl e))⟩ _ _ hT)
 have hne:gb ≠ pb:=by have:=hg.1;omega
 unfold TmsAt at ht
 obtain ⟨a,b,rfl,h1,h2⟩:=ht
 unfold TmsAt at h2
 subst h2
 obtain ⟨k,x,n,G,m,c,rfl⟩:=tm_four h1
 have hc:∀ i,i < 4→w'.cell? ⟨gb,i,none⟩=([.int .u8 (k:Nat),.string x,.int .i64 (n:Nat),.slice G m c]:List Value)[i]?:=fun i hi=>by
  rw [World.cell?_of_block (ha.block gb hg.2 hne)]
  exact hO.cellAt i (by omega)
 exact ⟨k,x,n,G,m,c,hc 0 (by decide),hc 1 (by decide),hc 2 (by decide),hc 3 (by decide),h1⟩
theorem several_unit (pb c e F:Nat) (G:Option Addr) (l:List Wd) (hl:WsOk l) (HA:PartC pb c e G l F 236 .unit) (w:World) (n:Nat) (r:Re) (h:PsAt w pb G c l e n) (hr:parse lang l e (F+1) (.several false) n=some r):
  Calls Tryz.prog 167 #[.pointer (some ⟨pb,0,none⟩),.int .u8 13,.string ⟨#[97,110,100]⟩,.func (.func 236) #[.pointer (some ⟨pb,0,none⟩)] #[]] w (Says TermOf w pb G c l e r):=by
 have hr2:andThen (parse lang l e F .unit n) (fun ts n1=>parse lang l e F (.more false ts) n1)=some r:=hr
 clear hr
 have hpb:=h.lt
 have hw0:=(World.Since.refl w.heap.size w).alloc (Nat.le_refl _) z39
 have HP:=Lib.hid (h.up hw0)
 have H0:=Lib.hid h
 have HW:=Lib.hid hw0
 have HL:=Lib.hid hl
 have HAh:=Lib.hid HA
 clear hw0 h hl HA
 cases hra:parse lang l e F .unit n with
 | none=>rw [hra] at hr2;cases hr2
 | some ra=>
  have HG0:=Lib.hid (fun ts m2 (h:ra=.ok ts m2)=>parse_ge F .unit n ts m2 (by rw [hra,h]))
  rw [hra] at hr2
  have KA:=Lib.hid (fun w2 hp=>HAh.out F (Nat.le_refl _) w2 n ra hp hra)
  generalize hQ:Says TermOf w pb G c l e r=Q at *
  have HQ:=Lib.hid hQ
  clear hQ hra
  cases ra with
  | bad p=>
   have hr3:some (Re.bad p)=some r:=hr2
   injection hr3 with hr3
   have KA2:Hid (∀ w2,PsAt w2 pb G c l e n→Calls Tryz.prog 236 #[.pointer (some ⟨pb,0,none⟩)] w2 fun E w'=>E=.panicked [{ v:=.iface 173 (.agg #[.int .i64 (p:Nat)]),recovered:=false }]∧Adv w2 pb w'):=Lib.hid (fun w2 hp=>KA.out w2 hp)
   have HQ2:Hid (∀ w',Adv w pb w'→Q (strayE p) w'):=Lib.hid (fun w' h=>by rw [← HQ.out,← hr3];exact ⟨rfl,h⟩)
   unfold z39 at HP HW
   clear hr2 hr3 KA
   go_enter Tryz.func167,Tryz.ntmps167
   go_wp2_with fail
   refine (KA2.out _ HP.out).mono ?_
   rintro r0 w1 ⟨rfl,ha⟩
   have A1:=Lib.hid ha
   clear ha
   go_wp2_with fail
   exact ⟨rfl,HQ2.out _ (((Adv.refl w pb).since HW.out).trans A1.out)⟩
  | ok ts m=>
   have hr3:parse lang l e F (.more false ts) m=some r:=hr2
   have HR3:=Lib.hid hr3
   clear hr2 hr3
   have HZ0:Hid ((w.alloc z39).heap[w.heap.size]?=some z39):=Lib.hid (heap_alloc_new w _)
   unfold z39 at HP HW HZ0
   go_enter Tryz.func167,Tryz.ntmps167
   go_wp2_with fail
   refine (KA.out _ HP.out).mono ?_
   rintro r0 w2 ⟨v,rfl,⟨t,cs,rfl,rfl,ht⟩,hst⟩
   obtain ⟨k0,x0,n0,G0,m0,c0,rfl⟩:=tm_four ht
   have HT:=Lib.hid ht
   have T2:=Lib.hid hst
   have hlt0:Hid (w.heap.size < w2.heap.size):=Lib.hid (Nat.lt_of_lt_of_le (by simp) hst.1.size)
   have HZ1:Hid (w2.heap[w.heap.size]?=some z39):=Lib.hid ((hst.1.block w.heap.size (by simp) (by omega)).trans HZ0.out)
   clear ht hst KA
   go_wp2_with fail
   go_loopg [9] (l.length - m) (fun g o wr=>∃ (n':Nat) (acc:List Tm) (us:List Value) (gb cap:Nat),g=l.length - n'∧acc.length≤n'+1∧acc ≠ []∧o=.slice (some ⟨gb,0,none⟩) acc.length cap∧
    Hid (wr.ownsRow (w.heap.size+1) 39 4 (.slice (some ⟨gb,0,none⟩) acc.length cap) acc.length us)∧
    Hid (TmsAt wr (fun b=>b=pb ∨ b=gb) (w.heap.size+1) acc us)∧Hid (Stay w pb G c l e n' wr)∧Hid (∃ f,f≤F∧parse lang l e f (.more false acc) n'=some r)∧Hid (wr.heap[w.heap.size]?=some z39))
   case atStart=>
    have h1:=TmAt.turn (A':=fun b=>b=pb ∨ b=w2.heap.size) (fun b _ hb h=>h.elim id (fun e=>absurd hb (by omega))) _ _ HT.out
    have hlo:(w.alloc z39).heap.size=w.heap.size+1:=by simp
    unfold z39 at hlo
    rw [hlo] at h1
    have h2:=TmAt.up (w':=w2.alloc (.cells #[.int .u8 (k0:Nat),.string x0,.int .i64 (n0:Nat),.slice G0 m0 c0] 39)) ⟨by simp,fun k _ hk _=>Go.Deep.blk_alloc_lt w2 _ k hk⟩ _ _ h1
    refine ⟨m,[t],[.int .u8 (k0:Nat),.string x0,.int .i64 (n0:Nat),.slice G0 m0 c0],w2.heap.size,1,rfl,by simp,by simp,rfl,Lib.hid ?_,Lib.hid ?_,Lib.hid ⟨((Adv.refl w pb).since HW.out).trans (T2.out.1.since ((World.Since.refl _ _).alloc (Nat.le_refl _) _)),T2.out.2.up ((World.Since.refl _ _).alloc (Nat.le_refl _) _)⟩,Lib.hid ⟨F,Nat.le_refl _,HR3.out⟩,Lib.hid ((Go.Deep.blk_alloc_lt w2 _ w.heap.size hlt0.out).trans HZ1.out)⟩
    ·
     exact World.ownsRow_lit w2 #[.int .u8 (k0:Nat),.string x0,.int .i64 (n0:Nat),.slice G0 m0 c0] 1 (by have:=hlt0.out;omega) (by decide) rfl
    ·
     unfold TmsAt
     exact ⟨_,[],by simp,h2,by unfold TmsAt;rfl⟩
   case round=>
    obtain ⟨n',acc,us,gb,cap,rfl,hacc,hne,rfl,hO,hT,hS,hR,hZ⟩:=hrel
    have hstr:wr.Since wr.heap.size (wr.alloc (.cells #[.string ⟨#[97,110,100]⟩] 9)):=(World.Since.refl _ _).alloc (Nat.le_refl _) _
    have KT:=Lib.hid (take_says (wr.alloc (.cells #[.string ⟨#[97,110,100]⟩] 9)) pb c e n' G l (hS.out.2.up hstr) HL.out.full HL.out.len [⟨#[97,110,100]⟩] wr.heap.size 1 (SsAt.made wr [⟨#[97,110,100]⟩]) (by simp))
    unfold TakeSay at KT
    rw [anyW_one] at KT
    have HX:=Lib.hid hstr
    have HNE:=Lib.hid hne
    clear hstr hne
    obtain ⟨f,hf,hp⟩:=hR.out
    cases f with
    | zero=>cases hp
    | succ f=>
     have hp2:(if isW l n' ⟨#[97,110,100]⟩=true then andThen (parse lang l e f .unit (n'+1)) (fun ts n1=>parse lang l e f (.more false (acc ++ ts)) n1) else some (Re.ok [if acc.length=1 then acc.headD default else .mk 13 ByteArray.empty 0 acc] n'))=some r:=hp
     by_cases c2:isW l n' ⟨#[97,110,100]⟩=true
     ·
      rw [if_pos c2] at hp2
      have hn:=isW_lt c2
      rw [c2] at KT
      cases hra:parse lang l e f .unit (n'+1) with
      | none=>rw [hra] at hp2;cases hp2
      | some ra=>
       have KA2:=Lib.hid (fun w2 hp=>HAh.out f (by omega) w2 (n'+1) ra hp hra)
       rw [hra] at hp2
       have HG:=Lib.hid (fun ts m2 (h:ra=.ok ts m2)=>parse_ge f .unit (n'+1) ts m2 (by rw [hra,h]))
       have HF:=Lib.hid (Nat.le_of_succ_le hf)
       clear c2 hp hf hR hra
       cases ra with
       | bad p=>
        have hr3:some (Re.bad p)=some r:=hp2
        injection hr3 with hr3
        have KA3:Hid (∀ w2,PsAt w2 pb G c l e (n'+1)→Calls Tryz.prog 236 #[.pointer (some ⟨pb,0,none⟩)] w2 fun E w'=>E=.panicked [{ v:=.iface 173 (.agg #[.int .i64 (p:Nat)]),recovered:=false }]∧Adv w2 pb w'):=Lib.hid (fun w2 hp=>KA2.out w2 hp)
        have HQ2:Hid (∀ w',Adv w pb w'→Q (strayE p) w'):=Lib.hid (fun w' h=>by rw [← HQ.out,← hr3];exact ⟨rfl,h⟩)
        clear KA2 hp2 hr3
        go_wp2_with fail
        refine KT.out.mono ?_
        rintro r0 w3 ⟨h1,h2,_⟩
        obtain ⟨rfl,h3⟩:=h2 trivial
        have A3:=Lib.hid h1
        have P3:=Lib.hid h3
        clear h1 h2 h3 KT
        go_wp2_with fail
        refine (KA3.out _ P3.out).mono ?_
        rintro r0 w4 ⟨rfl,ha⟩
        have A4:=Lib.hid ha
        clear ha
        go_wp2_with fail
        exact ⟨rfl,HQ2.out _ (((hS.out.1.since HX.out).trans A3.out).trans A4.out)⟩
       | ok ts m2=>
        have hr3:parse lang l e f (.more false (acc ++ ts)) m2=some r:=hp2
        have KA3:Hid (∀ w2,PsAt w2 pb G c l e (n'+1)→Calls Tryz.prog 236 #[.pointer (some ⟨pb,0,none⟩)] w2 fun E w'=>∃ v,E=.returned v∧TermOf w' (Only pb) w2.heap.size ts v∧Stay w2 pb G c l e m2 w'):=Lib.hid (fun w2 hp=>KA2.out w2 hp)
        have HR4:=Lib.hid hr3
        clear KA2 hp2 hr3
        go_wp2_with fail
        refine KT.out.mono ?_
        rintro r0 w3 ⟨h1,h2,_⟩
        obtain ⟨rfl,h3⟩:=h2 trivial
        have A3:=Lib.hid h1
        have P3:=Lib.hid h3
        clear h1 h2 h3 KT
        go_wp2_with fail
        refine (KA3.out _ P3.out).mono ?_
        rintro r0 w4 ⟨v,rfl,⟨t2,cs,rfl,rfl,ht2⟩,hst⟩
        obtain ⟨k2,x2,n2,G2,m3,c3,rfl⟩:=tm_four ht2
        have HT2:=Lib.hid ht2
        have T4:=Lib.hid hst
        have ha:Adv wr pb w4:=(((Adv.refl wr pb).since HX.out).trans A3.out).trans hst.1
        have hg:=hO.out.lt gb rfl
        have hO4:(w4.alloc (.cells #[.int .u8 (k2:Nat),.string x2,.int .i64 (n2:Nat),.slice G2 m3 c3] 39)).ownsRow (w.heap.size+1) 39 4 (.slice (some ⟨gb,0,none⟩) acc.length cap) acc.length us:=
         own_same hO.out ((Go.Deep.blk_alloc_lt w4 _ gb (Nat.lt_of_lt_of_le hg.2 ha.size)).trans (ha.block gb hg.2 (by have:=hg.1;omega)))
        have hc:∀ j,(w4.alloc (.cells #[.int .u8 (k2:Nat),.string x2,.int .i64 (n2:Nat),.slice G2 m3 c3] 39)).cell? ⟨w4.heap.size,j,none⟩=(#[.int .u8 (k2:Nat),.string x2,.int .i64 (n2:Nat),.slice G2 m3 c3]:Array Value)[j]?:=fun j=>by
         unfold World.cell?
         rw [heap_alloc_new]
         rfl
        obtain ⟨v',w5,a1,a2,a3,a4⟩:=run_append_t _ (w.heap.size+1) 37 _ acc.length us hO4 ⟨w4.heap.size,0,none⟩ 1 k2 x2 n2 G2 m3 c3 (hc 0) (hc 1) (hc 2) (hc 3) (by have:=HL.out.len;omega) (by have:=hS.out.1.size;have:=ha.size;simp;omega)
        have O5:=Lib.hid a2
        have B5:=Lib.hid a3
        have V5:=Lib.hid a4
        have HA4:=Lib.hid ha
        clear ht2 hst hO4 hc a2 a3 a4 ha KA3
        go_wp2_with (refine wpList_append_t rfl (.tmp 24) (.tmp 27) rfl rfl rfl rfl a1 ?_)
        have HM:=Lib.hid (HG.out [t2] m2 rfl)
        obtain ⟨g',cap',hv',hg1,hg2⟩:∃ g' cap',v'=.slice (some ⟨g',0,none⟩) (acc.length+1) cap'∧w.heap.size+1≤g'∧g' < w5.heap.size:=by
         obtain ⟨_,⟨_,e⟩ | ⟨g',cp,cur,e,h2,h3,_⟩⟩:=O5.out
         ·
          omega
         ·
          exact ⟨g',cp,e,h2,(Array.getElem?_eq_some_iff.1 h3).1⟩
        subst hv'
        go_roundg (l.length - m2)
        case measure=>have:=HM.out;omega
        case rel=>
         have hgb:=hO.out.lt gb rfl
         have hsz:wr.heap.size≤w4.heap.size:=HA4.out.size
         have hsz5:w4.heap.size < w5.heap.size:=Nat.lt_of_lt_of_le (by simp) B5.out.size
         have hgv:g'=gb ∨ g'=w4.heap.size+1:=by
          rcases V5.out with h | h
          ·
           left;injection h
          ·
           right;injection h with h;simpa using h
         have hblk:∀ k,k < w4.heap.size→k ≠ gb→w5.heap[k]?=w4.heap[k]?:=fun k hk hne=>(B5.out.block k (by simp;omega) (fun e=>hne (by injection e))).trans (Go.Deep.blk_alloc_lt w4 _ k hk)
         have hA5:Adv w pb w5:=by
          have h1:Adv w pb w4:=hS.out.1.trans HA4.out
          exact ⟨B5.out.os.trans h1.os,B5.out.tape.trans h1.tape,B5.out.output.trans h1.output,by have:=h1.size;omega,fun k hk hne=>(hblk k (Nat.lt_of_lt_of_le hk h1.size) (by have:=hgb.1;omega)).trans (h1.block k hk hne)⟩
         have hw3:wr.heap.size≤w3.heap.size:=Nat.le_trans HX.out.size A3.out.size
         have e1:=TmsAt.turn (A':=fun b=>b=pb ∨ b=gb ∨ b=g') (fun b _ hb h=>by rcases h with h | h | h;exact .inl h;exact .inr h;right;omega) _ _ hT.out
         have e2:=TmsAt.up (w':=w5) ⟨by omega,fun k _ hk hne=>(hblk k (by omega) (fun e=>hne (.inr (.inl e)))).trans (HA4.out.block k hk (fun e=>hne (.inl e)))⟩ _ _ e1
         have e3:=TmsAt.turn (A':=fun b=>b=pb ∨ b=g') (fun b _ _ h=>h.elim .inl (fun h=>.inr (.inr h))) _ _ e2
         have f1:=TmAt.turn (A':=fun b=>b=pb ∨ b=gb ∨ b=g') (fun b hb1 hb h=>by rcases h with h | h | h;exact h;exact absurd hb1 (by omega);exact absurd hb1 (by omega)) _ _ HT2.out
         have f2:=TmAt.up (w':=w5) ⟨by omega,fun k _ hk hne=>hblk k hk (fun e=>hne (.inr (.inl e)))⟩ _ _ f1
         have f3:=TmAt.mono (lo':=w.heap.size+1) (by have:=hgb.1;omega) _ _ (TmAt.turn (A':=fun b=>b=pb ∨ b=g') (fun b _ _ h=>h.elim .inl (fun h=>.inr (.inr h))) _ _ f2)
         have hp5:PsAt w5 pb G c l e m2:=H0.out.via hA5 T4.out.2 (hblk pb T4.out.2.lt (by have:=hgb.1;omega))
         have hz5:w5.heap[w.heap.size]?=some z39:=(hblk w.heap.size (by have:=hgb.1;omega) (by have:=hgb.1;omega)).trans ((HA4.out.block w.heap.size (blk_lt hZ.out) (by omega)).trans hZ.out)
         exact ⟨m2,acc ++ [t2],us ++ [.int .u8 (k2:Nat),.string x2,.int .i64 (n2:Nat),.slice G2 m3 c3],g',cap',rfl,by have:=HM.out;simp;omega,by simp,by simp,Lib.hid (by simpa using O5.out),Lib.hid (tms_snoc _ _ e3 f3),Lib.hid ⟨hA5,hp5⟩,Lib.hid ⟨f,HF.out,HR4.out⟩,Lib.hid hz5⟩
     ·
      rw [if_neg c2] at hp2
      have c3:=Bool.eq_false_iff.2 c2
      rw [c3] at KT
      injection hp2 with hp2
      clear c2 c3 hp hf hR
      go_wp2_with fail
      refine KT.out.mono ?_
      rintro r0 w3 ⟨h1,_,h2⟩
      obtain ⟨rfl,h3⟩:=h2 trivial
      have A3:=Lib.hid h1
      have P3:=Lib.hid h3
      have ha:Adv wr pb w3:=((Adv.refl wr pb).since HX.out).trans h1
      have HA3:=Lib.hid ha
      have hz3:w3.heap[w.heap.size]?=some z39:=(ha.block w.heap.size (blk_lt hZ.out) (by omega)).trans hZ.out
      obtain ⟨q0,q1,q2,q3,q4⟩:=res_facts hz3
      have hpl:pb < w.heap.size+1:=by omega
      match acc,hacc,HNE,hO,hT,hp2 with
      | [],_,hne,_,_,_=>exact absurd rfl hne.out
      | [t1],hacc,_,hO,hT,hp2=>
       obtain ⟨k1,x1,n1,G1,m1,c1,g0,g1,g2,g3,ht1⟩:=own_one (w':=w3) hO.out hT.out hpl ha
       have HT1:=Lib.hid ht1
       have HQ2:Hid (∀ w' v,TermOf w' (Only pb) w.heap.size [t1] v→Stay w pb G c l e n' w'→Q (.returned v) w'):=Lib.hid (fun w' v h1 h2=>by rw [← HQ.out,← hp2];exact ⟨_,rfl,h1,h2⟩)
       clear h1 h2 h3 KT hz3 hp2 ha ht1
       go_wp2_with fail
       refine bodyPost_ret (v:=.agg #[.int .u8 (k1:Nat),.string x1,.int .i64 (n1:Nat),.slice G1 m1 c1]) (by simp [results,Tryz.results167,go_sem,q0,q1,q2,q3]) rfl (HQ2.out _ _ ⟨t1,_,rfl,rfl,?_⟩ (stay4 H0.out ⟨hS.out.1.trans HA3.out,P3.out⟩ (Nat.le_refl _) _ _ _ _))
       exact TmAt.mono (Nat.le_succ _) _ _ (TmAt.up (kept4 (Nat.lt_succ_self _) _ _ _ _) _ _ HT1.out)
      | t1 :: t2 :: r2,hacc,_,hO,hT,hp2=>
       have hrow:=own_row2 (w':=w3) hO.out hT.out hpl ha
       have HRW:=Lib.hid hrow
       have hlen:¬ (((t1 :: t2 :: r2).length:Nat):Int)=1:=by simp;omega
       generalize hL:(t1 :: t2 :: r2).length=LL at *
       have HLL:=Lib.hid hL
       have HQ2:Hid (∀ w' v,TermOf w' (Only pb) w.heap.size [.mk 13 ByteArray.empty 0 (t1 :: t2 :: r2)] v→Stay w pb G c l e n' w'→Q (.returned v) w'):=Lib.hid (fun w' v h1 h2=>by rw [← HQ.out,← hp2,if_neg (by rw [← HLL.out];simp)];exact ⟨_,rfl,h1,h2⟩)
       clear h1 h2 h3 KT hz3 hp2 ha hrow hL
       go_wp2_with fail
       refine bodyPost_ret (v:=.agg #[.int .u8 13,.string ⟨#[]⟩,.int .i64 0,.slice (some ⟨gb,0,none⟩) LL cap]) (by simp [results,Tryz.results167,go_sem,q0,q1,q2,q3]) rfl (HQ2.out _ _ ?_ (stay4 H0.out ⟨hS.out.1.trans HA3.out,P3.out⟩ (Nat.le_refl _) _ _ _ _))
       exact node_at 13 _ 0 (RowOf.mono (RowOf.up HRW.out (kept4 (Nat.lt_succ_self _) _ _ _ _)) (Nat.le_succ _))
theorem conj_says (pb c e F:Nat) (G:Option Addr) (l:List Wd) (hl:WsOk l) (HA:PartC pb c e G l F 236 .unit) (w:World) (n:Nat) (r:Re) (h:PsAt w pb G c l e n) (hr:parse lang l e (F+1) (.several false) n=some r):
  Calls Tryz.prog 168 #[.pointer (some ⟨pb,0,none⟩)] w (Says TermOf w pb G c l e r):=by
 have hw0:=(World.Since.refl w.heap.size w).alloc (Nat.le_refl _) z39
 have hpb:=h.lt
 have KS:=Lib.hid (several_unit pb c e F G l hl HA (w.alloc z39) n r (h.up hw0) hr)
 have H0:=Lib.hid h
 have HW:=Lib.hid hw0
 have HZ0:Hid ((w.alloc z39).heap[w.heap.size]?=some z39):=Lib.hid (heap_alloc_new w _)
 generalize hQ:Says TermOf w pb G c l e r=Q at *
 have HQ:=Lib.hid hQ
 clear hQ hw0 h hr hl HA
 cases r with
 | bad p=>
  have KS2:Hid (Calls Tryz.prog 167 #[.pointer (some ⟨pb,0,none⟩),.int .u8 13,.string ⟨#[97,110,100]⟩,.func (.func 236) #[.pointer (some ⟨pb,0,none⟩)] #[]] (w.alloc z39) fun E w'=>E=.panicked [{ v:=.iface 173 (.agg #[.int .i64 (p:Nat)]),recovered:=false }]∧Adv (w.alloc z39) pb w'):=Lib.hid KS.out
  have HQ2:Hid (∀ w',Adv w pb w'→Q (strayE p) w'):=Lib.hid (fun w' h=>by rw [← HQ.out];exact ⟨rfl,h⟩)
  unfold z39 at KS2 HW
  clear KS
  go_enter Tryz.func168,Tryz.ntmps168
  go_wp2_with fail
  refine KS2.out.mono ?_
  rintro r0 w1 ⟨rfl,ha⟩
  have A1:=Lib.hid ha
  clear ha
  go_wp2_with fail
  exact ⟨rfl,HQ2.out _ (((Adv.refl w pb).since HW.out).trans A1.out)⟩
 | ok ts m=>
  have KS2:Hid (Calls Tryz.prog 167 #[.pointer (some ⟨pb,0,none⟩),.int .u8 13,.string ⟨#[97,110,100]⟩,.func (.func 236) #[.pointer (some ⟨pb,0,none⟩)] #[]] (w.alloc z39) fun E w'=>∃ v,E=.returned v∧TermOf w' (Only pb) (w.heap.size+1) ts v∧Stay (w.alloc z39) pb G c l e m w'):=Lib.hid (KS.out.mono fun E w' h=>by
   obtain ⟨v,h1,h2,h3⟩:=h
   rw [show (w.alloc z39).heap.size=w.heap.size+1 by simp] at h2
   exact ⟨v,h1,h2,h3⟩)
  have HQ2:Hid (∀ w' v,TermOf w' (Only pb) w.heap.size ts v→Stay w pb G c l e m w'→Q (.returned v) w'):=Lib.hid (fun w' v h1 h2=>by rw [← HQ.out];exact ⟨_,rfl,h1,h2⟩)
  unfold z39 at KS2 HW HZ0
  clear KS
  go_enter Tryz.func168,Tryz.ntmps168
  go_wp2_with fail
  refine KS2.out.mono ?_
  rintro r0 w1 ⟨v,rfl,⟨t,cs,rfl,rfl,ht⟩,hst⟩
  obtain ⟨k1,x1,n1,G1,m1,c1,rfl⟩:=tm_four ht
  have HT1:=Lib.hid ht
  have T1:=Lib.hid hst
  have hz1:w1.heap[w.heap.size]?=some z39:=(hst.1.block w.heap.size (by simp) (by omega)).trans HZ0.out
  obtain ⟨q0,q1,q2,q3,q4⟩:=res_facts hz1
  clear ht hst hz1
  go_wp2_with fail
  refine bodyPost_ret (v:=.agg #[.int .u8 (k1:Nat),.string x1,.int .i64 (n1:Nat),.slice G1 m1 c1]) (by simp [results,Tryz.results168,go_sem,q0,q1,q2,q3]) rfl (HQ2.out _ _ ⟨t,_,rfl,rfl,?_⟩ (stay4 H0.out ⟨((Adv.refl w pb).since HW.out).trans T1.out.1,T1.out.2⟩ (Nat.le_refl _) _ _ _ _))
  exact TmAt.mono (Nat.le_succ _) _ _ (TmAt.up (kept4 (Nat.lt_succ_self _) _ _ _ _) _ _ HT1.out)
end Go.Proofs.YthbdlnflmfchjaaGreatDoor
namespace Go.Proofs.YthbdlnflmfchjaaGreatDoor
open Go.RowKit Go.Proofs.Fm Go.Proofs.MapEnt
set_option maxHeartbeats 3200000
set_option maxRecDepth 1000000
theorem several_conj (pb c e F:Nat) (G:Option Addr) (l:List Wd) (hl:WsOk l) (HA:PartC pb c e G l F 168 (.several false)) (w:World) (n:Nat) (r:Re) (h:PsAt w pb G c l e n) (hr:parse lang l e (F+1) (.several true) n=some r):
  Calls Tryz.prog 167 #[.pointer (some ⟨pb,0,none⟩),.int .u8 14,.string ⟨#[111,114]⟩,.func (.func 168) #[.pointer (some ⟨pb,0,none⟩)] #[]] w (Says TermOf w pb G c l e r):=by
 have hr2:andThen (parse lang l e F (.several false) n) (fun ts n1=>parse lang l e F (.more true ts) n1)=some r:=hr
 clear hr
 have hpb:=h.lt
 have hw0:=(World.Since.refl w.heap.size w).alloc (Nat.le_refl _) z39
 have HP:=Lib.hid (h.up hw0)
 have H0:=Lib.hid h
 have HW:=Lib.hid hw0
 have HL:=Lib.hid hl
 have HAh:=Lib.hid HA
 clear hw0 h hl HA
 cases hra:parse lang l e F (.several false) n with
 | none=>rw [hra] at hr2;cases hr2
 | some ra=>
  have HG0:=Lib.hid (fun ts m2 (h:ra=.ok ts m2)=>parse_ge F (.several false) n ts m2 (by rw [hra,h]))
  rw [hra] at hr2
  have KA:=Lib.hid (fun w2 hp=>HAh.out F (Nat.le_refl _) w2 n ra hp hra)
  generalize hQ:Says TermOf w pb G c l e r=Q at *
  have HQ:=Lib.hid hQ
  clear hQ hra
  cases ra with
  | bad p=>
   have hr3:some (Re.bad p)=some r:=hr2
   injection hr3 with hr3
   have KA2:Hid (∀ w2,PsAt w2 pb G c l e n→Calls Tryz.prog 168 #[.pointer (some ⟨pb,0,none⟩)] w2 fun E w'=>E=.panicked [{ v:=.iface 173 (.agg #[.int .i64 (p:Nat)]),recovered:=false }]∧Adv w2 pb w'):=Lib.hid (fun w2 hp=>KA.out w2 hp)
   have HQ2:Hid (∀ w',Adv w pb w'→Q (strayE p) w'):=Lib.hid (fun w' h=>by rw [← HQ.out,← hr3];exact ⟨rfl,h⟩)
   unfold z39 at HP HW
   clear hr2 hr3 KA
   go_enter Tryz.func167,Tryz.ntmps167
   go_wp2_with fail
   refine (KA2.out _ HP.out).mono ?_
   rintro r0 w1 ⟨rfl,ha⟩
   have A1:=Lib.hid ha
   clear ha
   go_wp2_with fail
   exact ⟨rfl,HQ2.out _ (((Adv.refl w pb).since HW.out).trans A1.out)⟩
  | ok ts m=>
   have hr3:parse lang l e F (.more true ts) m=some r:=hr2
   have HR3:=Lib.hid hr3
   clear hr2 hr3
   have HZ0:Hid ((w.alloc z39).heap[w.heap.size]?=some z39):=Lib.hid (heap_alloc_new w _)
   unfold z39 at HP HW HZ0
   go_enter Tryz.func167,Tryz.ntmps167
   go_wp2_with fail
   refine (KA.out _ HP.out).mono ?_
   rintro r0 w2 ⟨v,rfl,⟨t,cs,rfl,rfl,ht⟩,hst⟩
   obtain ⟨k0,x0,n0,G0,m0,c0,rfl⟩:=tm_four ht
   have HT:=Lib.hid ht
   have T2:=Lib.hid hst
   have hlt0:Hid (w.heap.size < w2.heap.size):=Lib.hid (Nat.lt_of_lt_of_le (by simp) hst.1.size)
   have HZ1:Hid (w2.heap[w.heap.size]?=some z39):=Lib.hid ((hst.1.block w.heap.size (by simp) (by omega)).trans HZ0.out)
   clear ht hst KA
   go_wp2_with fail
   go_loopg [9] (l.length - m) (fun g o wr=>∃ (n':Nat) (acc:List Tm) (us:List Value) (gb cap:Nat),g=l.length - n'∧acc.length≤n'+1∧acc ≠ []∧o=.slice (some ⟨gb,0,none⟩) acc.length cap∧
    Hid (wr.ownsRow (w.heap.size+1) 39 4 (.slice (some ⟨gb,0,none⟩) acc.length cap) acc.length us)∧
    Hid (TmsAt wr (fun b=>b=pb ∨ b=gb) (w.heap.size+1) acc us)∧Hid (Stay w pb G c l e n' wr)∧Hid (∃ f,f≤F∧parse lang l e f (.more true acc) n'=some r)∧Hid (wr.heap[w.heap.size]?=some z39))
   case atStart=>
    have h1:=TmAt.turn (A':=fun b=>b=pb ∨ b=w2.heap.size) (fun b _ hb h=>h.elim id (fun e=>absurd hb (by omega))) _ _ HT.out
    have hlo:(w.alloc z39).heap.size=w.heap.size+1:=by simp
    unfold z39 at hlo
    rw [hlo] at h1
    have h2:=TmAt.up (w':=w2.alloc (.cells #[.int .u8 (k0:Nat),.string x0,.int .i64 (n0:Nat),.slice G0 m0 c0] 39)) ⟨by simp,fun k _ hk _=>Go.Deep.blk_alloc_lt w2 _ k hk⟩ _ _ h1
    refine ⟨m,[t],[.int .u8 (k0:Nat),.string x0,.int .i64 (n0:Nat),.slice G0 m0 c0],w2.heap.size,1,rfl,by simp,by simp,rfl,Lib.hid ?_,Lib.hid ?_,Lib.hid ⟨((Adv.refl w pb).since HW.out).trans (T2.out.1.since ((World.Since.refl _ _).alloc (Nat.le_refl _) _)),T2.out.2.up ((World.Since.refl _ _).alloc (Nat.le_refl _) _)⟩,Lib.hid ⟨F,Nat.le_refl _,HR3.out⟩,Lib.hid ((Go.Deep.blk_alloc_lt w2 _ w.heap.size hlt0.out).trans HZ1.out)⟩
    ·
     exact World.ownsRow_lit w2 #[.int .u8 (k0:Nat),.string x0,.int .i64 (n0:Nat),.slice G0 m0 c0] 1 (by have:=hlt0.out;omega) (by decide) rfl
    ·
     unfold TmsAt
     exact ⟨_,[],by simp,h2,by unfold TmsAt;rfl⟩
   case round=>
    obtain ⟨n',acc,us,gb,cap,rfl,hacc,hne,rfl,hO,hT,hS,hR,hZ⟩:=hrel
    have hstr:wr.Since wr.heap.size (wr.alloc (.cells #[.string ⟨#[111,114]⟩] 9)):=(World.Since.refl _ _).alloc (Nat.le_refl _) _
    have KT:=Lib.hid (take_says (wr.alloc (.cells #[.string ⟨#[111,114]⟩] 9)) pb c e n' G l (hS.out.2.up hstr) HL.out.full HL.out.len [⟨#[111,114]⟩] wr.heap.size 1 (SsAt.made wr [⟨#[111,114]⟩]) (by simp))
    unfold TakeSay at KT
    rw [anyW_one] at KT
    have HX:=Lib.hid hstr
    have HNE:=Lib.hid hne
    clear hstr hne
    obtain ⟨f,hf,hp⟩:=hR.out
    cases f with
    | zero=>cases hp
    | succ f=>
     have hp2:(if isW l n' ⟨#[111,114]⟩=true then andThen (parse lang l e f (.several false) (n'+1)) (fun ts n1=>parse lang l e f (.more true (acc ++ ts)) n1) else some (Re.ok [if acc.length=1 then acc.headD default else .mk 14 ByteArray.empty 0 acc] n'))=some r:=hp
     by_cases c2:isW l n' ⟨#[111,114]⟩=true
     ·
      rw [if_pos c2] at hp2
      have hn:=isW_lt c2
      rw [c2] at KT
      cases hra:parse lang l e f (.several false) (n'+1) with
      | none=>rw [hra] at hp2;cases hp2
      | some ra=>
       have KA2:=Lib.hid (fun w2 hp=>HAh.out f (by omega) w2 (n'+1) ra hp hra)
       rw [hra] at hp2
       have HG:=Lib.hid (fun ts m2 (h:ra=.ok ts m2)=>parse_ge f (.several false) (n'+1) ts m2 (by rw [hra,h]))
       have HF:=Lib.hid (Nat.le_of_succ_le hf)
       clear c2 hp hf hR hra
       cases ra with
       | bad p=>
        have hr3:some (Re.bad p)=some r:=hp2
        injection hr3 with hr3
        have KA3:Hid (∀ w2,PsAt w2 pb G c l e (n'+1)→Calls Tryz.prog 168 #[.pointer (some ⟨pb,0,none⟩)] w2 fun E w'=>E=.panicked [{ v:=.iface 173 (.agg #[.int .i64 (p:Nat)]),recovered:=false }]∧Adv w2 pb w'):=Lib.hid (fun w2 hp=>KA2.out w2 hp)
        have HQ2:Hid (∀ w',Adv w pb w'→Q (strayE p) w'):=Lib.hid (fun w' h=>by rw [← HQ.out,← hr3];exact ⟨rfl,h⟩)
        clear KA2 hp2 hr3
        go_wp2_with fail
        refine KT.out.mono ?_
        rintro r0 w3 ⟨h1,h2,_⟩
        obtain ⟨rfl,h3⟩:=h2 trivial
        have A3:=Lib.hid h1
        have P3:=Lib.hid h3
        clear h1 h2 h3 KT
        go_wp2_with fail
        refine (KA3.out _ P3.out).mono ?_
        rintro r0 w4 ⟨rfl,ha⟩
        have A4:=Lib.hid ha
        clear ha
        go_wp2_with fail
        exact ⟨rfl,HQ2.out _ (((hS.out.1.since HX.out).trans A3.out).trans A4.out)⟩
       | ok ts m2=>
        have hr3:parse lang l e f (.more true (acc ++ ts)) m2=some r:=hp2
        have KA3:Hid (∀ w2,PsAt w2 pb G c l e (n'+1)→Calls Tryz.prog 168 #[.pointer (some ⟨pb,0,none⟩)] w2 fun E w'=>∃ v,E=.returned v∧TermOf w' (Only pb) w2.heap.size ts v∧Stay w2 pb G c l e m2 w'):=Lib.hid (fun w2 hp=>KA2.out w2 hp)
        have HR4:=Lib.hid hr3
        clear KA2 hp2 hr3
        go_wp2_with fail
        refine KT.out.mono ?_
        rintro r0 w3 ⟨h1,h2,_⟩
        obtain ⟨rfl,h3⟩:=h2 trivial
        have A3:=Lib.hid h1
        have P3:=Lib.hid h3
        clear h1 h2 h3 KT
        go_wp2_with fail
        refine (KA3.out _ P3.out).mono ?_
        rintro r0 w4 ⟨v,rfl,⟨t2,cs,rfl,rfl,ht2⟩,hst⟩
        obtain ⟨k2,x2,n2,G2,m3,c3,rfl⟩:=tm_four ht2
        have HT2:=Lib.hid ht2
        have T4:=Lib.hid hst
        have ha:Adv wr pb w4:=(((Adv.refl wr pb).since HX.out).trans A3.out).trans hst.1
        have hg:=hO.out.lt gb rfl
        have hO4:(w4.alloc (.cells #[.int .u8 (k2:Nat),.string x2,.int .i64 (n2:Nat),.slice G2 m3 c3] 39)).ownsRow (w.heap.size+1) 39 4 (.slice (some ⟨gb,0,none⟩) acc.length cap) acc.length us:=
         own_same hO.out ((Go.Deep.blk_alloc_lt w4 _ gb (Nat.lt_of_lt_of_le hg.2 ha.size)).trans (ha.block gb hg.2 (by have:=hg.1;omega)))
        have hc:∀ j,(w4.alloc (.cells #[.int .u8 (k2:Nat),.string x2,.int .i64 (n2:Nat),.slice G2 m3 c3] 39)).cell? ⟨w4.heap.size,j,none⟩=(#[.int .u8 (k2:Nat),.string x2,.int .i64 (n2:Nat),.slice G2 m3 c3]:Array Value)[j]?:=fun j=>by
         unfold World.cell?
         rw [heap_alloc_new]
         rfl
        obtain ⟨v',w5,a1,a2,a3,a4⟩:=run_append_t _ (w.heap.size+1) 37 _ acc.length us hO4 ⟨w4.heap.size,0,none⟩ 1 k2 x2 n2 G2 m3 c3 (hc 0) (hc 1) (hc 2) (hc 3) (by have:=HL.out.len;omega) (by have:=hS.out.1.size;have:=ha.size;simp;omega)
        have O5:=Lib.hid a2
        have B5:=Lib.hid a3
        have V5:=Lib.hid a4
        have HA4:=Lib.hid ha
        clear ht2 hst hO4 hc a2 a3 a4 ha KA3
        go_wp2_with (refine wpList_append_t rfl (.tmp 24) (.tmp 27) rfl rfl rfl rfl a1 ?_)
        have HM:=Lib.hid (HG.out [t2] m2 rfl)
        obtain ⟨g',cap',hv',hg1,hg2⟩:∃ g' cap',v'=.slice (some ⟨g',0,none⟩) (acc.length+1) cap'∧w.heap.size+1≤g'∧g' < w5.heap.size:=by
         obtain ⟨_,⟨_,e⟩ | ⟨g',cp,cur,e,h2,h3,_⟩⟩:=O5.out
         ·
          omega
         ·
          exact ⟨g',cp,e,h2,(Array.getElem?_eq_some_iff.1 h3).1⟩
        subst hv'
        go_roundg (l.length - m2)
        case measure=>have:=HM.out;omega
        case rel=>
         have hgb:=hO.out.lt gb rfl
         have hsz:wr.heap.size≤w4.heap.size:=HA4.out.size
         have hsz5:w4.heap.size < w5.heap.size:=Nat.lt_of_lt_of_le (by simp) B5.out.size
         have hgv:g'=gb ∨ g'=w4.heap.size+1:=by
          rcases V5.out with h | h
          ·
           left;injection h
          ·
           right;injection h with h;simpa using h
         have hblk:∀ k,k < w4.heap.size→k ≠ gb→w5.heap[k]?=w4.heap[k]?:=fun k hk hne=>(B5.out.block k (by simp;omega) (fun e=>hne (by injection e))).trans (Go.Deep.blk_alloc_lt w4 _ k hk)
         have hA5:Adv w pb w5:=by
          have h1:Adv w pb w4:=hS.out.1.trans HA4.out
          exact ⟨B5.out.os.trans h1.os,B5.out.tape.trans h1.tape,B5.out.output.trans h1.output,by have:=h1.size;omega,fun k hk hne=>(hblk k (Nat.lt_of_lt_of_le hk h1.size) (by have:=hgb.1;omega)).trans (h1.block k hk hne)⟩
         have hw3:wr.heap.size≤w3.heap.size:=Nat.le_trans HX.out.size A3.out.size
         have e1:=TmsAt.turn (A':=fun b=>b=pb ∨ b=gb ∨ b=g') (fun b _ hb h=>by rcases h with h | h | h;exact .inl h;exact .inr h;right;omega) _ _ hT.out
         have e2:=TmsAt.up (w':=w5) ⟨by omega,fun k _ hk hne=>(hblk k (by omega) (fun e=>hne (.inr (.inl e)))).trans (HA4.out.block k hk (fun e=>hne (.inl e)))⟩ _ _ e1
         have e3:=TmsAt.turn (A':=fun b=>b=pb ∨ b=g') (fun b _ _ h=>h.elim .inl (fun h=>.inr (.inr h))) _ _ e2
         have f1:=TmAt.turn (A':=fun b=>b=pb ∨ b=gb ∨ b=g') (fun b hb1 hb h=>by rcases h with h | h | h;exact h;exact absurd hb1 (by omega);exact absurd hb1 (by omega)) _ _ HT2.out
         have f2:=TmAt.up (w':=w5) ⟨by omega,fun k _ hk hne=>hblk k hk (fun e=>hne (.inr (.inl e)))⟩ _ _ f1
         have f3:=TmAt.mono (lo':=w.heap.size+1) (by have:=hgb.1;omega) _ _ (TmAt.turn (A':=fun b=>b=pb ∨ b=g') (fun b _ _ h=>h.elim .inl (fun h=>.inr (.inr h))) _ _ f2)
         have hp5:PsAt w5 pb G c l e m2:=H0.out.via hA5 T4.out.2 (hblk pb T4.out.2.lt (by have:=hgb.1;omega))
         have hz5:w5.heap[w.heap.size]?=some z39:=(hblk w.heap.size (by have:=hgb.1;omega) (by have:=hgb.1;omega)).trans ((HA4.out.block w.heap.size (blk_lt hZ.out) (by omega)).trans hZ.out)
         exact ⟨m2,acc ++ [t2],us ++ [.int .u8 (k2:Nat),.string x2,.int .i64 (n2:Nat),.slice G2 m3 c3],g',cap',rfl,by have:=HM.out;simp;omega,by simp,by simp,Lib.hid (by simpa using O5.out),Lib.hid (tms_snoc _ _ e3 f3),Lib.hid ⟨hA5,hp5⟩,Lib.hid ⟨f,HF.out,HR4.out⟩,Lib.hid hz5⟩
     ·
      rw [if_neg c2] at hp2
      have c3:=Bool.eq_false_iff.2 c2
      rw [c3] at KT
      injection hp2 with hp2
      clear c2 c3 hp hf hR
      go_wp2_with fail
      refine KT.out.mono ?_
      rintro r0 w3 ⟨h1,_,h2⟩
      obtain ⟨rfl,h3⟩:=h2 trivial
      have A3:=Lib.hid h1
      have P3:=Lib.hid h3
      have ha:Adv wr pb w3:=((Adv.refl wr pb).since HX.out).trans h1
      have HA3:=Lib.hid ha
      have hz3:w3.heap[w.heap.size]?=some z39:=(ha.block w.heap.size (blk_lt hZ.out) (by omega)).trans hZ.out
      obtain ⟨q0,q1,q2,q3,q4⟩:=res_facts hz3
      have hpl:pb < w.heap.size+1:=by omega
      match acc,hacc,HNE,hO,hT,hp2 with
      | [],_,hne,_,_,_=>exact absurd rfl hne.out
      | [t1],hacc,_,hO,hT,hp2=>
       obtain ⟨k1,x1,n1,G1,m1,c1,g0,g1,g2,g3,ht1⟩:=own_one (w':=w3) hO.out hT.out hpl ha
       have HT1:=Lib.hid ht1
       have HQ2:Hid (∀ w' v,TermOf w' (Only pb) w.heap.size [t1] v→Stay w pb G c l e n' w'→Q (.returned v) w'):=Lib.hid (fun w' v h1 h2=>by rw [← HQ.out,← hp2];exact ⟨_,rfl,h1,h2⟩)
       clear h1 h2 h3 KT hz3 hp2 ha ht1
       go_wp2_with fail
       refine bodyPost_ret (v:=.agg #[.int .u8 (k1:Nat),.string x1,.int .i64 (n1:Nat),.slice G1 m1 c1]) (by simp [results,Tryz.results167,go_sem,q0,q1,q2,q3]) rfl (HQ2.out _ _ ⟨t1,_,rfl,rfl,?_⟩ (stay4 H0.out ⟨hS.out.1.trans HA3.out,P3.out⟩ (Nat.le_refl _) _ _ _ _))
       exact TmAt.mono (Nat.le_succ _) _ _ (TmAt.up (kept4 (Nat.lt_succ_self _) _ _ _ _) _ _ HT1.out)
      | t1 :: t2 :: r2,hacc,_,hO,hT,hp2=>
       have hrow:=own_row2 (w':=w3) hO.out hT.out hpl ha
       have HRW:=Lib.hid hrow
       have hlen:¬ (((t1 :: t2 :: r2).length:Nat):Int)=1:=by simp;omega
       generalize hL:(t1 :: t2 :: r2).length=LL at *
       have HLL:=Lib.hid hL
       have HQ2:Hid (∀ w' v,TermOf w' (Only pb) w.heap.size [.mk 14 ByteArray.empty 0 (t1 :: t2 :: r2)] v→Stay w pb G c l e n' w'→Q (.returned v) w'):=Lib.hid (fun w' v h1 h2=>by rw [← HQ.out,← hp2,if_neg (by rw [← HLL.out];simp)];exact ⟨_,rfl,h1,h2⟩)
       clear h1 h2 h3 KT hz3 hp2 ha hrow hL
       go_wp2_with fail
       refine bodyPost_ret (v:=.agg #[.int .u8 14,.string ⟨#[]⟩,.int .i64 0,.slice (some ⟨gb,0,none⟩) LL cap]) (by simp [results,Tryz.results167,go_sem,q0,q1,q2,q3]) rfl (HQ2.out _ _ ?_ (stay4 H0.out ⟨hS.out.1.trans HA3.out,P3.out⟩ (Nat.le_refl _) _ _ _ _))
       exact node_at 14 _ 0 (RowOf.mono (RowOf.up HRW.out (kept4 (Nat.lt_succ_self _) _ _ _ _)) (Nat.le_succ _))
theorem formula_says (pb c e F:Nat) (G:Option Addr) (l:List Wd) (hl:WsOk l) (HA:PartC pb c e G l F 168 (.several false)) (w:World) (n:Nat) (r:Re) (h:PsAt w pb G c l e n) (hr:parse lang l e (F+1) (.several true) n=some r):
  Calls Tryz.prog 91 #[.pointer (some ⟨pb,0,none⟩)] w (Says TermOf w pb G c l e r):=by
 have hw0:=(World.Since.refl w.heap.size w).alloc (Nat.le_refl _) z39
 have hpb:=h.lt
 have KS:=Lib.hid (several_conj pb c e F G l hl HA (w.alloc z39) n r (h.up hw0) hr)
 have H0:=Lib.hid h
 have HW:=Lib.hid hw0
 have HZ0:Hid ((w.alloc z39).heap[w.heap.size]?=some z39):=Lib.hid (heap_alloc_new w _)
 generalize hQ:Says TermOf w pb G c l e r=Q at *
 have HQ:=Lib.hid hQ
 clear hQ hw0 h hr hl HA
 cases r with
 | bad p=>
  have KS2:Hid (Calls Tryz.prog 167 #[.pointer (some ⟨pb,0,none⟩),.int .u8 14,.string ⟨#[111,114]⟩,.func (.func 168) #[.pointer (some ⟨pb,0,none⟩)] #[]] (w.alloc z39) fun E w'=>E=.panicked [{ v:=.iface 173 (.agg #[.int .i64 (p:Nat)]),recovered:=false }]∧Adv (w.alloc z39) pb w'):=Lib.hid KS.out
  have HQ2:Hid (∀ w',Adv w pb w'→Q (strayE p) w'):=Lib.hid (fun w' h=>by rw [← HQ.out];exact ⟨rfl,h⟩)
  unfold z39 at KS2 HW
  clear KS
  go_enter Tryz.func91,Tryz.ntmps91
  go_wp2_with fail
  refine KS2.out.mono ?_
  rintro r0 w1 ⟨rfl,ha⟩
  have A1:=Lib.hid ha
  clear ha
  go_wp2_with fail
  exact ⟨rfl,HQ2.out _ (((Adv.refl w pb).since HW.out).trans A1.out)⟩
 | ok ts m=>
  have KS2:Hid (Calls Tryz.prog 167 #[.pointer (some ⟨pb,0,none⟩),.int .u8 14,.string ⟨#[111,114]⟩,.func (.func 168) #[.pointer (some ⟨pb,0,none⟩)] #[]] (w.alloc z39) fun E w'=>∃ v,E=.returned v∧TermOf w' (Only pb) (w.heap.size+1) ts v∧Stay (w.alloc z39) pb G c l e m w'):=Lib.hid (KS.out.mono fun E w' h=>by
   obtain ⟨v,h1,h2,h3⟩:=h
   rw [show (w.alloc z39).heap.size=w.heap.size+1 by simp] at h2
   exact ⟨v,h1,h2,h3⟩)
  have HQ2:Hid (∀ w' v,TermOf w' (Only pb) w.heap.size ts v→Stay w pb G c l e m w'→Q (.returned v) w'):=Lib.hid (fun w' v h1 h2=>by rw [← HQ.out];exact ⟨_,rfl,h1,h2⟩)
  unfold z39 at KS2 HW HZ0
  clear KS
  go_enter Tryz.func91,Tryz.ntmps91
  go_wp2_with fail
  refine KS2.out.mono ?_
  rintro r0 w1 ⟨v,rfl,⟨t,cs,rfl,rfl,ht⟩,hst⟩
  obtain ⟨k1,x1,n1,G1,m1,c1,rfl⟩:=tm_four ht
  have HT1:=Lib.hid ht
  have T1:=Lib.hid hst
  have hz1:w1.heap[w.heap.size]?=some z39:=(hst.1.block w.heap.size (by simp) (by omega)).trans HZ0.out
  obtain ⟨q0,q1,q2,q3,q4⟩:=res_facts hz1
  clear ht hst hz1
  go_wp2_with fail
  refine bodyPost_ret (v:=.agg #[.int .u8 (k1:Nat),.string x1,.int .i64 (n1:Nat),.slice G1 m1 c1]) (by simp [results,Tryz.results91,go_sem,q0,q1,q2,q3]) rfl (HQ2.out _ _ ⟨t,_,rfl,rfl,?_⟩ (stay4 H0.out ⟨((Adv.refl w pb).since HW.out).trans T1.out.1,T1.out.2⟩ (Nat.le_refl _) _ _ _ _))
  exact TmAt.mono (Nat.le_succ _) _ _ (TmAt.up (kept4 (Nat.lt_succ_self _) _ _ _ _) _ _ HT1.out)
end Go.Proofs.YthbdlnflmfchjaaGreatDoor
