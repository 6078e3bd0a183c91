/- The parser of formulas: product walked. -/
import Derived.Test.YthbdlnflmfchjaaGreatDoorZ8
namespace Go.Proofs.YthbdlnflmfchjaaGreatDoor
open Go.RowKit Go.Proofs.Fm Go.Proofs.MapEnt
set_option maxHeartbeats 3200000
set_option maxRecDepth 1000000
def PartC (pb c e:Nat) (G:Option Addr) (l:List Wd) (F fn:Nat) (g:Gl):Prop:=
 ∀ f,f≤F→∀ w n r,PsAt w pb G c l e n→parse lang l e f g n=some r→Calls Tryz.prog fn #[.pointer (some ⟨pb,0,none⟩)] w (Says TermOf w pb G c l e r)
theorem tm_four {w:World} {A:Nat→Prop} {lo:Nat} {t:Tm} {cs:List Value} (h:TmAt w A lo t cs):∃ (k:Nat) (x:ByteArray) (n:Nat) (G:Option Addr) (m c:Nat),cs=[.int .u8 (k:Nat),.string x,.int .i64 (n:Nat),.slice G m c]:=by
 cases t
 unfold TmAt at h
 obtain ⟨G,c,us,h1,_⟩:=h
 exact ⟨_,_,_,_,_,_,h1⟩
theorem cells4 {W:World} {B:Nat} {a b c d:Value} (hb:W.heap[B]?=some (.cells #[a,b,c,d] 39)):W.cell? ⟨B,0,none⟩=some a∧W.cell? ⟨B,1,none⟩=some b∧W.cell? ⟨B,2,none⟩=some c∧W.cell? ⟨B,3,none⟩=some d∧∀ j,W.frozen? ⟨B,j,none⟩=false:=by
 refine ⟨?_,?_,?_,?_,fun j=>?_⟩
 ·
  unfold World.cell?;rw [hb];rfl
 ·
  unfold World.cell?;rw [hb];rfl
 ·
  unfold World.cell?;rw [hb];rfl
 ·
  unfold World.cell?;rw [hb];rfl
 ·
  unfold World.frozen?;rw [hb];simp
theorem set4_blk {W:World} {B:Nat} {a b c d:Value} (hb:W.heap[B]?=some (.cells #[a,b,c,d] 39)) (v0 v1 v2 v3:Value):
  ((((W.setCell ⟨B,0,none⟩ v0).setCell ⟨B,1,none⟩ v1).setCell ⟨B,2,none⟩ v2).setCell ⟨B,3,none⟩ v3).heap[B]?=some (.cells #[v0,v1,v2,v3] 39):=by
 simp [World.setCell,Array.getElem?_modify,hb]
theorem set4_other {W:World} {B k:Nat} (hk:k ≠ B) (v0 v1 v2 v3:Value):
  ((((W.setCell ⟨B,0,none⟩ v0).setCell ⟨B,1,none⟩ v1).setCell ⟨B,2,none⟩ v2).setCell ⟨B,3,none⟩ v3).heap[k]?=W.heap[k]?:=by
 rw [Go.Deep.blk_setCell_other _ _ _ _ hk,Go.Deep.blk_setCell_other _ _ _ _ hk,Go.Deep.blk_setCell_other _ _ _ _ hk,Go.Deep.blk_setCell_other _ _ _ _ hk]
theorem set4_size (W:World) (B:Nat) (v0 v1 v2 v3:Value):
  ((((W.setCell ⟨B,0,none⟩ v0).setCell ⟨B,1,none⟩ v1).setCell ⟨B,2,none⟩ v2).setCell ⟨B,3,none⟩ v3).heap.size=W.heap.size:=by simp
theorem two_at {W:World} {A:Nat→Prop} {lo B:Nat} {t t2:Tm} {c1 c2:List Value} (h1:TmAt W A lo t c1) (h2:TmAt W A lo t2 c2) (hA:A B) (hn:¬ A W.heap.size) (hlo:lo≤W.heap.size) (k:Nat) (x:ByteArray) (n:Nat) (v0 v1 v2 v3:Value):
  TmAt (((((W.setCell ⟨B,0,none⟩ v0).setCell ⟨B,1,none⟩ v1).setCell ⟨B,2,none⟩ v2).setCell ⟨B,3,none⟩ v3).alloc (.cells (c1 ++ c2).toArray 39)) A lo (.mk k x n [t,t2]) [.int .u8 (k:Nat),.string x,.int .i64 (n:Nat),.slice (some ⟨W.heap.size,0,none⟩) 2 2]:=by
 have hk:Kept W A lo (((((W.setCell ⟨B,0,none⟩ v0).setCell ⟨B,1,none⟩ v1).setCell ⟨B,2,none⟩ v2).setCell ⟨B,3,none⟩ v3).alloc (.cells (c1 ++ c2).toArray 39)):=
  ⟨by simp,fun k _ hk hne=>(Go.Deep.blk_alloc_lt _ _ k (by rw [set4_size];exact hk)).trans (set4_other (k:=k) (B:=B) (by rintro rfl;exact hne hA) _ _ _ _)⟩
 unfold TmAt
 refine ⟨_,_,c1 ++ c2,rfl,.inr ⟨W.heap.size,rfl,hn,hlo,by simp,fun i hi=>?_⟩,?_⟩
 ·
  have h:=heap_alloc_new ((((W.setCell ⟨B,0,none⟩ v0).setCell ⟨B,1,none⟩ v1).setCell ⟨B,2,none⟩ v2).setCell ⟨B,3,none⟩ v3) (.cells (c1 ++ c2).toArray 39)
  rw [set4_size] at h
  unfold World.cell?
  rw [h]
  simp [List.getElem?_eq_getElem hi]
 ·
  unfold TmsAt
  refine ⟨c1,c2,rfl,TmAt.up hk _ _ h1,?_⟩
  unfold TmsAt
  exact ⟨c2,[],by simp,TmAt.up hk _ _ h2,by unfold TmsAt;rfl⟩
theorem blk_lt {W:World} {B:Nat} {o:Obj} (h:W.heap[B]?=some o):B < W.heap.size:=(Array.getElem?_eq_some_iff.1 h).1
theorem product_says (pb c e F:Nat) (G:Option Addr) (l:List Wd) (hl:WsOk l) (HA:PartC pb c e G l F 345 .atom) (w:World) (n:Nat) (r:Re) (h:PsAt w pb G c l e n) (hr:parse lang l e (F+1) .product n=some r):
  Calls Tryz.prog 321 #[.pointer (some ⟨pb,0,none⟩)] w (Says TermOf w pb G c l e r):=by
 have hr2:andThen (parse lang l e F .atom n) (fun ts n1=>parse lang l e F (.moreProduct (ts.headD default)) n1)=some r:=hr
 clear hr
 have hpb:=h.lt
 have hw0:=(World.Since.refl w.heap.size w).alloc (Nat.le_refl _) z39
 have HP:=Lib.hid (h.up hw0)
 have H0:=Lib.hid h
 have HW:=Lib.hid hw0
 have HL:=Lib.hid hl
 have HAh:=Lib.hid HA
 clear hw0 h hl HA
 cases hra:parse lang l e F .atom n with
 | none=>rw [hra] at hr2;cases hr2
 | some ra=>
  rw [hra] at hr2
  have KA:=Lib.hid (fun w2 hp=>HAh.out F (Nat.le_refl _) w2 n ra hp hra)
  generalize hQ:Says TermOf w pb G c l e r=Q at *
  have HQ:=Lib.hid hQ
  clear hQ hra
  cases ra with
  | bad p=>
   have hr3:some (Re.bad p)=some r:=hr2
   injection hr3 with hr3
   have KA2:Hid (∀ w2,PsAt w2 pb G c l e n→Calls Tryz.prog 345 #[.pointer (some ⟨pb,0,none⟩)] w2 fun E w'=>E=.panicked [{ v:=.iface 173 (.agg #[.int .i64 (p:Nat)]),recovered:=false }]∧Adv w2 pb w'):=Lib.hid (fun w2 hp=>KA.out w2 hp)
   have HQ2:Hid (∀ w',Adv w pb w'→Q (strayE p) w'):=Lib.hid (fun w' h=>by rw [← HQ.out,← hr3];exact ⟨rfl,h⟩)
   unfold z39 at HP HW
   clear hr2 hr3 KA
   go_enter Tryz.func321,Tryz.ntmps321
   go_wp2_with fail
   refine (KA2.out _ HP.out).mono ?_
   rintro r0 w1 ⟨rfl,ha⟩
   have A1:=Lib.hid ha
   clear ha
   go_wp2_with fail
   exact ⟨rfl,HQ2.out _ (((Adv.refl w pb).since HW.out).trans A1.out)⟩
  | ok ts m=>
   have hr3:parse lang l e F (.moreProduct (ts.headD default)) m=some r:=hr2
   have HR3:=Lib.hid hr3
   clear hr2 hr3
   unfold z39 at HP HW
   go_enter Tryz.func321,Tryz.ntmps321
   go_wp2_with fail
   refine (KA.out _ HP.out).mono ?_
   rintro r0 w1 ⟨v,rfl,⟨t,cs,rfl,rfl,ht⟩,hst⟩
   obtain ⟨k0,x0,n0,G0,m0,c0,rfl⟩:=tm_four ht
   have HT:=Lib.hid ht
   have T1:=Lib.hid hst
   dsimp only [List.headD_cons] at HR3
   have HB1:Hid (w1.heap[w.heap.size]?=some z39):=Lib.hid ((hst.1.block w.heap.size (by simp) (by omega)).trans (heap_alloc_new w _))
   have hlt0:Hid (w.heap.size < w1.heap.size):=Lib.hid (Nat.lt_of_lt_of_le (by simp) hst.1.size)
   clear ht hst KA
   go_wp2_with fail
   go_loopg [] (l.length - m) (fun g wr=>∃ (n':Nat) (t:Tm) (k:Nat) (x:ByteArray) (nn:Nat) (G':Option Addr) (m' c':Nat),g=l.length - n'∧
    Hid (wr.heap[w1.heap.size]?=some (.cells #[.int .u8 (k:Nat),.string x,.int .i64 (nn:Nat),.slice G' m' c'] 39))∧
    Hid (TmAt wr (fun b=>b=pb ∨ b=w1.heap.size) (w.heap.size+1) t [.int .u8 (k:Nat),.string x,.int .i64 (nn:Nat),.slice G' m' c'])∧
    Hid (Stay w pb G c l e n' wr)∧Hid (∃ f,f≤F∧parse lang l e f (.moreProduct t) n'=some r)∧Hid (wr.heap[w.heap.size]?=some z39))
   case atStart=>
    refine ⟨m,t,k0,x0,n0,G0,m0,c0,rfl,Lib.hid (heap_alloc_new w1 _),Lib.hid ?_,Lib.hid ⟨((Adv.refl w pb).since HW.out).trans (T1.out.1.since ((World.Since.refl _ _).alloc (Nat.le_refl _) _)),T1.out.2.up ((World.Since.refl _ _).alloc (Nat.le_refl _) _)⟩,Lib.hid ⟨F,Nat.le_refl _,HR3.out⟩,Lib.hid ((Go.Deep.blk_alloc_lt w1 _ w.heap.size hlt0.out).trans HB1.out)⟩
    have h1:=TmAt.turn (A':=fun b=>b=pb ∨ b=w1.heap.size) (fun b _ hb h=>h.elim id (fun e=>absurd hb (by omega))) _ _ HT.out
    refine TmAt.up ⟨by simp,fun k _ hk _=>Go.Deep.blk_alloc_lt w1 _ k hk⟩ _ _ (TmAt.mono (by simp) _ _ h1)
   case round=>
    obtain ⟨n',t,k,x,nn,G',m',c',rfl,hB,hT,hS,hR,hZ⟩:=hrel
    have hstr:wr.Since wr.heap.size (wr.alloc (.cells #[.string ⟨#[42]⟩] 9)):=(World.Since.refl _ _).alloc (Nat.le_refl _) _
    have KT:=Lib.hid (take_says (wr.alloc (.cells #[.string ⟨#[42]⟩] 9)) pb c e n' G l (hS.out.2.up hstr) HL.out.full HL.out.len [⟨#[42]⟩] wr.heap.size 1 (SsAt.made wr [⟨#[42]⟩]) (by simp))
    unfold TakeSay at KT
    rw [anyW_one] at KT
    have HX:=Lib.hid hstr
    clear hstr
    obtain ⟨f,hf,hp⟩:=hR.out
    cases f with
    | zero=>cases hp
    | succ f=>
     have hp2:Fm.step lang l e (parse lang l e f) (.moreProduct t) n'=some r:=hp
     rw [Fm.step] at hp2
     by_cases c1:isW l n' sStar=true
     ·
      rw [if_pos c1] at hp2
      have hn:=isW_lt c1
      have c2:isW l n' ⟨#[42]⟩=true:=c1
      rw [c2] at KT
      cases hra:parse lang l e f .atom (n'+1) with
      | none=>rw [hra] at hp2;cases hp2
      | some ra=>
       have KA2:=Lib.hid (fun w2 hp=>HAh.out f (by omega) w2 (n'+1) ra hp hra)
       rw [hra] at hp2
       have HG:=Lib.hid (fun ts m2 (h:ra=.ok ts m2)=>parse_ge f .atom (n'+1) ts m2 (by rw [hra,h]))
       have HF:=Lib.hid (Nat.le_of_succ_le hf)
       clear c1 c2 hp hf hR hra
       cases ra with
       | bad p=>
        have hr3:some (Re.bad p)=some r:=hp2
        injection hr3 with hr3
        have KA3:Hid (∀ w2,PsAt w2 pb G c l e (n'+1)→Calls Tryz.prog 345 #[.pointer (some ⟨pb,0,none⟩)] w2 fun E w'=>E=.panicked [{ v:=.iface 173 (.agg #[.int .i64 (p:Nat)]),recovered:=false }]∧Adv w2 pb w'):=Lib.hid (fun w2 hp=>KA2.out w2 hp)
        have HQ2:Hid (∀ w',Adv w pb w'→Q (strayE p) w'):=Lib.hid (fun w' h=>by rw [← HQ.out,← hr3];exact ⟨rfl,h⟩)
        clear KA2 hp2 hr3
        go_wp2_with fail
        refine KT.out.mono ?_
        rintro r0 w2 ⟨h1,h2,_⟩
        obtain ⟨rfl,h3⟩:=h2 trivial
        have A2:=Lib.hid h1
        have P2:=Lib.hid h3
        have hbt:w2.heap[w1.heap.size]?=_:=((h1.block w1.heap.size (Nat.lt_of_lt_of_le (blk_lt hB.out) HX.out.size) (by have:=hlt0.out;omega)).trans (HX.out.block _ (blk_lt hB.out))).trans hB.out
        obtain ⟨p0,p1,p2,p3,-⟩:=cells4 hbt
        clear h1 h2 h3 KT hbt
        go_wp2_with fail
        have d0:w2.drew.cell? ⟨w1.heap.size,0,none⟩=_:=p0
        have d1:w2.drew.cell? ⟨w1.heap.size,1,none⟩=_:=p1
        have d2:w2.drew.cell? ⟨w1.heap.size,2,none⟩=_:=p2
        have d3:w2.drew.cell? ⟨w1.heap.size,3,none⟩=_:=p3
        go_region_dies
        all_goals
         refine (KA3.out _ (P2.out.up (World.Since.refl _ _).drew)).mono ?_
         rintro r0 w3 ⟨rfl,ha⟩
         exact ⟨rfl,HQ2.out _ (((hS.out.1.since HX.out).trans A2.out).trans (((Adv.refl w2 pb).since (World.Since.refl _ _).drew).trans ha))⟩
       | ok ts m2=>
        have hr3:parse lang l e f (.moreProduct (.mk 9 ByteArray.empty 0 (t :: ts))) m2=some r:=hp2
        have KA3:Hid (∀ w2,PsAt w2 pb G c l e (n'+1)→Calls Tryz.prog 345 #[.pointer (some ⟨pb,0,none⟩)] w2 fun E w'=>∃ v,E=.returned v∧TermOf w' (Only pb) w2.heap.size ts v∧Stay w2 pb G c l e m2 w'):=Lib.hid (fun w2 hp=>KA2.out w2 hp)
        have HR3:=Lib.hid hr3
        clear KA2 hp2 hr3
        go_wp2_with fail
        refine KT.out.mono ?_
        rintro r0 w2 ⟨h1,h2,_⟩
        obtain ⟨rfl,h3⟩:=h2 trivial
        have A2:=Lib.hid h1
        have P2:=Lib.hid h3
        have hbt:w2.heap[w1.heap.size]?=_:=((h1.block w1.heap.size (Nat.lt_of_lt_of_le (blk_lt hB.out) HX.out.size) (by have:=hlt0.out;omega)).trans (HX.out.block _ (blk_lt hB.out))).trans hB.out
        have hbz:w2.heap[w.heap.size]?=some z39:=((h1.block w.heap.size (Nat.lt_of_lt_of_le (blk_lt hZ.out) HX.out.size) (by omega)).trans (HX.out.block _ (blk_lt hZ.out))).trans hZ.out
        obtain ⟨p0,p1,p2,p3,-⟩:=cells4 hbt
        have HBT:=Lib.hid hbt
        have HBZ:=Lib.hid hbz
        clear h1 h2 h3 KT hbt hbz
        go_wp2_with fail
        have d0:w2.drew.cell? ⟨w1.heap.size,0,none⟩=_:=p0
        have d1:w2.drew.cell? ⟨w1.heap.size,1,none⟩=_:=p1
        have d2:w2.drew.cell? ⟨w1.heap.size,2,none⟩=_:=p2
        have d3:w2.drew.cell? ⟨w1.heap.size,3,none⟩=_:=p3
        go_region_with (first
         | (
          go_at_call 345;refine (KA3.out _ (P2.out.up (World.Since.refl _ _).drew)).mono ?_;rintro r0 w3 ⟨v,rfl,⟨t2,cs,hts,rfl,ht2⟩,hst⟩;
          obtain ⟨k2,x2,n2,G2,m3,c3,rfl⟩:=tm_four ht2;
          have HT2:=Lib.hid ht2;have T3:=Lib.hid hst;have HTS:=Lib.hid hts;
          have hb3:w3.heap[w1.heap.size]?=_:=(hst.1.block w1.heap.size (blk_lt HBT.out) (by have:=hlt0.out;omega)).trans HBT.out;
          have hbl:=blk_lt hb3;
          have HB3:=Lib.hid hb3;
          obtain ⟨s0,s1,s2,s3,s4⟩:=cells4 hb3;
          have e0:∀ o,(w3.alloc o).cell? ⟨w1.heap.size,0,none⟩=_:=fun o=>(World.cell?_alloc_lt w3 o _ hbl).trans s0;
          have e1:∀ o,(w3.alloc o).cell? ⟨w1.heap.size,1,none⟩=_:=fun o=>(World.cell?_alloc_lt w3 o _ hbl).trans s1;
          have e2:∀ o,(w3.alloc o).cell? ⟨w1.heap.size,2,none⟩=_:=fun o=>(World.cell?_alloc_lt w3 o _ hbl).trans s2;
          have e3:∀ o,(w3.alloc o).cell? ⟨w1.heap.size,3,none⟩=_:=fun o=>(World.cell?_alloc_lt w3 o _ hbl).trans s3;
          have e4:∀ o j,(w3.alloc o).frozen? ⟨w1.heap.size,j,none⟩=false:=fun o j=>(World.frozen?_of_block (Go.Deep.blk_alloc_lt w3 o w1.heap.size hbl)).trans (s4 j);
          clear hts ht2 hst hb3))
        all_goals
         have HM:=Lib.hid (HG.out ts m2 rfl)
         have HTS2:=HTS.out
         subst HTS2
         go_wp2_with fail
         go_roundg (l.length - m2)
         case measure=>have:=HM.out;omega
         case rel=>
          have hw2:w1.heap.size < w2.heap.size:=blk_lt HBT.out
          have hw3:w2.heap.size≤w3.heap.size:=T3.out.1.size
          have ha3:Adv w pb w3:=((hS.out.1.since HX.out).trans A2.out).trans (((Adv.refl w2 pb).since (World.Since.refl _ _).drew).trans T3.out.1)
          have hT3:=TmAt.up (w':=w3) ⟨Nat.le_trans (Nat.le_trans HX.out.size A2.out.size) hw3,fun kk _ hk hne=>((T3.out.1.block kk (Nat.lt_of_lt_of_le hk (Nat.le_trans HX.out.size A2.out.size)) (fun e=>hne (.inl e))).trans (A2.out.block kk (Nat.lt_of_lt_of_le hk HX.out.size) (fun e=>hne (.inl e)))).trans (HX.out.block kk hk)⟩ _ _ hT.out
          have hT4:=TmAt.mono (lo':=w.heap.size+1) (by have:=hlt0.out;have:w2.drew.heap.size=w2.heap.size:=rfl;omega) _ _ (TmAt.turn (A':=fun b=>b=pb ∨ b=w1.heap.size) (fun b hb1 hb h=>h.elim id (fun e=>absurd hb1 (by have:w2.drew.heap.size=w2.heap.size:=rfl;omega))) _ _ HT2.out)
          have hst:=stay4 H0.out (⟨ha3,T3.out.2⟩:Stay w pb G c l e m2 w3) (B:=w1.heap.size) (Nat.le_of_lt hlt0.out) (.int .u8 9) (.string ⟨#[]⟩) (.int .i64 0) (.slice (some ⟨w3.heap.size,0,none⟩) 2 2)
          refine ⟨m2,.mk 9 ByteArray.empty 0 [t,t2],9,ByteArray.empty,0,some ⟨w3.heap.size,0,none⟩,2,2,rfl,Lib.hid ?_,Lib.hid ?_,Lib.hid ⟨hst.1.since ((World.Since.refl _ _).alloc (Nat.le_refl _) _),hst.2.up ((World.Since.refl _ _).alloc (Nat.le_refl _) _)⟩,Lib.hid ⟨f,HF.out,HR3.out⟩,Lib.hid ?_⟩
          ·
           exact (Go.Deep.blk_alloc_lt _ _ _ (by rw [set4_size];exact blk_lt HB3.out)).trans (set4_blk HB3.out _ _ _ _)
          ·
           exact two_at hT3 hT4 (.inr rfl) (fun h=>by have:=hlt0.out;rcases h with h | h <;> omega) (by have:=hlt0.out;omega) 9 _ 0 _ _ _ _
          ·
           exact (Go.Deep.blk_alloc_lt _ _ _ (by rw [set4_size];have:=hlt0.out;omega)).trans ((set4_other (by have:=hlt0.out;omega) _ _ _ _).trans ((T3.out.1.block w.heap.size (by have:=hlt0.out;have:w2.drew.heap.size=w2.heap.size:=rfl;omega) (by omega)).trans HBZ.out))
     ·
      rw [if_neg c1] at hp2
      have c2:isW l n' ⟨#[42]⟩=false:=Bool.eq_false_iff.2 c1
      rw [c2] at KT
      injection hp2 with hp2
      clear c1 c2 hp hf hR
      go_wp2_with fail
      refine KT.out.mono ?_
      rintro r0 w2 ⟨h1,_,h2⟩
      obtain ⟨rfl,h3⟩:=h2 trivial
      have A2:=Lib.hid h1
      have P2:=Lib.hid h3
      have hbt:w2.heap[w1.heap.size]?=_:=((h1.block w1.heap.size (Nat.lt_of_lt_of_le (blk_lt hB.out) HX.out.size) (by have:=hlt0.out;omega)).trans (HX.out.block _ (blk_lt hB.out))).trans hB.out
      have hbz:w2.heap[w.heap.size]?=some z39:=((h1.block w.heap.size (Nat.lt_of_lt_of_le (blk_lt hZ.out) HX.out.size) (by omega)).trans (HX.out.block _ (blk_lt hZ.out))).trans hZ.out
      obtain ⟨p0,p1,p2,p3,-⟩:=cells4 hbt
      obtain ⟨q0,q1,q2,q3,q4⟩:=res_facts hbz
      have HQ2:Hid (∀ w',TermOf w' (Only pb) w.heap.size [t] (.agg #[.int .u8 (k:Nat),.string x,.int .i64 (nn:Nat),.slice G' m' c'])→Stay w pb G c l e n' w'→Q (.returned (.agg #[.int .u8 (k:Nat),.string x,.int .i64 (nn:Nat),.slice G' m' c'])) w'):=Lib.hid (fun w' h1 h2=>by rw [← HQ.out,← hp2];exact ⟨_,rfl,h1,h2⟩)
      have HWR:=Lib.hid (And.intro (blk_lt hB.out) (blk_lt hZ.out))
      clear h1 h2 h3 KT hbt hbz hp2
      go_wp2_with fail
      refine bodyPost_ret (v:=.agg #[.int .u8 (k:Nat),.string x,.int .i64 (nn:Nat),.slice G' m' c']) (by simp [results,Tryz.results321,go_sem,q0,q1,q2,q3]) rfl (HQ2.out _ ⟨t,_,rfl,rfl,?_⟩ (stay4 H0.out ⟨(hS.out.1.since HX.out).trans A2.out,P2.out⟩ (Nat.le_refl _) _ _ _ _))
      have t1:=TmAt.up (w':=w2) ⟨Nat.le_trans HX.out.size A2.out.size,fun kk _ hk hne=>(A2.out.block kk (Nat.lt_of_lt_of_le hk HX.out.size) (fun e=>hne (.inl e))).trans (HX.out.block kk hk)⟩ _ _ hT.out
      have t2:=TmAt.turn (A':=Only pb) (fun b _ hb h=>.inl h) _ _ t1
      exact TmAt.mono (Nat.le_succ _) _ _ (TmAt.up (kept4 (Nat.lt_succ_self _) _ _ _ _) _ _ t2)
end Go.Proofs.YthbdlnflmfchjaaGreatDoor
namespace Go.Proofs.YthbdlnflmfchjaaGreatDoor
open Go.RowKit Go.Proofs.Fm Go.Proofs.MapEnt
set_option maxHeartbeats 3200000
set_option maxRecDepth 1000000
theorem anyW_two (l:List Wd) (n:Nat) (s s2:ByteArray):anyW l n [s,s2]=(isW l n s || isW l n s2):=by unfold anyW;simp
theorem isW_next {l:List Wd} {n:Nat} {s:ByteArray} (h:isW l n s=true):nextS l n=s:=by
 unfold isW at h
 unfold nextS
 cases hx:l[n]? with
 | none=>rw [hx] at h;cases h
 | some x=>
  rw [hx] at h
  obtain ⟨k,t,p⟩:=x
  simp only [Bool.and_eq_true,Bool.or_eq_true,decide_eq_true_eq] at h
  obtain ⟨h1,rfl⟩:=h
  rcases h1 with rfl | rfl
  ·
   rfl
  ·
   rfl
theorem term_says (pb c e F:Nat) (G:Option Addr) (l:List Wd) (hl:WsOk l) (HA:PartC pb c e G l F 321 .product) (w:World) (n:Nat) (r:Re) (h:PsAt w pb G c l e n) (hr:parse lang l e (F+1) .term n=some r):
  Calls Tryz.prog 277 #[.pointer (some ⟨pb,0,none⟩)] w (Says TermOf w pb G c l e r):=by
 have hr2:andThen (parse lang l e F .product n) (fun ts n1=>parse lang l e F (.moreTerm (ts.headD default)) n1)=some r:=hr
 clear hr
 have hpb:=h.lt
 have hw0:=(World.Since.refl w.heap.size w).alloc (Nat.le_refl _) z39
 have HP:=Lib.hid (h.up hw0)
 have H0:=Lib.hid h
 have HW:=Lib.hid hw0
 have HL:=Lib.hid hl
 have HAh:=Lib.hid HA
 clear hw0 h hl HA
 cases hra:parse lang l e F .product n with
 | none=>rw [hra] at hr2;cases hr2
 | some ra=>
  rw [hra] at hr2
  have KA:=Lib.hid (fun w2 hp=>HAh.out F (Nat.le_refl _) w2 n ra hp hra)
  generalize hQ:Says TermOf w pb G c l e r=Q at *
  have HQ:=Lib.hid hQ
  clear hQ hra
  cases ra with
  | bad p=>
   have hr3:some (Re.bad p)=some r:=hr2
   injection hr3 with hr3
   have KA2:Hid (∀ w2,PsAt w2 pb G c l e n→Calls Tryz.prog 321 #[.pointer (some ⟨pb,0,none⟩)] w2 fun E w'=>E=.panicked [{ v:=.iface 173 (.agg #[.int .i64 (p:Nat)]),recovered:=false }]∧Adv w2 pb w'):=Lib.hid (fun w2 hp=>KA.out w2 hp)
   have HQ2:Hid (∀ w',Adv w pb w'→Q (strayE p) w'):=Lib.hid (fun w' h=>by rw [← HQ.out,← hr3];exact ⟨rfl,h⟩)
   unfold z39 at HP HW
   clear hr2 hr3 KA
   go_enter Tryz.func277,Tryz.ntmps277
   go_wp2_with fail
   refine (KA2.out _ HP.out).mono ?_
   rintro r0 w1 ⟨rfl,ha⟩
   have A1:=Lib.hid ha
   clear ha
   go_wp2_with fail
   exact ⟨rfl,HQ2.out _ (((Adv.refl w pb).since HW.out).trans A1.out)⟩
  | ok ts m=>
   have hr3:parse lang l e F (.moreTerm (ts.headD default)) m=some r:=hr2
   have HR3:=Lib.hid hr3
   clear hr2 hr3
   unfold z39 at HP HW
   go_enter Tryz.func277,Tryz.ntmps277
   go_wp2_with fail
   refine (KA.out _ HP.out).mono ?_
   rintro r0 w1 ⟨v,rfl,⟨t,cs,rfl,rfl,ht⟩,hst⟩
   obtain ⟨k0,x0,n0,G0,m0,c0,rfl⟩:=tm_four ht
   have HT:=Lib.hid ht
   have T1:=Lib.hid hst
   dsimp only [List.headD_cons] at HR3
   have HB1:Hid (w1.heap[w.heap.size]?=some z39):=Lib.hid ((hst.1.block w.heap.size (by simp) (by omega)).trans (heap_alloc_new w _))
   have hlt0:Hid (w.heap.size < w1.heap.size):=Lib.hid (Nat.lt_of_lt_of_le (by simp) hst.1.size)
   clear ht hst KA
   go_wp2_with fail
   go_loopg [] (l.length - m) (fun g wr=>∃ (n':Nat) (t:Tm) (k:Nat) (x:ByteArray) (nn:Nat) (G':Option Addr) (m' c':Nat),g=l.length - n'∧
    Hid (wr.heap[w1.heap.size]?=some (.cells #[.int .u8 (k:Nat),.string x,.int .i64 (nn:Nat),.slice G' m' c'] 39))∧
    Hid (TmAt wr (fun b=>b=pb ∨ b=w1.heap.size) (w.heap.size+1) t [.int .u8 (k:Nat),.string x,.int .i64 (nn:Nat),.slice G' m' c'])∧
    Hid (Stay w pb G c l e n' wr)∧Hid (∃ f,f≤F∧parse lang l e f (.moreTerm t) n'=some r)∧Hid (wr.heap[w.heap.size]?=some z39))
   case atStart=>
    refine ⟨m,t,k0,x0,n0,G0,m0,c0,rfl,Lib.hid (heap_alloc_new w1 _),Lib.hid ?_,Lib.hid ⟨((Adv.refl w pb).since HW.out).trans (T1.out.1.since ((World.Since.refl _ _).alloc (Nat.le_refl _) _)),T1.out.2.up ((World.Since.refl _ _).alloc (Nat.le_refl _) _)⟩,Lib.hid ⟨F,Nat.le_refl _,HR3.out⟩,Lib.hid ((Go.Deep.blk_alloc_lt w1 _ w.heap.size hlt0.out).trans HB1.out)⟩
    have h1:=TmAt.turn (A':=fun b=>b=pb ∨ b=w1.heap.size) (fun b _ hb h=>h.elim id (fun e=>absurd hb (by omega))) _ _ HT.out
    refine TmAt.up ⟨by simp,fun k _ hk _=>Go.Deep.blk_alloc_lt w1 _ k hk⟩ _ _ (TmAt.mono (by simp) _ _ h1)
   case round=>
    obtain ⟨n',t,k,x,nn,G',m',c',rfl,hB,hT,hS,hR,hZ⟩:=hrel
    have hstr:wr.Since wr.heap.size (wr.alloc (.cells #[.string ⟨#[43]⟩,.string ⟨#[45]⟩] 9)):=(World.Since.refl _ _).alloc (Nat.le_refl _) _
    have KT:=Lib.hid (take_says (wr.alloc (.cells #[.string ⟨#[43]⟩,.string ⟨#[45]⟩] 9)) pb c e n' G l (hS.out.2.up hstr) HL.out.full HL.out.len [⟨#[43]⟩,⟨#[45]⟩] wr.heap.size 2 (SsAt.made wr [⟨#[43]⟩,⟨#[45]⟩]) (by simp))
    unfold TakeSay at KT
    rw [anyW_two] at KT
    have HX:=Lib.hid hstr
    clear hstr
    obtain ⟨f,hf,hp⟩:=hR.out
    cases f with
    | zero=>cases hp
    | succ f=>
     have hp2:Fm.step lang l e (parse lang l e f) (.moreTerm t) n'=some r:=hp
     rw [Fm.step] at hp2
     by_cases c1:(isW l n' sPlus || isW l n' sMinus)=true
     ·
      rw [if_pos c1] at hp2
      have hn:=anyW_lt (l:=l) (n:=n') (ss:=[sPlus,sMinus]) (by rw [anyW_two];exact c1)
      have c2:(isW l n' ⟨#[43]⟩ || isW l n' ⟨#[45]⟩)=true:=c1
      rw [c2] at KT
      by_cases c3:isW l n' sPlus=true
      ·
       rw [if_pos c3] at hp2
       have hnx:nextS l n'=⟨#[43]⟩:=isW_next c3
       cases hra:parse lang l e f .product (n'+1) with
       | none=>rw [hra] at hp2;cases hp2
       | some ra=>
        have KA2:=Lib.hid (fun w2 hp=>HAh.out f (by omega) w2 (n'+1) ra hp hra)
        rw [hra] at hp2
        have HG:=Lib.hid (fun ts m2 (h:ra=.ok ts m2)=>parse_ge f .product (n'+1) ts m2 (by rw [hra,h]))
        have HF:=Lib.hid (Nat.le_of_succ_le hf)
        clear c1 c2 c3 hp hf hR hra
        cases ra with
        | bad p=>
         have hr3:some (Re.bad p)=some r:=hp2
         injection hr3 with hr3
         have KA3:Hid (∀ w2,PsAt w2 pb G c l e (n'+1)→Calls Tryz.prog 321 #[.pointer (some ⟨pb,0,none⟩)] w2 fun E w'=>E=.panicked [{ v:=.iface 173 (.agg #[.int .i64 (p:Nat)]),recovered:=false }]∧Adv w2 pb w'):=Lib.hid (fun w2 hp=>KA2.out w2 hp)
         have HQ2:Hid (∀ w',Adv w pb w'→Q (strayE p) w'):=Lib.hid (fun w' h=>by rw [← HQ.out,← hr3];exact ⟨rfl,h⟩)
         clear KA2 hp2 hr3
         go_wp2_with fail
         refine KT.out.mono ?_
         rintro r0 w2 ⟨h1,h2,_⟩
         rw [hnx] at h2
         obtain ⟨rfl,h3⟩:=h2 trivial
         have A2:=Lib.hid h1
         have P2:=Lib.hid h3
         have hbt:w2.heap[w1.heap.size]?=_:=((h1.block w1.heap.size (Nat.lt_of_lt_of_le (blk_lt hB.out) HX.out.size) (by have:=hlt0.out;omega)).trans (HX.out.block _ (blk_lt hB.out))).trans hB.out
         obtain ⟨p0,p1,p2,p3,-⟩:=cells4 hbt
         clear h1 h2 h3 KT hbt
         go_wp2_with fail
         have d0:w2.drew.cell? ⟨w1.heap.size,0,none⟩=_:=p0
         have d1:w2.drew.cell? ⟨w1.heap.size,1,none⟩=_:=p1
         have d2:w2.drew.cell? ⟨w1.heap.size,2,none⟩=_:=p2
         have d3:w2.drew.cell? ⟨w1.heap.size,3,none⟩=_:=p3
         go_region_dies
         all_goals
          refine (KA3.out _ (P2.out.up (World.Since.refl _ _).drew)).mono ?_
          rintro r0 w3 ⟨rfl,ha⟩
          exact ⟨rfl,HQ2.out _ (((hS.out.1.since HX.out).trans A2.out).trans (((Adv.refl w2 pb).since (World.Since.refl _ _).drew).trans ha))⟩
        | ok ts m2=>
         have hr3:parse lang l e f (.moreTerm (.mk 7 ByteArray.empty 0 (t :: ts))) m2=some r:=hp2
         have KA3:Hid (∀ w2,PsAt w2 pb G c l e (n'+1)→Calls Tryz.prog 321 #[.pointer (some ⟨pb,0,none⟩)] w2 fun E w'=>∃ v,E=.returned v∧TermOf w' (Only pb) w2.heap.size ts v∧Stay w2 pb G c l e m2 w'):=Lib.hid (fun w2 hp=>KA2.out w2 hp)
         have HR3:=Lib.hid hr3
         clear KA2 hp2 hr3
         go_wp2_with fail
         refine KT.out.mono ?_
         rintro r0 w2 ⟨h1,h2,_⟩
         rw [hnx] at h2
         obtain ⟨rfl,h3⟩:=h2 trivial
         have A2:=Lib.hid h1
         have P2:=Lib.hid h3
         have hbt:w2.heap[w1.heap.size]?=_:=((h1.block w1.heap.size (Nat.lt_of_lt_of_le (blk_lt hB.out) HX.out.size) (by have:=hlt0.out;omega)).trans (HX.out.block _ (blk_lt hB.out))).trans hB.out
         have hbz:w2.heap[w.heap.size]?=some z39:=((h1.block w.heap.size (Nat.lt_of_lt_of_le (blk_lt hZ.out) HX.out.size) (by omega)).trans (HX.out.block _ (blk_lt hZ.out))).trans hZ.out
         obtain ⟨p0,p1,p2,p3,-⟩:=cells4 hbt
         have HBT:=Lib.hid hbt
         have HBZ:=Lib.hid hbz
         clear h1 h2 h3 KT hbt hbz
         go_wp2_with fail
         have d0:w2.drew.cell? ⟨w1.heap.size,0,none⟩=_:=p0
         have d1:w2.drew.cell? ⟨w1.heap.size,1,none⟩=_:=p1
         have d2:w2.drew.cell? ⟨w1.heap.size,2,none⟩=_:=p2
         have d3:w2.drew.cell? ⟨w1.heap.size,3,none⟩=_:=p3
         go_region_with (first
          | (
           go_at_call 321;refine (KA3.out _ (P2.out.up (World.Since.refl _ _).drew)).mono ?_;rintro r0 w3 ⟨v,rfl,⟨t2,cs,hts,rfl,ht2⟩,hst⟩;
           obtain ⟨k2,x2,n2,G2,m3,c3,rfl⟩:=tm_four ht2;
           have HT2:=Lib.hid ht2;have T3:=Lib.hid hst;have HTS:=Lib.hid hts;
           have hb3:w3.heap[w1.heap.size]?=_:=(hst.1.block w1.heap.size (blk_lt HBT.out) (by have:=hlt0.out;omega)).trans HBT.out;
           have hbl:=blk_lt hb3;
           have HB3:=Lib.hid hb3;
           obtain ⟨s0,s1,s2,s3,s4⟩:=cells4 hb3;
           have e0:∀ o,(w3.alloc o).cell? ⟨w1.heap.size,0,none⟩=_:=fun o=>(World.cell?_alloc_lt w3 o _ hbl).trans s0;
           have e1:∀ o,(w3.alloc o).cell? ⟨w1.heap.size,1,none⟩=_:=fun o=>(World.cell?_alloc_lt w3 o _ hbl).trans s1;
           have e2:∀ o,(w3.alloc o).cell? ⟨w1.heap.size,2,none⟩=_:=fun o=>(World.cell?_alloc_lt w3 o _ hbl).trans s2;
           have e3:∀ o,(w3.alloc o).cell? ⟨w1.heap.size,3,none⟩=_:=fun o=>(World.cell?_alloc_lt w3 o _ hbl).trans s3;
           have e4:∀ o j,(w3.alloc o).frozen? ⟨w1.heap.size,j,none⟩=false:=fun o j=>(World.frozen?_of_block (Go.Deep.blk_alloc_lt w3 o w1.heap.size hbl)).trans (s4 j);
           clear hts ht2 hst hb3))
         all_goals
          have HM:=Lib.hid (HG.out ts m2 rfl)
          have HTS2:=HTS.out
          subst HTS2
          go_wp2_with fail
          go_roundg (l.length - m2)
          case measure=>have:=HM.out;omega
          case rel=>
           have hw2:w1.heap.size < w2.heap.size:=blk_lt HBT.out
           have hw3:w2.heap.size≤w3.heap.size:=T3.out.1.size
           have ha3:Adv w pb w3:=((hS.out.1.since HX.out).trans A2.out).trans (((Adv.refl w2 pb).since (World.Since.refl _ _).drew).trans T3.out.1)
           have hT3:=TmAt.up (w':=w3) ⟨Nat.le_trans (Nat.le_trans HX.out.size A2.out.size) hw3,fun kk _ hk hne=>((T3.out.1.block kk (Nat.lt_of_lt_of_le hk (Nat.le_trans HX.out.size A2.out.size)) (fun e=>hne (.inl e))).trans (A2.out.block kk (Nat.lt_of_lt_of_le hk HX.out.size) (fun e=>hne (.inl e)))).trans (HX.out.block kk hk)⟩ _ _ hT.out
           have hT4:=TmAt.mono (lo':=w.heap.size+1) (by have:=hlt0.out;have:w2.drew.heap.size=w2.heap.size:=rfl;omega) _ _ (TmAt.turn (A':=fun b=>b=pb ∨ b=w1.heap.size) (fun b hb1 hb h=>h.elim id (fun e=>absurd hb1 (by have:w2.drew.heap.size=w2.heap.size:=rfl;omega))) _ _ HT2.out)
           have hst:=stay4 H0.out (⟨ha3,T3.out.2⟩:Stay w pb G c l e m2 w3) (B:=w1.heap.size) (Nat.le_of_lt hlt0.out) (.int .u8 7) (.string ⟨#[]⟩) (.int .i64 0) (.slice (some ⟨w3.heap.size,0,none⟩) 2 2)
           refine ⟨m2,.mk 7 ByteArray.empty 0 [t,t2],7,ByteArray.empty,0,some ⟨w3.heap.size,0,none⟩,2,2,rfl,Lib.hid ?_,Lib.hid ?_,Lib.hid ⟨hst.1.since ((World.Since.refl _ _).alloc (Nat.le_refl _) _),hst.2.up ((World.Since.refl _ _).alloc (Nat.le_refl _) _)⟩,Lib.hid ⟨f,HF.out,HR3.out⟩,Lib.hid ?_⟩
           ·
            exact (Go.Deep.blk_alloc_lt _ _ _ (by rw [set4_size];exact blk_lt HB3.out)).trans (set4_blk HB3.out _ _ _ _)
           ·
            exact two_at hT3 hT4 (.inr rfl) (fun h=>by have:=hlt0.out;rcases h with h | h <;> omega) (by have:=hlt0.out;omega) 7 _ 0 _ _ _ _
           ·
            exact (Go.Deep.blk_alloc_lt _ _ _ (by rw [set4_size];have:=hlt0.out;omega)).trans ((set4_other (by have:=hlt0.out;omega) _ _ _ _).trans ((T3.out.1.block w.heap.size (by have:=hlt0.out;have:w2.drew.heap.size=w2.heap.size:=rfl;omega) (by omega)).trans HBZ.out))
      ·
       rw [if_neg c3] at hp2
       have hnx:nextS l n'=⟨#[45]⟩:=isW_next (by rw [Bool.eq_false_iff.2 c3] at c1;exact c1)
       cases hra:parse lang l e f .product (n'+1) with
       | none=>rw [hra] at hp2;cases hp2
       | some ra=>
        have KA2:=Lib.hid (fun w2 hp=>HAh.out f (by omega) w2 (n'+1) ra hp hra)
        rw [hra] at hp2
        have HG:=Lib.hid (fun ts m2 (h:ra=.ok ts m2)=>parse_ge f .product (n'+1) ts m2 (by rw [hra,h]))
        have HF:=Lib.hid (Nat.le_of_succ_le hf)
        clear c1 c2 c3 hp hf hR hra
        cases ra with
        | bad p=>
         have hr3:some (Re.bad p)=some r:=hp2
         injection hr3 with hr3
         have KA3:Hid (∀ w2,PsAt w2 pb G c l e (n'+1)→Calls Tryz.prog 321 #[.pointer (some ⟨pb,0,none⟩)] w2 fun E w'=>E=.panicked [{ v:=.iface 173 (.agg #[.int .i64 (p:Nat)]),recovered:=false }]∧Adv w2 pb w'):=Lib.hid (fun w2 hp=>KA2.out w2 hp)
         have HQ2:Hid (∀ w',Adv w pb w'→Q (strayE p) w'):=Lib.hid (fun w' h=>by rw [← HQ.out,← hr3];exact ⟨rfl,h⟩)
         clear KA2 hp2 hr3
         go_wp2_with fail
         refine KT.out.mono ?_
         rintro r0 w2 ⟨h1,h2,_⟩
         rw [hnx] at h2
         obtain ⟨rfl,h3⟩:=h2 trivial
         have A2:=Lib.hid h1
         have P2:=Lib.hid h3
         have hbt:w2.heap[w1.heap.size]?=_:=((h1.block w1.heap.size (Nat.lt_of_lt_of_le (blk_lt hB.out) HX.out.size) (by have:=hlt0.out;omega)).trans (HX.out.block _ (blk_lt hB.out))).trans hB.out
         obtain ⟨p0,p1,p2,p3,-⟩:=cells4 hbt
         clear h1 h2 h3 KT hbt
         go_wp2_with fail
         have d0:w2.drew.cell? ⟨w1.heap.size,0,none⟩=_:=p0
         have d1:w2.drew.cell? ⟨w1.heap.size,1,none⟩=_:=p1
         have d2:w2.drew.cell? ⟨w1.heap.size,2,none⟩=_:=p2
         have d3:w2.drew.cell? ⟨w1.heap.size,3,none⟩=_:=p3
         go_region_dies
         all_goals
          refine (KA3.out _ (P2.out.up (World.Since.refl _ _).drew)).mono ?_
          rintro r0 w3 ⟨rfl,ha⟩
          exact ⟨rfl,HQ2.out _ (((hS.out.1.since HX.out).trans A2.out).trans (((Adv.refl w2 pb).since (World.Since.refl _ _).drew).trans ha))⟩
        | ok ts m2=>
         have hr3:parse lang l e f (.moreTerm (.mk 8 ByteArray.empty 0 (t :: ts))) m2=some r:=hp2
         have KA3:Hid (∀ w2,PsAt w2 pb G c l e (n'+1)→Calls Tryz.prog 321 #[.pointer (some ⟨pb,0,none⟩)] w2 fun E w'=>∃ v,E=.returned v∧TermOf w' (Only pb) w2.heap.size ts v∧Stay w2 pb G c l e m2 w'):=Lib.hid (fun w2 hp=>KA2.out w2 hp)
         have HR3:=Lib.hid hr3
         clear KA2 hp2 hr3
         go_wp2_with fail
         refine KT.out.mono ?_
         rintro r0 w2 ⟨h1,h2,_⟩
         rw [hnx] at h2
         obtain ⟨rfl,h3⟩:=h2 trivial
         have A2:=Lib.hid h1
         have P2:=Lib.hid h3
         have hbt:w2.heap[w1.heap.size]?=_:=((h1.block w1.heap.size (Nat.lt_of_lt_of_le (blk_lt hB.out) HX.out.size) (by have:=hlt0.out;omega)).trans (HX.out.block _ (blk_lt hB.out))).trans hB.out
         have hbz:w2.heap[w.heap.size]?=some z39:=((h1.block w.heap.size (Nat.lt_of_lt_of_le (blk_lt hZ.out) HX.out.size) (by omega)).trans (HX.out.block _ (blk_lt hZ.out))).trans hZ.out
         obtain ⟨p0,p1,p2,p3,-⟩:=cells4 hbt
         have HBT:=Lib.hid hbt
         have HBZ:=Lib.hid hbz
         clear h1 h2 h3 KT hbt hbz
         go_wp2_with fail
         have d0:w2.drew.cell? ⟨w1.heap.size,0,none⟩=_:=p0
         have d1:w2.drew.cell? ⟨w1.heap.size,1,none⟩=_:=p1
         have d2:w2.drew.cell? ⟨w1.heap.size,2,none⟩=_:=p2
         have d3:w2.drew.cell? ⟨w1.heap.size,3,none⟩=_:=p3
         go_region_with (first
          | (
           go_at_call 321;refine (KA3.out _ (P2.out.up (World.Since.refl _ _).drew)).mono ?_;rintro r0 w3 ⟨v,rfl,⟨t2,cs,hts,rfl,ht2⟩,hst⟩;
           obtain ⟨k2,x2,n2,G2,m3,c3,rfl⟩:=tm_four ht2;
           have HT2:=Lib.hid ht2;have T3:=Lib.hid hst;have HTS:=Lib.hid hts;
           have hb3:w3.heap[w1.heap.size]?=_:=(hst.1.block w1.heap.size (blk_lt HBT.out) (by have:=hlt0.out;omega)).trans HBT.out;
           have hbl:=blk_lt hb3;
           have HB3:=Lib.hid hb3;
           obtain ⟨s0,s1,s2,s3,s4⟩:=cells4 hb3;
           have e0:∀ o,(w3.alloc o).cell? ⟨w1.heap.size,0,none⟩=_:=fun o=>(World.cell?_alloc_lt w3 o _ hbl).trans s0;
           have e1:∀ o,(w3.alloc o).cell? ⟨w1.heap.size,1,none⟩=_:=fun o=>(World.cell?_alloc_lt w3 o _ hbl).trans s1;
           have e2:∀ o,(w3.alloc o).cell? ⟨w1.heap.size,2,none⟩=_:=fun o=>(World.cell?_alloc_lt w3 o _ hbl).trans s2;
           have e3:∀ o,(w3.alloc o).cell? ⟨w1.heap.size,3,none⟩=_:=fun o=>(World.cell?_alloc_lt w3 o _ hbl).trans s3;
           have e4:∀ o j,(w3.alloc o).frozen? ⟨w1.heap.size,j,none⟩=false:=fun o j=>(World.frozen?_of_block (Go.Deep.blk_alloc_lt w3 o w1.heap.size hbl)).trans (s4 j);
           clear hts ht2 hst hb3))
         all_goals
          have HM:=Lib.hid (HG.out ts m2 rfl)
          have HTS2:=HTS.out
          subst HTS2
          go_wp2_with fail
          go_roundg (l.length - m2)
          case measure=>have:=HM.out;omega
          case rel=>
           have hw2:w1.heap.size < w2.heap.size:=blk_lt HBT.out
           have hw3:w2.heap.size≤w3.heap.size:=T3.out.1.size
           have ha3:Adv w pb w3:=((hS.out.1.since HX.out).trans A2.out).trans (((Adv.refl w2 pb).since (World.Since.refl _ _).drew).trans T3.out.1)
           have hT3:=TmAt.up (w':=w3) ⟨Nat.le_trans (Nat.le_trans HX.out.size A2.out.size) hw3,fun kk _ hk hne=>((T3.out.1.block kk (Nat.lt_of_lt_of_le hk (Nat.le_trans HX.out.size A2.out.size)) (fun e=>hne (.inl e))).trans (A2.out.block kk (Nat.lt_of_lt_of_le hk HX.out.size) (fun e=>hne (.inl e)))).trans (HX.out.block kk hk)⟩ _ _ hT.out
           have hT4:=TmAt.mono (lo':=w.heap.size+1) (by have:=hlt0.out;have:w2.drew.heap.size=w2.heap.size:=rfl;omega) _ _ (TmAt.turn (A':=fun b=>b=pb ∨ b=w1.heap.size) (fun b hb1 hb h=>h.elim id (fun e=>absurd hb1 (by have:w2.drew.heap.size=w2.heap.size:=rfl;omega))) _ _ HT2.out)
           have hst:=stay4 H0.out (⟨ha3,T3.out.2⟩:Stay w pb G c l e m2 w3) (B:=w1.heap.size) (Nat.le_of_lt hlt0.out) (.int .u8 8) (.string ⟨#[]⟩) (.int .i64 0) (.slice (some ⟨w3.heap.size,0,none⟩) 2 2)
           refine ⟨m2,.mk 8 ByteArray.empty 0 [t,t2],8,ByteArray.empty,0,some ⟨w3.heap.size,0,none⟩,2,2,rfl,Lib.hid ?_,Lib.hid ?_,Lib.hid ⟨hst.1.since ((World.Since.refl _ _).alloc (Nat.le_refl _) _),hst.2.up ((World.Since.refl _ _).alloc (Nat.le_refl _) _)⟩,Lib.hid ⟨f,HF.out,HR3.out⟩,Lib.hid ?_⟩
           ·
            exact (Go.Deep.blk_alloc_lt _ _ _ (by rw [set4_size];exact blk_lt HB3.out)).trans (set4_blk HB3.out _ _ _ _)
           ·
            exact two_at hT3 hT4 (.inr rfl) (fun h=>by have:=hlt0.out;rcases h with h | h <;> omega) (by have:=hlt0.out;omega) 8 _ 0 _ _ _ _
           ·
            exact (Go.Deep.blk_alloc_lt _ _ _ (by rw [set4_size];have:=hlt0.out;omega)).trans ((set4_other (by have:=hlt0.out;omega) _ _ _ _).trans ((T3.out.1.block w.heap.size (by have:=hlt0.out;have:w2.drew.heap.size=w2.heap.size:=rfl;omega) (by omega)).trans HBZ.out))
     ·
      rw [if_neg c1] at hp2
      have c2:(isW l n' ⟨#[43]⟩ || isW l n' ⟨#[45]⟩)=false:=Bool.eq_false_iff.2 c1
      rw [c2] at KT
      injection hp2 with hp2
      clear c1 c2 hp hf hR
      go_wp2_with fail
      refine KT.out.mono ?_
      rintro r0 w2 ⟨h1,_,h2⟩
      obtain ⟨rfl,h3⟩:=h2 trivial
      have A2:=Lib.hid h1
      have P2:=Lib.hid h3
      have hbt:w2.heap[w1.heap.size]?=_:=((h1.block w1.heap.size (Nat.lt_of_lt_of_le (blk_lt hB.out) HX.out.size) (by have:=hlt0.out;omega)).trans (HX.out.block _ (blk_lt hB.out))).trans hB.out
      have hbz:w2.heap[w.heap.size]?=some z39:=((h1.block w.heap.size (Nat.lt_of_lt_of_le (blk_lt hZ.out) HX.out.size) (by omega)).trans (HX.out.block _ (blk_lt hZ.out))).trans hZ.out
      obtain ⟨p0,p1,p2,p3,-⟩:=cells4 hbt
      obtain ⟨q0,q1,q2,q3,q4⟩:=res_facts hbz
      have HQ2:Hid (∀ w',TermOf w' (Only pb) w.heap.size [t] (.agg #[.int .u8 (k:Nat),.string x,.int .i64 (nn:Nat),.slice G' m' c'])→Stay w pb G c l e n' w'→Q (.returned (.agg #[.int .u8 (k:Nat),.string x,.int .i64 (nn:Nat),.slice G' m' c'])) w'):=Lib.hid (fun w' h1 h2=>by rw [← HQ.out,← hp2];exact ⟨_,rfl,h1,h2⟩)
      have HWR:=Lib.hid (And.intro (blk_lt hB.out) (blk_lt hZ.out))
      clear h1 h2 h3 KT hbt hbz hp2
      go_wp2_with fail
      refine bodyPost_ret (v:=.agg #[.int .u8 (k:Nat),.string x,.int .i64 (nn:Nat),.slice G' m' c']) (by simp [results,Tryz.results277,go_sem,q0,q1,q2,q3]) rfl (HQ2.out _ ⟨t,_,rfl,rfl,?_⟩ (stay4 H0.out ⟨(hS.out.1.since HX.out).trans A2.out,P2.out⟩ (Nat.le_refl _) _ _ _ _))
      have t1:=TmAt.up (w':=w2) ⟨Nat.le_trans HX.out.size A2.out.size,fun kk _ hk hne=>(A2.out.block kk (Nat.lt_of_lt_of_le hk HX.out.size) (fun e=>hne (.inl e))).trans (HX.out.block kk hk)⟩ _ _ hT.out
      have t2:=TmAt.turn (A':=Only pb) (fun b _ hb h=>.inl h) _ _ t1
      exact TmAt.mono (Nat.le_succ _) _ _ (TmAt.up (kept4 (Nat.lt_succ_self _) _ _ _ _) _ _ t2)
end Go.Proofs.YthbdlnflmfchjaaGreatDoor
