/- Appending a term to a row of terms of one's own. -/
import Derived.Maps.AppendAt
import Derived.Test.YthbdlnflmfchjaaGreatDoorZA
namespace Go.Proofs.YthbdlnflmfchjaaGreatDoor
open Go.RowKit Go.Proofs.Fm Go.Proofs.MapEnt
theorem info39:(Tryz.prog.info? 39).map (fun i=>(i.zero,i.size,i.bytes))=some (some (.agg #[.int .u8 0,.string ByteArray.empty,.int .i64 0,.slice none 0 0]),4,56):=by kernel_rfl
theorem run_append_t (w:World) (base:Nat) (ty:TypeId) (v:Value) (n:Nat) (xs:List Value) (hown:w.ownsRow base 39 4 v n xs) (ad:Addr) (c:Nat) (k:Nat) (x:ByteArray) (nn:Nat) (G:Option Addr) (m c0:Nat)
  (h0:w.cell? ad=some (.int .u8 (k:Nat))) (h1:w.cell? (ad.add 1)=some (.string x)) (h2:w.cell? (ad.add 2)=some (.int .i64 (nn:Nat))) (h3:w.cell? (ad.add 3)=some (.slice G m c0)) (hn:n+1≤200000) (hbase:base≤w.heap.size):
  ∃ v' w',(Builtin.append_ #[37,37] ty #[v,.slice (some ad) 1 c]).run Tryz.prog w=.ok v' w'∧w'.ownsRow base 39 4 v' (n+1) (xs ++ [.int .u8 (k:Nat),.string x,.int .i64 (nn:Nat),.slice G m c0])∧w.grownBy w' v.ownBlock∧(v'.ownBlock=v.ownBlock ∨ v'.ownBlock=some w.heap.size):=by
 obtain ⟨i0,hi,hz0,hz1,hz2⟩:=info_parts info39
 obtain ⟨v',w',r1,r2,r3,_,r4⟩:=run_append_own_at (P:=Tryz.prog) (w:=w) base 37 ty 39 i0 (.agg #[.int .u8 0,.string ByteArray.empty,.int .i64 0,.slice none 0 0]) 4 56 Tryz.underlying37 hi hz0 hz1 hz2 rfl (by decide) v n xs hown ad 1 c [.int .u8 (k:Nat),.string x,.int .i64 (nn:Nat),.slice G m c0] rfl
  (fun j u hu=>by
   match j,hu with
   | 0,hu=>cases hu;exact h0
   | 1,hu=>cases hu;exact h1
   | 2,hu=>cases hu;exact h2
   | 3,hu=>cases hu;exact h3
   | j+4,hu=>cases hu)
  (fun u hu=>by
   simp only [List.mem_cons,List.not_mem_nil,or_false] at hu
   rcases hu with rfl | rfl | rfl | rfl <;> rfl) (by simp only [maxLen];omega) (by omega) hbase
 exact ⟨v',w',r1,r2,r3,r4⟩
theorem oper_append_t {o:Oper} {a:Act} {w w':World} {K:Act→World→Prop} {Q:Exit→Act→World→Prop} (s x:Operand)
  (ho:o.op=.call { callee:=.builtin .append,args:=#[s,x],argTypes:=#[37,37] }) (ht:o.type=37)
  {v v' xv:Value} (hs:a.eval s=v) (hx:a.eval x=xv) (hr:(Builtin.append_ #[37,37] 37 #[v,xv]).run Tryz.prog w=.ok v' w')
  (h:K (a.put o.dst v') w'):Oper.wp Tryz.prog o a w K Q:=by
 unfold Oper.wp execOp
 simp only [ho,ht,resolve,invoke,builtin,Sem.run_bind,Sem.run_pure,Result.andThen_ok,List.map_toArray,List.map_cons,List.map_nil,hs,hx,hr]
 exact h
theorem wpList_append_t {ops:Array Oper} {rest:List Oper} {o:Oper} {a:Act} {w w':World} {Q:Exit→Act→World→Prop} (hg:o.guard=none) (s x:Operand)
  (ho:o.op=.call { callee:=.builtin .append,args:=#[s,x],argTypes:=#[37,37] }) (ht:o.type=37)
  {v v' xv:Value} (hs:a.eval s=v) (hx:a.eval x=xv) (hr:(Builtin.append_ #[37,37] 37 #[v,xv]).run Tryz.prog w=.ok v' w')
  (h:wpList Tryz.prog ops Q rest (a.put o.dst v') w'):wpList Tryz.prog ops Q (o :: rest) a w:=
 wpList_plain hg fun _ hK=>oper_append_t s x ho ht hs hx hr (hK _ _ h)
end Go.Proofs.YthbdlnflmfchjaaGreatDoor
namespace Go.Proofs.YthbdlnflmfchjaaGreatDoor
open Go.RowKit Go.Proofs.Fm Go.Proofs.MapEnt
set_option maxHeartbeats 3200000
set_option maxRecDepth 1000000
theorem tms_snoc {w:World} {A:Nat→Prop} {lo:Nat} {t:Tm} {cs:List Value}:∀ (ts:List Tm) (us:List Value),TmsAt w A lo ts us→TmAt w A lo t cs→TmsAt w A lo (ts ++ [t]) (us ++ cs)
 | [],us,h,h2=>by
  unfold TmsAt at h
  subst h
  show TmsAt w A lo [t] ([] ++ cs)
  unfold TmsAt
  exact ⟨cs,[],by simp,h2,by unfold TmsAt;rfl⟩
 | a :: ts,us,h,h2=>by
  unfold TmsAt at h
  obtain ⟨x,y,rfl,h3,h4⟩:=h
  show TmsAt w A lo (a :: (ts ++ [t])) (x ++ y ++ cs)
  unfold TmsAt
  exact ⟨x,y ++ cs,by simp,h3,tms_snoc ts y h4 h2⟩
theorem own_same {w w':World} {base gb len cap:Nat} {us:List Value} (h:w.ownsRow base 39 4 (.slice (some ⟨gb,0,none⟩) len cap) len us) (hb:w'.heap[gb]?=w.heap[gb]?):w'.ownsRow base 39 4 (.slice (some ⟨gb,0,none⟩) len cap) len us:=by
 obtain ⟨h1,⟨e,_⟩ | ⟨g,cp,cur,e,h2,h3,h4⟩⟩:=h
 ·
  cases e
 ·
  cases e
  exact ⟨h1,.inr ⟨gb,cap,cur,rfl,h2,hb.trans h3,h4⟩⟩
theorem own_row {w0 w w':World} {pb gb cap:Nat} {acc:List Tm} {us:List Value} (hO:w.ownsRow w0.heap.size 39 4 (.slice (some ⟨gb,0,none⟩) acc.length cap) acc.length us) (hT:TmsAt w (fun b=>b=pb ∨ b=gb) w0.heap.size acc us) (hpb:pb < w0.heap.size) (ha:Adv w pb w'):
  RowOf w' (Only pb) w0.heap.size acc (.slice (some ⟨gb,0,none⟩) acc.length cap):=by
 have hl:=hO.1
 have hg:=hO.lt gb rfl
 have ht:=TmsAt.turn (A':=Only pb) (fun b _ _ h=>.inl h) _ _ (TmsAt.up (w':=w') ⟨ha.size,fun k _ hk hne=>ha.block k hk (fun e=>hne (.inl e))⟩ _ _ hT)
 refine ⟨some ⟨gb,0,none⟩,cap,us,rfl,.inr ⟨gb,rfl,fun h=>?_,hg.1,Nat.lt_of_lt_of_le hg.2 ha.size,fun i hi=>?_⟩,ht⟩
 ·
  have h1:gb=pb:=h
  have:=hg.1
  omega
 ·
  have hne:gb ≠ pb:=by have:=hg.1;omega
  rw [World.cell?_of_block (ha.block gb hg.2 hne),hO.cellAt i (by omega),List.getElem?_eq_getElem hi]
theorem args_says (pb c e F:Nat) (G:Option Addr) (l:List Wd) (hl:WsOk l) (HA:PartC pb c e G l F 277 .term) (w:World) (n:Nat) (r:Re) (h:PsAt w pb G c l e n) (hr:parse lang l e (F+1) .args n=some r):
  Calls Tryz.prog 279 #[.pointer (some ⟨pb,0,none⟩)] w (Says RowOf w pb G c l e r):=by
 have hr2:Fm.step lang l e (parse lang l e F) .args n=some r:=hr
 rw [Fm.step] at hr2
 clear hr
 have KM:=Lib.hid (must_says w pb c e n G l h hl ⟨#[40]⟩)
 have hpb:=h.lt
 have H0:=Lib.hid h
 have HL:=Lib.hid hl
 have HAh:=Lib.hid HA
 clear h hl HA
 generalize hQ:Says RowOf w pb G c l e r=Q at *
 have HQ:=Lib.hid hQ
 clear hQ
 by_cases c1:isW l n sOpen=true
 ·
  rw [if_pos c1] at hr2
  have c2:isW l n ⟨#[40]⟩=true:=c1
  have KM2:Hid (Calls Tryz.prog 276 #[.pointer (some ⟨pb,0,none⟩),.string ⟨#[40]⟩] w fun E w'=>E=.returned (.tuple #[])∧Stay w pb G c l e (n+1) w'):=Lib.hid (KM.out.mono fun E w' h=>h.1 c2)
  cases hra:parse lang l e F .term (n+1) with
  | none=>rw [hra] at hr2;cases hr2
  | some ra=>
   rw [hra] at hr2
   have KA:=Lib.hid (fun w2 hp=>HAh.out F (Nat.le_refl _) w2 (n+1) ra hp hra)
   have HG0:=Lib.hid (fun ts m2 (h:ra=.ok ts m2)=>parse_ge F .term (n+1) ts m2 (by rw [hra,h]))
   clear KM c1 c2 hra
   cases ra with
   | bad p=>
    have hr3:some (Re.bad p)=some r:=hr2
    injection hr3 with hr3
    have KA2:Hid (∀ w2,PsAt w2 pb G c l e (n+1)→Calls Tryz.prog 277 #[.pointer (some ⟨pb,0,none⟩)] w2 fun E w'=>E=.panicked [{ v:=.iface 173 (.agg #[.int .i64 (p:Nat)]),recovered:=false }]∧Adv w2 pb w'):=Lib.hid (fun w2 hp=>KA.out w2 hp)
    have HQ2:Hid (∀ w',Adv w pb w'→Q (strayE p) w'):=Lib.hid (fun w' h=>by rw [← HQ.out,← hr3];exact ⟨rfl,h⟩)
    clear hr2 hr3 KA
    go_enter Tryz.func279,Tryz.ntmps279
    go_wp2_with fail
    refine KM2.out.mono ?_
    rintro r0 w1 ⟨rfl,hst⟩
    have T1:=Lib.hid hst
    clear hst KM2
    go_wp2_with fail
    refine (KA2.out _ T1.out.2).mono ?_
    rintro r0 w2 ⟨rfl,ha⟩
    have A2:=Lib.hid ha
    clear ha
    go_wp2_with fail
    exact ⟨rfl,HQ2.out _ (T1.out.1.trans A2.out)⟩
   | ok ts m=>
    have hr3:parse lang l e F (.moreArgs ts) m=some r:=hr2
    have HR3:=Lib.hid hr3
    clear hr2 hr3
    go_enter Tryz.func279,Tryz.ntmps279
    go_wp2_with fail
    refine KM2.out.mono ?_
    rintro r0 w1 ⟨rfl,hst⟩
    have T1:=Lib.hid hst
    clear hst KM2
    go_wp2_with fail
    refine (KA.out _ T1.out.2).mono ?_
    rintro r0 w2 ⟨v,rfl,⟨t,cs,rfl,rfl,ht⟩,hst⟩
    obtain ⟨k0,x0,n0,G0,m0,c0,rfl⟩:=tm_four ht
    have HT:=Lib.hid ht
    have T2:=Lib.hid hst
    clear ht hst KA
    go_wp2_with fail
    go_loopg [3] (l.length - m) (fun g o wr=>∃ (n':Nat) (acc:List Tm) (us:List Value) (gb cap:Nat),g=l.length - n'∧acc.length≤n'∧o=.slice (some ⟨gb,0,none⟩) acc.length cap∧
     Hid (wr.ownsRow w.heap.size 39 4 (.slice (some ⟨gb,0,none⟩) acc.length cap) acc.length us)∧
     Hid (TmsAt wr (fun b=>b=pb ∨ b=gb) w.heap.size acc us)∧Hid (Stay w pb G c l e n' wr)∧Hid (∃ f,f≤F∧parse lang l e f (.moreArgs acc) n'=some r))
    case atStart=>
     have hs1:w.heap.size≤w1.heap.size:=T1.out.1.size
     have hs2:w1.heap.size≤w2.heap.size:=T2.out.1.size
     have h1:=TmAt.turn (A':=fun b=>b=pb ∨ b=w2.heap.size) (fun b _ hb h=>h.elim id (fun e=>absurd hb (by omega))) _ _ HT.out
     have h2:=TmAt.mono (lo':=w.heap.size) hs1 _ _ (TmAt.up (w':=w2.alloc (.cells #[.int .u8 (k0:Nat),.string x0,.int .i64 (n0:Nat),.slice G0 m0 c0] 39)) ⟨by simp,fun k _ hk _=>Go.Deep.blk_alloc_lt w2 _ k hk⟩ _ _ h1)
     refine ⟨m,[t],[.int .u8 (k0:Nat),.string x0,.int .i64 (n0:Nat),.slice G0 m0 c0],w2.heap.size,1,rfl,by have:=HG0.out _ _ rfl;simp;omega,rfl,Lib.hid ?_,Lib.hid ?_,Lib.hid ⟨(T1.out.1.trans T2.out.1).since ((World.Since.refl _ _).alloc (Nat.le_refl _) _),T2.out.2.up ((World.Since.refl _ _).alloc (Nat.le_refl _) _)⟩,Lib.hid ⟨F,Nat.le_refl _,HR3.out⟩⟩
     ·
      exact World.ownsRow_lit w2 #[.int .u8 (k0:Nat),.string x0,.int .i64 (n0:Nat),.slice G0 m0 c0] 1 (by omega) (by decide) rfl
     ·
      unfold TmsAt
      exact ⟨_,[],by simp,h2,by unfold TmsAt;rfl⟩
    case round=>
     obtain ⟨n',acc,us,gb,cap,rfl,hacc,rfl,hO,hT,hS,hR⟩:=hrel
     have hstr:wr.Since wr.heap.size (wr.alloc (.cells #[.string ⟨#[44]⟩] 9)):=(World.Since.refl _ _).alloc (Nat.le_refl _) _
     have KT:=Lib.hid (take_says (wr.alloc (.cells #[.string ⟨#[44]⟩] 9)) pb c e n' G l (hS.out.2.up hstr) HL.out.full HL.out.len [⟨#[44]⟩] wr.heap.size 1 (SsAt.made wr [⟨#[44]⟩]) (by simp))
     unfold TakeSay at KT
     rw [anyW_one] at KT
     have HX:=Lib.hid hstr
     clear hstr
     obtain ⟨f,hf,hp⟩:=hR.out
     cases f with
     | zero=>cases hp
     | succ f=>
      have hp2:Fm.step lang l e (parse lang l e f) (.moreArgs acc) n'=some r:=hp
      rw [Fm.step] at hp2
      by_cases c1:isW l n' sComma=true
      ·
       rw [if_pos c1] at hp2
       have hn:=isW_lt c1
       have c2:isW l n' ⟨#[44]⟩=true:=c1
       rw [c2] at KT
       cases hra:parse lang l e f .term (n'+1) with
       | none=>rw [hra] at hp2;cases hp2
       | some ra=>
        have KA2:=Lib.hid (fun w2 hp=>HAh.out f (by omega) w2 (n'+1) ra hp hra)
        rw [hra] at hp2
        have HG:=Lib.hid (fun ts m2 (h:ra=.ok ts m2)=>parse_ge f .term (n'+1) ts m2 (by rw [hra,h]))
        have HF:=Lib.hid (Nat.le_of_succ_le hf)
        clear c1 c2 hp hf hR hra
        cases ra with
        | bad p=>
         have hr3:some (Re.bad p)=some r:=hp2
         injection hr3 with hr3
         have KA3:Hid (∀ w2,PsAt w2 pb G c l e (n'+1)→Calls Tryz.prog 277 #[.pointer (some ⟨pb,0,none⟩)] w2 fun E w'=>E=.panicked [{ v:=.iface 173 (.agg #[.int .i64 (p:Nat)]),recovered:=false }]∧Adv w2 pb w'):=Lib.hid (fun w2 hp=>KA2.out w2 hp)
         have HQ2:Hid (∀ w',Adv w pb w'→Q (strayE p) w'):=Lib.hid (fun w' h=>by rw [← HQ.out,← hr3];exact ⟨rfl,h⟩)
         clear KA2 hp2 hr3
         go_wp2_with fail
         refine KT.out.mono ?_
         rintro r0 w3 ⟨h1,h2,_⟩
         obtain ⟨rfl,h3⟩:=h2 trivial
         have A3:=Lib.hid h1
         have P3:=Lib.hid h3
         clear h1 h2 h3 KT
         go_wp2_with fail
         refine (KA3.out _ P3.out).mono ?_
         rintro r0 w4 ⟨rfl,ha⟩
         have A4:=Lib.hid ha
         clear ha
         go_wp2_with fail
         exact ⟨rfl,HQ2.out _ (((hS.out.1.since HX.out).trans A3.out).trans A4.out)⟩
        | ok ts m2=>
         have hr3:parse lang l e f (.moreArgs (acc ++ ts)) m2=some r:=hp2
         have KA3:Hid (∀ w2,PsAt w2 pb G c l e (n'+1)→Calls Tryz.prog 277 #[.pointer (some ⟨pb,0,none⟩)] w2 fun E w'=>∃ v,E=.returned v∧TermOf w' (Only pb) w2.heap.size ts v∧Stay w2 pb G c l e m2 w'):=Lib.hid (fun w2 hp=>KA2.out w2 hp)
         have HR4:=Lib.hid hr3
         clear KA2 hp2 hr3
         go_wp2_with fail
         refine KT.out.mono ?_
         rintro r0 w3 ⟨h1,h2,_⟩
         obtain ⟨rfl,h3⟩:=h2 trivial
         have A3:=Lib.hid h1
         have P3:=Lib.hid h3
         clear h1 h2 h3 KT
         go_wp2_with fail
         refine (KA3.out _ P3.out).mono ?_
         rintro r0 w4 ⟨v,rfl,⟨t2,cs,rfl,rfl,ht2⟩,hst⟩
         obtain ⟨k2,x2,n2,G2,m3,c3,rfl⟩:=tm_four ht2
         have HT2:=Lib.hid ht2
         have T4:=Lib.hid hst
         have ha:Adv wr pb w4:=(((Adv.refl wr pb).since HX.out).trans A3.out).trans hst.1
         have hg:=hO.out.lt gb rfl
         have hO4:(w4.alloc (.cells #[.int .u8 (k2:Nat),.string x2,.int .i64 (n2:Nat),.slice G2 m3 c3] 39)).ownsRow w.heap.size 39 4 (.slice (some ⟨gb,0,none⟩) acc.length cap) acc.length us:=
          own_same hO.out ((Go.Deep.blk_alloc_lt w4 _ gb (Nat.lt_of_lt_of_le hg.2 ha.size)).trans (ha.block gb hg.2 (by have:=hg.1;omega)))
         have hc:∀ j,(w4.alloc (.cells #[.int .u8 (k2:Nat),.string x2,.int .i64 (n2:Nat),.slice G2 m3 c3] 39)).cell? ⟨w4.heap.size,j,none⟩=(#[.int .u8 (k2:Nat),.string x2,.int .i64 (n2:Nat),.slice G2 m3 c3]:Array Value)[j]?:=fun j=>by
          unfold World.cell?
          rw [heap_alloc_new]
          rfl
         obtain ⟨v',w5,a1,a2,a3,a4⟩:=run_append_t _ w.heap.size 37 _ acc.length us hO4 ⟨w4.heap.size,0,none⟩ 1 k2 x2 n2 G2 m3 c3 (hc 0) (hc 1) (hc 2) (hc 3) (by have:=HL.out.len;omega) (by have:=hS.out.1.size;have:=ha.size;simp;omega)
         have O5:=Lib.hid a2
         have B5:=Lib.hid a3
         have V5:=Lib.hid a4
         have HA4:=Lib.hid ha
         clear ht2 hst hO4 hc a2 a3 a4 ha KA3
         go_wp2_with (refine wpList_append_t rfl (.tmp 19) (.tmp 22) rfl rfl rfl rfl a1 ?_)
         have HM:=Lib.hid (HG.out [t2] m2 rfl)
         obtain ⟨g',cap',hv',hg1,hg2⟩:∃ g' cap',v'=.slice (some ⟨g',0,none⟩) (acc.length+1) cap'∧w.heap.size≤g'∧g' < w5.heap.size:=by
          obtain ⟨_,⟨_,e⟩ | ⟨g',cp,cur,e,h2,h3,_⟩⟩:=O5.out
          ·
           omega
          ·
           exact ⟨g',cp,e,h2,(Array.getElem?_eq_some_iff.1 h3).1⟩
         subst hv'
         go_roundg (l.length - m2)
         case measure=>have:=HM.out;omega
         case rel=>
          have hgb:=hO.out.lt gb rfl
          have hsz:wr.heap.size≤w4.heap.size:=HA4.out.size
          have hsz5:w4.heap.size < w5.heap.size:=Nat.lt_of_lt_of_le (by simp) B5.out.size
          have hgv:g'=gb ∨ g'=w4.heap.size+1:=by
           rcases V5.out with h | h
           ·
            left;injection h
           ·
            right;injection h with h;simpa using h
          have hblk:∀ k,k < w4.heap.size→k ≠ gb→w5.heap[k]?=w4.heap[k]?:=fun k hk hne=>(B5.out.block k (by simp;omega) (fun e=>hne (by injection e))).trans (Go.Deep.blk_alloc_lt w4 _ k hk)
          have hA5:Adv w pb w5:=by
           have h1:Adv w pb w4:=hS.out.1.trans HA4.out
           exact ⟨B5.out.os.trans h1.os,B5.out.tape.trans h1.tape,B5.out.output.trans h1.output,by have:=h1.size;omega,fun k hk hne=>(hblk k (Nat.lt_of_lt_of_le hk h1.size) (by have:=hgb.1;omega)).trans (h1.block k hk hne)⟩
          have hw3:wr.heap.size≤w3.heap.size:=Nat.le_trans HX.out.size A3.out.size
          have e1:=TmsAt.turn (A':=fun b=>b=pb ∨ b=gb ∨ b=g') (fun b _ hb h=>by rcases h with h | h | h;exact .inl h;exact .inr h;right;omega) _ _ hT.out
          have e2:=TmsAt.up (w':=w5) ⟨by omega,fun k _ hk hne=>(hblk k (by omega) (fun e=>hne (.inr (.inl e)))).trans (HA4.out.block k hk (fun e=>hne (.inl e)))⟩ _ _ e1
          have e3:=TmsAt.turn (A':=fun b=>b=pb ∨ b=g') (fun b _ _ h=>h.elim .inl (fun h=>.inr (.inr h))) _ _ e2
          have f1:=TmAt.turn (A':=fun b=>b=pb ∨ b=gb ∨ b=g') (fun b hb1 hb h=>by rcases h with h | h | h;exact h;exact absurd hb1 (by omega);exact absurd hb1 (by omega)) _ _ HT2.out
          have f2:=TmAt.up (w':=w5) ⟨by omega,fun k _ hk hne=>hblk k hk (fun e=>hne (.inr (.inl e)))⟩ _ _ f1
          have f3:=TmAt.mono (lo':=w.heap.size) (by have:=hgb.1;omega) _ _ (TmAt.turn (A':=fun b=>b=pb ∨ b=g') (fun b _ _ h=>h.elim .inl (fun h=>.inr (.inr h))) _ _ f2)
          have hp5:PsAt w5 pb G c l e m2:=H0.out.via hA5 T4.out.2 (hblk pb T4.out.2.lt (by have:=hgb.1;omega))
          exact ⟨m2,acc ++ [t2],us ++ [.int .u8 (k2:Nat),.string x2,.int .i64 (n2:Nat),.slice G2 m3 c3],g',cap',rfl,by have:=HM.out;simp;omega,by simp,Lib.hid (by simpa using O5.out),Lib.hid (tms_snoc _ _ e3 f3),Lib.hid ⟨hA5,hp5⟩,Lib.hid ⟨f,HF.out,HR4.out⟩⟩
      ·
       rw [if_neg c1] at hp2
       have c2:isW l n' ⟨#[44]⟩=false:=Bool.eq_false_iff.2 c1
       rw [c2] at KT
       have KM3:=Lib.hid (fun w2 hp=>must_says w2 pb c e n' G l hp HL.out ⟨#[41]⟩)
       clear c1 c2 hp hf hR
       by_cases c3:isW l n' sShut=true
       ·
        rw [if_pos c3] at hp2
        injection hp2 with hp2
        have KM4:Hid (∀ w2,PsAt w2 pb G c l e n'→Calls Tryz.prog 276 #[.pointer (some ⟨pb,0,none⟩),.string ⟨#[41]⟩] w2 fun E w'=>E=.returned (.tuple #[])∧Stay w2 pb G c l e (n'+1) w'):=Lib.hid (fun w2 hp=>(KM3.out w2 hp).mono fun E w' h=>h.1 c3)
        have HQ2:Hid (∀ w' v,RowOf w' (Only pb) w.heap.size acc v→Stay w pb G c l e (n'+1) w'→Q (.returned v) w'):=Lib.hid (fun w' v h1 h2=>by rw [← HQ.out,← hp2];exact ⟨_,rfl,h1,h2⟩)
        clear KM3 c3 hp2
        go_wp2_with fail
        refine KT.out.mono ?_
        rintro r0 w3 ⟨h1,_,h2⟩
        obtain ⟨rfl,h3⟩:=h2 trivial
        have A3:=Lib.hid h1
        have P3:=Lib.hid h3
        clear h1 h2 h3 KT
        go_wp2_with fail
        refine (KM4.out _ P3.out).mono ?_
        rintro r0 w4 ⟨rfl,hst⟩
        have T4:=Lib.hid hst
        clear hst
        go_wp2_with fail
        have ha:Adv wr pb w4:=(((Adv.refl wr pb).since HX.out).trans A3.out).trans T4.out.1
        exact HQ2.out _ _ (own_row hO.out hT.out hpb ha) ⟨hS.out.1.trans ha,T4.out.2⟩
       ·
        rw [if_neg c3] at hp2
        injection hp2 with hp2
        have KM4:Hid (∀ w2,PsAt w2 pb G c l e n'→Calls Tryz.prog 276 #[.pointer (some ⟨pb,0,none⟩),.string ⟨#[41]⟩] w2 fun E w'=>E=.panicked [{ v:=.iface 173 (.agg #[.int .i64 (placeOf l e n':Nat)]),recovered:=false }]∧Adv w2 pb w'):=Lib.hid (fun w2 hp=>(KM3.out w2 hp).mono fun E w' h=>h.2 (Bool.eq_false_iff.2 c3))
        have HQ2:Hid (∀ w',Adv w pb w'→Q (strayE (placeOf l e n')) w'):=Lib.hid (fun w' h=>by rw [← HQ.out,← hp2];exact ⟨rfl,h⟩)
        clear KM3 c3 hp2
        go_wp2_with fail
        refine KT.out.mono ?_
        rintro r0 w3 ⟨h1,_,h2⟩
        obtain ⟨rfl,h3⟩:=h2 trivial
        have A3:=Lib.hid h1
        have P3:=Lib.hid h3
        clear h1 h2 h3 KT
        go_wp2_with fail
        refine (KM4.out _ P3.out).mono ?_
        rintro r0 w4 ⟨rfl,ha⟩
        have A4:=Lib.hid ha
        clear ha
        go_wp2_with fail
        exact ⟨rfl,HQ2.out _ (((hS.out.1.since HX.out).trans A3.out).trans A4.out)⟩
 ·
  rw [if_neg c1] at hr2
  have c2:isW l n ⟨#[40]⟩=false:=Bool.eq_false_iff.2 c1
  have KM2:Hid (Calls Tryz.prog 276 #[.pointer (some ⟨pb,0,none⟩),.string ⟨#[40]⟩] w fun E w'=>E=.panicked [{ v:=.iface 173 (.agg #[.int .i64 (placeOf l e n:Nat)]),recovered:=false }]∧Adv w pb w'):=Lib.hid (KM.out.mono fun E w' h=>h.2 c2)
  injection hr2 with hr2
  have HQ2:Hid (∀ w',Adv w pb w'→Q (strayE (placeOf l e n)) w'):=Lib.hid (fun w' h=>by rw [← HQ.out,← hr2];exact ⟨rfl,h⟩)
  clear KM c1 c2 hr2
  go_enter Tryz.func279,Tryz.ntmps279
  go_wp2_with fail
  refine KM2.out.mono ?_
  rintro r0 w1 ⟨rfl,ha⟩
  have A1:=Lib.hid ha
  clear ha
  go_wp2_with fail
  exact ⟨rfl,HQ2.out _ A1.out⟩
end Go.Proofs.YthbdlnflmfchjaaGreatDoor
