/- Appending one element to a row of one's own, whatever the element. -/
import Derived.Test.YthbdlnflmfchjaaGreatDoorWO
import Derived.Test.YthbdlnflmfchjaaGreatDoorV5
import Derived.Test.YthbdlnflmfchjaaGreatDoorPT
set_option linter.unusedVariables false
set_option linter.unusedSimpArgs false
namespace Go.Proofs.YthbdlnflmfchjaaGreatDoor
open Go.RowKit Go.Proofs.Fm Go.Proofs.MapEnt
set_option maxHeartbeats 200000
set_option maxRecDepth 1000000
theorem append_one {ts e:TypeId} {size bytes:Nat} {z:Value} (ht:Tryz.prog.underlying ts=some (.slice e)) (hinfo:(Tryz.prog.info? e).map (fun i=>(i.zero,i.size,i.bytes))=some (some z,size,bytes)) (hz:z.cells.size=size) (hs0:0 < size) (hb:bytes≤1000)
  (W:World) (base:Nat) (G:Option Addr) (cnt cap:Nat) (us news:List Value) (hO:W.ownsRow base e size (.slice G cnt cap) cnt us) (hl:news.length=size) (h1:∀ u ∈ news,u.oneCell'=true) (hn:cnt+1≤200000) (hbase:base≤W.heap.size):
  ∃ v' w6 g' cap',(Builtin.append_ #[ts,ts] ts #[.slice G cnt cap,.slice (some ⟨W.heap.size,0,none⟩) 1 1]).run Tryz.prog (W.alloc (.cells news.toArray e))=.ok v' w6∧
   v'=.slice (some ⟨g',0,none⟩) (cnt+1) cap'∧base≤g'∧g' < w6.heap.size∧Hid (w6.ownsRow base e size (.slice (some ⟨g',0,none⟩) (cnt+1) cap') (cnt+1) (us ++ news))∧Hid (W.Since base w6)∧Hid (∀ k,k < W.heap.size→G.map (·.block) ≠ some k→w6.heap[k]?=W.heap[k]?):=by
 have hO4:=own_up (w':=W.alloc (.cells news.toArray e)) hO (fun q _ hq=>Go.Deep.blk_alloc_lt W _ q hq)
 obtain ⟨i0,hi,hz0,hz1,hz2⟩:=info_parts hinfo
 obtain ⟨v',w',r1,r2,r3,_,r4⟩:=run_append_own_at (P:=Tryz.prog) (w:=W.alloc (.cells news.toArray e)) base ts ts e i0 z size bytes ht hi hz0 hz1 hz2 hz hs0 _ cnt us hO4 ⟨W.heap.size,0,none⟩ 1 1 news (by omega)
  (fun j u hu=>by
   have e1:((⟨W.heap.size,0,none⟩:Addr).add j)=⟨W.heap.size,j,none⟩:=by unfold Addr.add;split <;> simp_all
   rw [e1]
   unfold World.cell?
   rw [heap_alloc_new]
   simpa using hu) h1 (by simp only [maxLen];omega) (by
    have:=Nat.mul_le_mul hn hb
    omega) (by simp;omega)
 obtain ⟨g',cap',rfl,hg1,hg2⟩:∃ g' cap',v'=.slice (some ⟨g',0,none⟩) (cnt+1) cap'∧base≤g'∧g' < w'.heap.size:=by
  obtain ⟨_,⟨_,e⟩ | ⟨g',cp,cur,e,h2,h3,_⟩⟩:=r2
  ·
   omega
  ·
   exact ⟨g',cp,e,h2,(Array.getElem?_eq_some_iff.1 h3).1⟩
 refine ⟨_,w',g',cap',r1,rfl,hg1,hg2,Lib.hid r2,Lib.hid (((World.Since.refl base W).alloc hbase _).grown r3 (by simp;omega) (fun q hq=>own_ge hO q hq)),Lib.hid (fun k hk hne=>?_)⟩
 refine (r3.block k (by simp;omega) (fun h=>hne ?_)).trans (Go.Deep.blk_alloc_lt W _ k hk)
 rcases hO.2 with ⟨e2,_⟩ | ⟨g,cp,cur,e2,_⟩
 ·
  rw [e2] at h;cases h
 ·
  injection e2 with e2 _ _
  subst e2
  exact h.symm
theorem oper_append_g {ts:TypeId} {o:Oper} {a:Act} {w w':World} {K:Act→World→Prop} {Q:Exit→Act→World→Prop} (s x:Operand)
  (ho:o.op=.call { callee:=.builtin .append,args:=#[s,x],argTypes:=#[ts,ts] }) (ht:o.type=ts)
  {v v' xv:Value} (hs:a.eval s=v) (hx:a.eval x=xv) (hr:(Builtin.append_ #[ts,ts] ts #[v,xv]).run Tryz.prog w=.ok v' w')
  (h:K (a.put o.dst v') w'):Oper.wp Tryz.prog o a w K Q:=by
 unfold Oper.wp execOp
 simp only [ho,ht,resolve,invoke,builtin,Sem.run_bind,Sem.run_pure,Result.andThen_ok,List.map_toArray,List.map_cons,List.map_nil,hs,hx,hr]
 exact h
theorem wpList_append_g {ts:TypeId} {ops:Array Oper} {rest:List Oper} {o:Oper} {a:Act} {w w':World} {Q:Exit→Act→World→Prop} (hg:o.guard=none) (s x:Operand)
  (ho:o.op=.call { callee:=.builtin .append,args:=#[s,x],argTypes:=#[ts,ts] }) (ht:o.type=ts)
  {v v' xv:Value} (hs:a.eval s=v) (hx:a.eval x=xv) (hr:(Builtin.append_ #[ts,ts] ts #[v,xv]).run Tryz.prog w=.ok v' w')
  (h:wpList Tryz.prog ops Q rest (a.put o.dst v') w'):wpList Tryz.prog ops Q (o :: rest) a w:=
 wpList_plain hg fun _ hK=>oper_append_g s x ho ht hs hx hr (hK _ _ h)
end Go.Proofs.YthbdlnflmfchjaaGreatDoor
namespace Go.Proofs.YthbdlnflmfchjaaGreatDoor
open Go.RowKit Go.Proofs.Fm Go.Proofs.MapEnt
mutual
def dep:Tm→Nat
 | .mk _ _ _ subs=>depL subs+1
def depL:List Tm→Nat
 | []=>0
 | t :: ts=>max (dep t) (depL ts)
end
mutual
def siz:Tm→Nat
 | .mk _ _ _ subs=>sizL subs+1
def sizL:List Tm→Nat
 | []=>0
 | t :: ts=>siz t+sizL ts
end
theorem siz_pos (t:Tm):0 < siz t:=by cases t;rw [siz];omega
theorem depL_take:∀ (ts:List Tm) (i:Nat) (h:i < ts.length),depL (ts.take (i+1))=max (depL (ts.take i)) (dep ts[i])
 | [],i,h=>absurd h (Nat.not_lt_zero _)
 | t :: ts,0,h=>by
  show max (dep t) (depL [])=max (depL []) (dep t)
  rw [depL];omega
 | t :: ts,i+1,h=>by
  have h':i < ts.length:=Nat.lt_of_succ_lt_succ h
  have ih:=depL_take ts i h'
  show max (dep t) (depL (ts.take (i+1)))=max (max (dep t) (depL (ts.take i))) (dep ts[i])
  rw [ih];omega
theorem siz_le:∀ (ts:List Tm) (i:Nat) (h:i < ts.length),siz ts[i]≤sizL ts
 | [],i,h=>absurd h (Nat.not_lt_zero _)
 | t :: ts,0,h=>by show siz t≤siz t+sizL ts;omega
 | t :: ts,i+1,h=>by
  have h':i < ts.length:=Nat.lt_of_succ_lt_succ h
  have ih:=siz_le ts i h'
  show siz ts[i]≤siz t+sizL ts;omega
theorem siz_length:∀ ts:List Tm,ts.length≤sizL ts
 | []=>Nat.zero_le _
 | t :: ts=>by
  have:=siz_length ts
  have:=siz_pos t
  rw [List.length_cons,sizL];omega
mutual
theorem dep_siz:∀ t:Tm,dep t≤siz t
 | .mk _ _ _ subs=>by
  have:=depL_siz subs
  rw [dep,siz];omega
theorem depL_siz:∀ ts:List Tm,depL ts≤sizL ts
 | []=>Nat.le_refl _
 | t :: ts=>by
  have:=dep_siz t
  have:=depL_siz ts
  rw [depL,sizL];omega
end
theorem dep_at (ts:List Tm) (i:Nat) (h:i < ts.length):dep ts[i]≤sizL ts:=Nat.le_trans (dep_siz _) (siz_le ts i h)
theorem dep_take (ts:List Tm):∀ i,depL (ts.take i)≤sizL ts
 | 0=>by rw [List.take_zero,depL];exact Nat.zero_le _
 | i+1=>by
  by_cases h:i < ts.length
  ·
   rw [depL_take ts i h]
   have:=dep_take ts i
   have:=dep_at ts i h
   omega
  ·
   rw [List.take_of_length_le (by omega)];exact depL_siz ts
theorem tm_4 {w:World} {A:Nat→Prop} {lo:Nat} {t:Tm} {cs:List Value} (h:TmAt w A lo t cs):∃ a b c d,cs=[a,b,c,d]:=by
 cases t with
 | mk k x n subs=>unfold TmAt at h;obtain ⟨G,c,us,h1,_⟩:=h;exact ⟨_,_,_,_,h1⟩
theorem tms_get {w:World} {A:Nat→Prop} {lo:Nat}:∀ (ts:List Tm) (us:List Value),TmsAt w A lo ts us→us.length=ts.length * 4∧∀ i (h:i < ts.length),∃ a b c d,TmAt w A lo ts[i] [a,b,c,d]∧us[i * 4]?=some a∧us[i * 4+1]?=some b∧us[i * 4+2]?=some c∧us[i * 4+3]?=some d
 | [],us,h=>by
  unfold TmsAt at h
  subst h
  exact ⟨rfl,fun i h=>absurd h (Nat.not_lt_zero _)⟩
 | t :: ts,us,h=>by
  unfold TmsAt at h
  obtain ⟨a,b,rfl,h1,h2⟩:=h
  obtain ⟨v0,v1,v2,v3,rfl⟩:=tm_4 h1
  obtain ⟨hl,hg⟩:=tms_get ts b h2
  refine ⟨by rw [List.length_append,hl,List.length_cons];simp;omega,fun i hi=>?_⟩
  cases i with
  | zero=>exact ⟨v0,v1,v2,v3,h1,rfl,rfl,rfl,rfl⟩
  | succ i=>
   obtain ⟨c0,c1,c2,c3,g1,g2,g3,g4,g5⟩:=hg i (Nat.lt_of_succ_lt_succ hi)
   have e:(i+1) * 4=i * 4+1+1+1+1:=by omega
   exact ⟨c0,c1,c2,c3,g1,by rw [e];exact g2,by rw [e];exact g3,by rw [e];exact g4,by rw [e];exact g5⟩
end Go.Proofs.YthbdlnflmfchjaaGreatDoor
namespace Go.Proofs.YthbdlnflmfchjaaGreatDoor
open Go.RowKit Go.Proofs.Fm Go.Proofs.MapEnt
set_option maxHeartbeats 1600000
set_option maxRecDepth 1000000
theorem deep_says:∀ (K:Nat) (t:Tm) (w:World) (A:Nat→Prop) (lo:Nat) (cs:List Value),siz t≤K→K≤1000000→TmAt w A lo t cs →
  Calls Tryz.prog 40 #[.agg cs.toArray] w fun E w'=>E=.returned (.int .i64 (dep t:Nat))∧w.Since w.heap.size w'
 | 0,.mk k x n subs,w,A,lo,cs,hK,_,_=>by rw [siz] at hK;omega
 | K+1,.mk k x n subs,w,A,lo,cs,hK,hM,h=>by
  have IH:=Lib.hid (fun (t:Tm) (w:World) (cs:List Value) h1 h2=>deep_says K t w A lo cs h1 (by omega) h2)
  rw [siz] at hK
  unfold TmAt at h
  obtain ⟨G,c,us,rfl,hr,hs⟩:=h
  obtain ⟨hl,hg⟩:=tms_get subs us hs
  have HG:Hid (∀ i (h:i < subs.length),∃ b v0 v1 v2 v3,G=some ⟨b,0,none⟩∧b < w.heap.size∧TmAt w A lo subs[i] [v0,v1,v2,v3]∧w.cell? ⟨b,i * 4,none⟩=some v0∧w.cell? ⟨b,i * 4+1,none⟩=some v1∧w.cell? ⟨b,i * 4+2,none⟩=some v2∧w.cell? ⟨b,i * 4+3,none⟩=some v3):=Lib.hid (fun i hi=>by
   obtain ⟨v0,v1,v2,v3,g0,g1,g2,g3,g4⟩:=hg i hi
   rcases hr with ⟨e,_⟩ | ⟨b,e1,_,_,e4,e5⟩
   ·
    rw [e] at hl;simp at hl;omega
   ·
    have hc:∀ j v,us[j]?=some v→w.cell? ⟨b,j,none⟩=some v:=fun j v hj=>by
     obtain ⟨h1,h2⟩:=List.getElem?_eq_some_iff.1 hj
     rw [e5 j h1,h2]
    exact ⟨b,v0,v1,v2,v3,e1,e4,g0,hc _ _ g1,hc _ _ g2,hc _ _ g3,hc _ _ g4⟩)
  have HT:=Lib.hid (fun i h=>depL_take subs i h)
  have HTB:=Lib.hid (fun i=>dep_take subs i)
  have HSB:=Lib.hid (fun i h=>siz_le subs i h)
  have HDB:=Lib.hid (fun i h=>dep_at subs i h)
  have HF:Hid (depL (subs.take subs.length)=depL subs):=Lib.hid (by rw [List.take_length])
  have HK:Hid (sizL subs≤K):=Lib.hid (by omega)
  have HR:Hid (dep (.mk k x n subs)=depL subs+1):=Lib.hid (by rw [dep])
  generalize dep (.mk k x n subs)=D at HR ⊢
  have hlen:subs.length≤1000000:=by have:=siz_length subs;omega
  have S1:Hid (w.Since w.heap.size (w.alloc (.cells #[.int .u8 (k:Nat),.string x,.int .i64 (n:Nat),.slice G subs.length c] 39))):=Lib.hid ((World.Since.refl _ _).alloc (Nat.le_refl _) _)
  have B1:=Lib.hid (heap_alloc_new w (.cells #[.int .u8 (k:Nat),.string x,.int .i64 (n:Nat),.slice G subs.length c] 39))
  clear hr hs hl hg hK
  go_enter Tryz.func40,Tryz.ntmps40
  obtain ⟨-,-,-,y3,-⟩:=cells4 B1.out
  go_wp2_with fail
  go_loopg [3,9] subs.length (fun gg o3 o9 wr=>∃ (i v:Nat),gg=subs.length - i∧i≤subs.length∧o3=.int .i64 (v:Nat)∧o9=.int .i64 (i:Nat)∧Hid (v=depL (subs.take i))∧Hid (w.Since w.heap.size wr)∧Hid (wr.heap[w.heap.size]?=some (.cells #[.int .u8 (k:Nat),.string x,.int .i64 (n:Nat),.slice G subs.length c] 39)))
  case atStart=>exact ⟨0,0,by omega,by omega,rfl,rfl,Lib.hid rfl,S1,B1⟩
  case round=>
   obtain ⟨i,v,rfl,hi,rfl,rfl,hV,hW,hB⟩:=hrel
   obtain ⟨-,-,-,p3,-⟩:=cells4 hB.out
   by_cases h1:i < subs.length
   ·
    obtain ⟨b,v0,v1,v2,v3,hG,hb,ht,g0,g1,g2,g3⟩:=HG.out i h1
    obtain ⟨k',x',n',G',m',c',ev⟩:=tm_four ht
    cases ev
    have hv:v≤1000000:=by rw [hV.out];have:=HTB.out i;have:=HK.out;omega
    have hd:dep subs[i]≤1000000:=by have:=HDB.out i h1;have:=HK.out;omega
    have HVT:Hid (max v (dep subs[i])=depL (subs.take (i+1))):=Lib.hid (by rw [HT.out i h1,← hV.out])
    have hWa:=hW.out.alloc hW.out.size (.cells #[.int .u8 (k':Nat),.string x',.int .i64 (n':Nat),.slice G' m' c'] 39)
    have ht2:TmAt (wr.alloc (.cells #[.int .u8 (k':Nat),.string x',.int .i64 (n':Nat),.slice G' m' c'] 39)) A lo subs[i] [.int .u8 (k':Nat),.string x',.int .i64 (n':Nat),.slice G' m' c']:=TmAt.up ⟨hWa.size,fun q _ hq _=>hWa.block q hq⟩ _ _ ht
    have W2:=Lib.hid hWa
    have B2:=Lib.hid ((Go.Deep.blk_alloc_lt wr (.cells #[.int .u8 (k':Nat),.string x',.int .i64 (n':Nat),.slice G' m' c'] 39) w.heap.size (blk_lt hB.out)).trans hB.out)
    have K1:=Lib.hid (IH.out subs[i] (wr.alloc (.cells #[.int .u8 (k':Nat),.string x',.int .i64 (n':Nat),.slice G' m' c'] 39)) _ (by have:=HSB.out i h1;have:=HK.out;omega) ht2)
    generalize dep subs[i]=d at HVT hd K1
    have cc:∀ j v,w.cell? ⟨b,j,none⟩=some v→wr.cell? ⟨b,j,none⟩=some v:=fun j v hj=>(World.cell?_of_block (hW.out.block b hb)).trans hj
    have c0:=cc _ _ g0
    have c1:=cc _ _ g1
    have c2:=cc _ _ g2
    have c3:=cc _ _ g3
    subst hG
    have i1:(i:Int) < (subs.length:Int):=by omega
    have z5:IntKind.i64.wrap ((i:Int)+1)=(i:Int)+1:=IntWalk.i64_in _ (by omega)
    clear ht ht2 g0 g1 g2 g3 cc hWa
    go_wp2_with fail
    refine K1.out.mono ?_
    rintro r0 w3 ⟨rfl,hs3⟩
    have W3:=Lib.hid (wr_since W2.out hs3)
    have B3:=Lib.hid ((hs3.block w.heap.size (blk_lt B2.out)).trans B2.out)
    clear hs3
    go_wp2_with fail
    go_roundg (subs.length - (i+1))
    case measure=>omega
    case rel=>exact ⟨i+1,max v d,rfl,by omega,by first | rfl | (congr 1;omega),by simp,HVT,W3,B3⟩
   ·
    have i1:¬ (i:Int) < (subs.length:Int):=by omega
    have hv:v≤1000000:=by rw [hV.out];have:=HTB.out i;have:=HK.out;omega
    have hD:Hid (v+1=D):=Lib.hid (by rw [HR.out,← HF.out,hV.out,show i=subs.length by omega])
    have z5:IntKind.i64.wrap ((v:Int)+1)=(v:Int)+1:=IntWalk.i64_in _ (by omega)
    go_wp2_with fail
    go_ret
    exact ⟨by rw [← hD.out];rfl,hW.out⟩
end Go.Proofs.YthbdlnflmfchjaaGreatDoor
namespace Go.Proofs.YthbdlnflmfchjaaGreatDoor
open Go.RowKit Go.Proofs.Fm Go.Proofs.MapEnt
set_option maxHeartbeats 1600000
set_option maxRecDepth 1000000
def cmpP (x:ByteArray) (a b:Nat):Bool:=
 if x=⟨#[61,61]⟩ ∨ x=⟨#[33,61]⟩ then decide (a=b∧a ≠ 4)
 else if x=⟨#[105,110]⟩ then decide (a=2∧b=3)
 else if x=⟨#[126]⟩ then decide (a=3∧b=3)
 else decide (a=1∧b=1)
theorem pcompared_says (x:ByteArray) (a b:Nat) (w:World):Calls Tryz.prog 100 #[.string x,.int .u8 (a:Nat),.int .u8 (b:Nat)] w fun E w'=>E=.returned (.bool (cmpP x a b))∧w'=w:=by
 have ne:∀ {p q:Nat},p ≠ q→((p:Int) == (q:Int))=false:=fun h=>beq_eq_false_iff_ne.2 (fun e=>h (Int.ofNat.inj e))
 have eq:∀ {p q:Nat},p=q→((p:Int) == (q:Int))=true:=fun h=>beq_iff_eq.2 (by rw [h])
 by_cases k0:x=⟨#[61,61]⟩
 ·
  have HX:Hid (cmpP x a b=decide (a=b∧a ≠ 4)):=Lib.hid (by unfold cmpP;subst k0;first | exact if_pos (.inl rfl) | exact if_pos (.inr rfl) | exact (if_neg (by decide)).trans (if_pos rfl) | exact (if_neg (by decide)).trans ((if_neg (by decide)).trans (if_pos rfl)))
  subst k0
  by_cases hab:a=b
  ·
   have fab:((a:Int) == (b:Int))=true:=eq hab
   by_cases h4:a=4
   ·
    have f4:((a:Int) == 4)=true:=eq (q:=4) h4
    have g4:((a:Int) != 4)=false:=by unfold bne;rw [f4];rfl
    have HR:Hid (cmpP ⟨#[61,61]⟩ a b=false):=Lib.hid (by rw [HX.out];exact decide_eq_false (fun h=>h.2 h4))
    clear hab h4
    clear ne eq
    go_enter Tryz.func100,Tryz.ntmps100
    go_wp2_with fail
    exact bodyPost_ret (v:=.bool false) (by simp [results,Tryz.results100,go_sem]) rfl ⟨by rw [HR.out],rfl⟩
   have f4:((a:Int) == 4)=false:=ne (q:=4) h4
   have g4:((a:Int) != 4)=true:=by unfold bne;rw [f4];rfl
   have HR:Hid (cmpP ⟨#[61,61]⟩ a b=true):=Lib.hid (by rw [HX.out];exact decide_eq_true ⟨hab,h4⟩)
   clear hab h4
   clear ne eq
   go_enter Tryz.func100,Tryz.ntmps100
   go_wp2_with fail
   exact bodyPost_ret (v:=.bool true) (by simp [results,Tryz.results100,go_sem]) rfl ⟨by rw [HR.out],rfl⟩
  ·
   have fab:((a:Int) == (b:Int))=false:=ne hab
   have HR:Hid (cmpP ⟨#[61,61]⟩ a b=false):=Lib.hid (by rw [HX.out];exact decide_eq_false (fun h=>hab h.1))
   clear hab
   clear ne eq
   go_enter Tryz.func100,Tryz.ntmps100
   go_wp2_with fail
   exact bodyPost_ret (v:=.bool false) (by simp [results,Tryz.results100,go_sem]) rfl ⟨by rw [HR.out],rfl⟩
 by_cases k1:x=⟨#[33,61]⟩
 ·
  have HX:Hid (cmpP x a b=decide (a=b∧a ≠ 4)):=Lib.hid (by unfold cmpP;subst k1;first | exact if_pos (.inl rfl) | exact if_pos (.inr rfl) | exact (if_neg (by decide)).trans (if_pos rfl) | exact (if_neg (by decide)).trans ((if_neg (by decide)).trans (if_pos rfl)))
  subst k1
  by_cases hab:a=b
  ·
   have fab:((a:Int) == (b:Int))=true:=eq hab
   by_cases h4:a=4
   ·
    have f4:((a:Int) == 4)=true:=eq (q:=4) h4
    have g4:((a:Int) != 4)=false:=by unfold bne;rw [f4];rfl
    have HR:Hid (cmpP ⟨#[33,61]⟩ a b=false):=Lib.hid (by rw [HX.out];exact decide_eq_false (fun h=>h.2 h4))
    clear hab h4
    clear ne eq
    go_enter Tryz.func100,Tryz.ntmps100
    go_wp2_with fail
    exact bodyPost_ret (v:=.bool false) (by simp [results,Tryz.results100,go_sem]) rfl ⟨by rw [HR.out],rfl⟩
   have f4:((a:Int) == 4)=false:=ne (q:=4) h4
   have g4:((a:Int) != 4)=true:=by unfold bne;rw [f4];rfl
   have HR:Hid (cmpP ⟨#[33,61]⟩ a b=true):=Lib.hid (by rw [HX.out];exact decide_eq_true ⟨hab,h4⟩)
   clear hab h4
   clear ne eq
   go_enter Tryz.func100,Tryz.ntmps100
   go_wp2_with fail
   exact bodyPost_ret (v:=.bool true) (by simp [results,Tryz.results100,go_sem]) rfl ⟨by rw [HR.out],rfl⟩
  ·
   have fab:((a:Int) == (b:Int))=false:=ne hab
   have HR:Hid (cmpP ⟨#[33,61]⟩ a b=false):=Lib.hid (by rw [HX.out];exact decide_eq_false (fun h=>hab h.1))
   clear hab
   clear ne eq
   go_enter Tryz.func100,Tryz.ntmps100
   go_wp2_with fail
   exact bodyPost_ret (v:=.bool false) (by simp [results,Tryz.results100,go_sem]) rfl ⟨by rw [HR.out],rfl⟩
 by_cases k2:x=⟨#[105,110]⟩
 ·
  have HX:Hid (cmpP x a b=decide (a=2∧b=3)):=Lib.hid (by unfold cmpP;subst k2;first | exact if_pos (.inl rfl) | exact if_pos (.inr rfl) | exact (if_neg (by decide)).trans (if_pos rfl) | exact (if_neg (by decide)).trans ((if_neg (by decide)).trans (if_pos rfl)))
  subst k2
  by_cases ha:a=2
  ·
   have fa:((a:Int) == 2)=true:=eq (q:=2) ha
   by_cases hb:b=3
   ·
    have fb:((b:Int) == 3)=true:=eq (q:=3) hb
    have HR:Hid (cmpP ⟨#[105,110]⟩ a b=true):=Lib.hid (by rw [HX.out];exact decide_eq_true ⟨ha,hb⟩)
    clear ha hb
    clear ne eq
    go_enter Tryz.func100,Tryz.ntmps100
    go_wp2_with fail
    exact bodyPost_ret (v:=.bool true) (by simp [results,Tryz.results100,go_sem]) rfl ⟨by rw [HR.out],rfl⟩
   ·
    have fb:((b:Int) == 3)=false:=ne (q:=3) hb
    have HR:Hid (cmpP ⟨#[105,110]⟩ a b=false):=Lib.hid (by rw [HX.out];exact decide_eq_false (fun h=>hb h.2))
    clear ha hb
    clear ne eq
    go_enter Tryz.func100,Tryz.ntmps100
    go_wp2_with fail
    exact bodyPost_ret (v:=.bool false) (by simp [results,Tryz.results100,go_sem]) rfl ⟨by rw [HR.out],rfl⟩
  ·
   have fa:((a:Int) == 2)=false:=ne (q:=2) ha
   have HR:Hid (cmpP ⟨#[105,110]⟩ a b=false):=Lib.hid (by rw [HX.out];exact decide_eq_false (fun h=>ha h.1))
   clear ha
   clear ne eq
   go_enter Tryz.func100,Tryz.ntmps100
   go_wp2_with fail
   exact bodyPost_ret (v:=.bool false) (by simp [results,Tryz.results100,go_sem]) rfl ⟨by rw [HR.out],rfl⟩
 by_cases k3:x=⟨#[126]⟩
 ·
  have HX:Hid (cmpP x a b=decide (a=3∧b=3)):=Lib.hid (by unfold cmpP;subst k3;first | exact if_pos (.inl rfl) | exact if_pos (.inr rfl) | exact (if_neg (by decide)).trans (if_pos rfl) | exact (if_neg (by decide)).trans ((if_neg (by decide)).trans (if_pos rfl)))
  subst k3
  by_cases ha:a=3
  ·
   have fa:((a:Int) == 3)=true:=eq (q:=3) ha
   by_cases hb:b=3
   ·
    have fb:((b:Int) == 3)=true:=eq (q:=3) hb
    have HR:Hid (cmpP ⟨#[126]⟩ a b=true):=Lib.hid (by rw [HX.out];exact decide_eq_true ⟨ha,hb⟩)
    clear ha hb
    clear ne eq
    go_enter Tryz.func100,Tryz.ntmps100
    go_wp2_with fail
    exact bodyPost_ret (v:=.bool true) (by simp [results,Tryz.results100,go_sem]) rfl ⟨by rw [HR.out],rfl⟩
   ·
    have fb:((b:Int) == 3)=false:=ne (q:=3) hb
    have HR:Hid (cmpP ⟨#[126]⟩ a b=false):=Lib.hid (by rw [HX.out];exact decide_eq_false (fun h=>hb h.2))
    clear ha hb
    clear ne eq
    go_enter Tryz.func100,Tryz.ntmps100
    go_wp2_with fail
    exact bodyPost_ret (v:=.bool false) (by simp [results,Tryz.results100,go_sem]) rfl ⟨by rw [HR.out],rfl⟩
  ·
   have fa:((a:Int) == 3)=false:=ne (q:=3) ha
   have HR:Hid (cmpP ⟨#[126]⟩ a b=false):=Lib.hid (by rw [HX.out];exact decide_eq_false (fun h=>ha h.1))
   clear ha
   clear ne eq
   go_enter Tryz.func100,Tryz.ntmps100
   go_wp2_with fail
   exact bodyPost_ret (v:=.bool false) (by simp [results,Tryz.results100,go_sem]) rfl ⟨by rw [HR.out],rfl⟩
 have HX:Hid (cmpP x a b=decide (a=1∧b=1)):=Lib.hid (by unfold cmpP;rw [if_neg (fun h=>h.elim k0 k1),if_neg k2,if_neg k3])
 have b0:=bytes_beq x ⟨#[61,61]⟩
 rw [decide_eq_false k0,show (⟨#[61,61]⟩:ByteArray).toList=[61,61] from by rw [Lib.toList_data]] at b0
 have b1:=bytes_beq x ⟨#[33,61]⟩
 rw [decide_eq_false k1,show (⟨#[33,61]⟩:ByteArray).toList=[33,61] from by rw [Lib.toList_data]] at b1
 have b2:=bytes_beq x ⟨#[105,110]⟩
 rw [decide_eq_false k2,show (⟨#[105,110]⟩:ByteArray).toList=[105,110] from by rw [Lib.toList_data]] at b2
 have b3:=bytes_beq x ⟨#[126]⟩
 rw [decide_eq_false k3,show (⟨#[126]⟩:ByteArray).toList=[126] from by rw [Lib.toList_data]] at b3
 clear k0 k1 k2 k3
 by_cases ha:a=1
 ·
  have fa:((a:Int) == 1)=true:=eq (q:=1) ha
  by_cases hb:b=1
  ·
   have fb:((b:Int) == 1)=true:=eq (q:=1) hb
   have HR:Hid (cmpP x a b=true):=Lib.hid (by rw [HX.out];exact decide_eq_true ⟨ha,hb⟩)
   clear ha hb
   clear ne eq
   go_enter Tryz.func100,Tryz.ntmps100
   go_wp2_with fail
   exact bodyPost_ret (v:=.bool true) (by simp [results,Tryz.results100,go_sem]) rfl ⟨by rw [HR.out],rfl⟩
  ·
   have fb:((b:Int) == 1)=false:=ne (q:=1) hb
   have HR:Hid (cmpP x a b=false):=Lib.hid (by rw [HX.out];exact decide_eq_false (fun h=>hb h.2))
   clear ha hb
   clear ne eq
   go_enter Tryz.func100,Tryz.ntmps100
   go_wp2_with fail
   exact bodyPost_ret (v:=.bool false) (by simp [results,Tryz.results100,go_sem]) rfl ⟨by rw [HR.out],rfl⟩
 ·
  have fa:((a:Int) == 1)=false:=ne (q:=1) ha
  have HR:Hid (cmpP x a b=false):=Lib.hid (by rw [HX.out];exact decide_eq_false (fun h=>ha h.1))
  clear ha
  clear ne eq
  go_enter Tryz.func100,Tryz.ntmps100
  go_wp2_with fail
  exact bodyPost_ret (v:=.bool false) (by simp [results,Tryz.results100,go_sem]) rfl ⟨by rw [HR.out],rfl⟩
end Go.Proofs.YthbdlnflmfchjaaGreatDoor
namespace Go.Proofs.YthbdlnflmfchjaaGreatDoor
open Go.RowKit Go.Proofs.Fm Go.Proofs.MapEnt Go.Proofs.Uni
def cls (c:Nat):Bool:=c=97 || c=117 || c=108 || c=100 || c=115 || c=112 || c=104 || c=46 || c=37 || c=98
def itN:List Nat→Option Nat
 | []=>some 0
 | [r]=>if r=37 then none else some 1
 | r :: c :: l=>if r=37 then (if cls c then (itN l).map (·+1) else none) else (itN (c :: l)).map (·+1)
def brkE (s:ByteArray):Nat:=match itN (runes s.data.toList) with
 | none=>4
 | some n=>if isT s=false then 4 else if 32 < n then 3 else 0
def patOf:Tm→Bool
 | .mk k x _ _=>decide (k=2) && decide (brkE x=0)
def sHas:ByteArray:=⟨#[104,97,115]⟩
def ownK (k:Nat) (x:ByteArray) (subs:List Tm) (l:List Nat) (ns:List ByteArray):Except Nat Nat:=
 if k=1 then .ok 1
 else if k=2 then .ok 2
 else if k=3 then (if ns.any fun y=>decide (y=x) then .ok 2 else .error 5)
 else if k=4 ∨ k=5 then .ok 4
 else if k=6 ∨ k=11 then
  match findE x with
  | none=>.error 1
  | some e=>if (l.map fun (a:Nat)=>(a:Int))=e.args∧(x=sHas→(subs[1]?.map patOf)=some true) then .ok e.gives.toNat else .error 1
 else if k=7 ∨ k=8 ∨ k=9 then (if l.all fun a=>decide (a=1) then .ok 1 else .error 1)
 else if k=10 then (if cmpP x (l[0]?.getD 0) (l[1]?.getD 0) then .ok 5 else .error 1)
 else if k=15 ∨ k=16 then (if l[0]?.getD 0=3 then .ok 5 else .error 1)
 else .ok 5
def quan (k:Nat):Bool:=decide (k=15) || decide (k=16)
mutual
def typK:Tm→List ByteArray→Except Nat Nat
 | .mk k x _ subs,ns=>match typL (quan k) x subs 0 ns with
  | .error e=>.error e
  | .ok l=>ownK k x subs l ns
def typL (q:Bool) (x:ByteArray):List Tm→Nat→List ByteArray→Except Nat (List Nat)
 | [],_,_=>.ok []
 | t :: ts,i,ns=>match typK t (if decide (i=1) && q then ns ++ [x] else ns) with
  | .error e=>.error e
  | .ok a=>match typL q x ts (i+1) ns with
   | .error e=>.error e
   | .ok l=>.ok (a :: l)
end
theorem typK_mk (k:Nat) (x:ByteArray) (n:Nat) (subs:List Tm) (ns:List ByteArray):typK (.mk k x n subs) ns=match typL (quan k) x subs 0 ns with
  | .error e=>.error e
  | .ok l=>ownK k x subs l ns:=by rw [typK]
theorem typL_nil (q:Bool) (x:ByteArray) (i:Nat) (ns:List ByteArray):typL q x [] i ns=.ok []:=by rw [typL]
theorem typL_cons (q:Bool) (x:ByteArray) (t:Tm) (ts:List Tm) (i:Nat) (ns:List ByteArray):typL q x (t :: ts) i ns=match typK t (if decide (i=1) && q then ns ++ [x] else ns) with
  | .error e=>.error e
  | .ok a=>match typL q x ts (i+1) ns with
   | .error e=>.error e
   | .ok l=>.ok (a :: l):=by rw [typL]
theorem typL_len (q:Bool) (x:ByteArray):∀ (ts:List Tm) (i:Nat) (ns:List ByteArray) (l:List Nat),typL q x ts i ns=.ok l→l.length=ts.length
 | [],i,ns,l,h=>by rw [typL_nil] at h;injection h with h;subst h;rfl
 | t :: ts,i,ns,l,h=>by
  rw [typL_cons] at h
  split at h
  ·
   cases h
  ·
   split at h
   ·
    cases h
   ·
    rename_i l' h2
    injection h with h
    subst h
    rw [List.length_cons,List.length_cons,typL_len q x ts (i+1) ns l' h2]
def inner (q:Bool) (x:ByteArray) (i:Nat) (ns:List ByteArray):List ByteArray:=if decide (i=1) && q then ns ++ [x] else ns
def TyIs (q:Bool) (x:ByteArray) (subs:List Tm) (ns:List ByteArray) (r:Except Nat (List Nat)) (i:Nat) (l0:List Nat):Prop:=
 l0.length=i∧r=(typL q x (subs.drop i) i ns).map (l0 ++ ·)
theorem TyIs.start (q:Bool) (x:ByteArray) (subs:List Tm) (ns:List ByteArray):TyIs q x subs ns (typL q x subs 0 ns) 0 []:=⟨rfl,by
 rw [List.drop_zero]
 cases typL q x subs 0 ns <;> rfl⟩
theorem TyIs.bad {q:Bool} {x:ByteArray} {subs:List Tm} {ns:List ByteArray} {r:Except Nat (List Nat)} {i:Nat} {l0:List Nat} (h:TyIs q x subs ns r i l0) (hi:i < subs.length) {e:Nat} (he:typK subs[i] (inner q x i ns)=.error e):r=.error e:=by
 rw [h.2,List.drop_eq_getElem_cons hi,typL_cons]
 unfold inner at he
 rw [he]
 rfl
theorem TyIs.next {q:Bool} {x:ByteArray} {subs:List Tm} {ns:List ByteArray} {r:Except Nat (List Nat)} {i:Nat} {l0:List Nat} (h:TyIs q x subs ns r i l0) (hi:i < subs.length) {a:Nat} (he:typK subs[i] (inner q x i ns)=.ok a):TyIs q x subs ns r (i+1) (l0 ++ [a]):=by
 refine ⟨by rw [List.length_append,h.1];rfl,?_⟩
 rw [h.2,List.drop_eq_getElem_cons hi,typL_cons]
 unfold inner at he
 rw [he]
 dsimp only
 cases typL q x (subs.drop (i+1)) (i+1) ns with
 | error e=>rfl
 | ok l=>show Except.ok (l0 ++ a :: l)=.ok (l0 ++ [a] ++ l);rw [List.append_assoc];rfl
theorem TyIs.all {q:Bool} {x:ByteArray} {subs:List Tm} {ns:List ByteArray} {r:Except Nat (List Nat)} {i:Nat} {l0:List Nat} (h:TyIs q x subs ns r i l0) (hi:¬ i < subs.length):r=.ok l0:=by
 rw [h.2,List.drop_of_length_le (by omega),typL_nil]
 exact congrArg Except.ok (List.append_nil l0)
abbrev isTerm (t:Tm):Prop:=isTm t
def TyHere (k:Nat) (x:ByteArray) (subs:List Tm):Prop:=
 (k=6→lang.func x=true)∧(k=11→lang.test x=true)∧(k=7 ∨ k=8 ∨ k=9→subs.length=2)∧(k=10→∃ a b,subs=[a,b]∧isTerm a∧isTerm b)∧(k=15 ∨ k=16→subs.length=2)∧x.size≤100000
mutual
def TyOk:Tm→Prop
 | .mk k x _ subs=>TyHere k x subs∧TyOks subs
def TyOks:List Tm→Prop
 | []=>True
 | t :: ts=>TyOk t∧TyOks ts
end
theorem tyOks_at:∀ (ts:List Tm),TyOks ts→∀ i (h:i < ts.length),TyOk ts[i]
 | [],_,i,h=>absurd h (Nat.not_lt_zero _)
 | t :: ts,hh,0,h=>by rw [TyOks] at hh;exact hh.1
 | t :: ts,hh,i+1,h=>by rw [TyOks] at hh;exact tyOks_at ts hh.2 i (Nat.lt_of_succ_lt_succ h)
theorem func_ent {x:ByteArray} (h:lang.func x=true):∃ e,findE x=some e∧e.gives ≠ 5:=by
 unfold lang at h
 dsimp only at h
 cases hx:findE x with
 | none=>rw [hx] at h;cases h
 | some e=>rw [hx] at h;exact ⟨e,rfl,fun h5=>by simp [h5] at h⟩
theorem test_ent {x:ByteArray} (h:lang.test x=true):∃ e,findE x=some e∧e.gives=5:=by
 unfold lang at h
 dsimp only at h
 cases hx:findE x with
 | none=>rw [hx] at h;cases h
 | some e=>rw [hx] at h;exact ⟨e,rfl,of_decide_eq_true h⟩
theorem gives_range:∀ e ∈ table,1≤e.gives∧e.gives≤5:=by decide +kernel
theorem ownK_range {k:Nat} {x:ByteArray} {subs:List Tm} {l:List Nat} {ns:List ByteArray} {a:Nat} (h:ownK k x subs l ns=.ok a):1≤a∧a≤5:=by
 unfold ownK at h
 split at h
 ·
  injection h with h;omega
 split at h
 ·
  injection h with h;omega
 split at h
 ·
  split at h
  ·
   injection h with h;omega
  ·
   cases h
 split at h
 ·
  injection h with h;omega
 split at h
 ·
  split at h
  ·
   cases h
  ·
   rename_i e he
   split at h
   ·
    injection h with h
    have:=gives_range e (findE_name he).1
    omega
   ·
    cases h
 split at h
 ·
  split at h
  ·
   injection h with h;omega
  ·
   cases h
 split at h
 ·
  split at h
  ·
   injection h with h;omega
  ·
   cases h
 split at h
 ·
  split at h
  ·
   injection h with h;omega
  ·
   cases h
 ·
  injection h with h;omega
theorem typK_range {t:Tm} {ns:List ByteArray} {a:Nat} (h:typK t ns=.ok a):1≤a∧a≤5:=by
 cases t with
 | mk k x n subs=>
  rw [typK_mk] at h
  split at h
  ·
   cases h
  ·
   exact ownK_range h
theorem typL_range (q:Bool) (x:ByteArray):∀ (ts:List Tm) (i:Nat) (ns:List ByteArray) (l:List Nat),typL q x ts i ns=.ok l→∀ a ∈ l,1≤a∧a≤5
 | [],i,ns,l,h=>by rw [typL_nil] at h;injection h with h;subst h;intro a ha;cases ha
 | t :: ts,i,ns,l,h=>by
  rw [typL_cons] at h
  split at h
  ·
   cases h
  ·
   rename_i a ha
   split at h
   ·
    cases h
   ·
    rename_i l' h2
    injection h with h
    subst h
    intro b hb
    rcases List.mem_cons.1 hb with rfl | hb
    ·
     exact typK_range ha
    ·
     exact typL_range q x ts (i+1) ns l' h2 b hb
mutual
theorem tyOk_of {B:Nat} (hB:B≤100000):∀ t:Tm,Wf lang t→Txt B t→TyOk t
 | .mk k x n subs,h,ht=>by
  obtain ⟨hh,hs⟩:=wf_mk.1 h
  rw [Txt] at ht
  rw [TyOk]
  refine ⟨⟨hh.func,hh.test,fun hk=>?_,fun hk=>hh.two (by omega),fun hk=>?_,by omega⟩,tyOks_of' hB subs hs ht.2⟩
  ·
   obtain ⟨a,b,e,_,_⟩:=hh.two (by omega);rw [e];rfl
  ·
   obtain ⟨a,b,e,_⟩:=hh.each hk;rw [e];rfl
theorem tyOks_of' {B:Nat} (hB:B≤100000):∀ ts:List Tm,Wfs lang ts→TxtL B ts→TyOks ts
 | [],_,_=>by rw [TyOks];trivial
 | t :: ts,h,ht=>by
  rw [Wfs] at h
  rw [TxtL] at ht
  rw [TyOks]
  exact ⟨tyOk_of hB t h.1 ht.1,tyOks_of' hB ts h.2 ht.2⟩
end
end Go.Proofs.YthbdlnflmfchjaaGreatDoor
namespace Go.Proofs.YthbdlnflmfchjaaGreatDoor
open Go.RowKit Go.Proofs.Fm Go.Proofs.MapEnt Go.Proofs.Uni Go.Proofs.StrIt
theorem itN_nil:itN []=some 0:=by rw [itN]
theorem itN_one {r:Nat} (h:r ≠ 37):∀ l,itN (r :: l)=(itN l).map (·+1)
 | []=>by rw [itN,itN,if_neg h];rfl
 | c :: l=>by rw [itN,if_neg h]
theorem itN_end:itN [37]=none:=by rw [itN,if_pos rfl]
theorem itN_yes {c:Nat} (l:List Nat) (h:cls c=true):itN (37 :: c :: l)=(itN l).map (·+1):=by rw [itN,if_pos rfl,if_pos h]
theorem itN_no {c:Nat} (l:List Nat) (h:cls c=false):itN (37 :: c :: l)=none:=by rw [itN,if_pos rfl,if_neg (by rw [h];exact Bool.false_ne_true)]
def ItIs (rs:List Nat) (r:Option Nat) (i n:Nat):Prop:=r=(itN (rs.drop i)).map (n+·)
theorem ItIs.start (rs:List Nat):ItIs rs (itN rs) 0 0:=by unfold ItIs;rw [List.drop_zero];cases itN rs <;> simp
theorem map_add (o:Option Nat) (n:Nat):(o.map (·+1)).map (n+·)=o.map (n+1+·):=by cases o <;> simp;omega
theorem ItIs.one {rs:List Nat} {r:Option Nat} {i n:Nat} (h:ItIs rs r i n) (hi:i < rs.length) (hc:rs[i] ≠ 37):ItIs rs r (i+1) (n+1):=by
 unfold ItIs at h ⊢
 rw [h,List.drop_eq_getElem_cons hi,itN_one hc,map_add]
theorem ItIs.stop {rs:List Nat} {r:Option Nat} {i n:Nat} (h:ItIs rs r i n) (hi:i < rs.length) (hc:rs[i]=37) (he:¬ i+1 < rs.length):r=none:=by
 unfold ItIs at h
 rw [h,List.drop_eq_getElem_cons hi,hc,List.drop_of_length_le (by omega),itN_end]
 rfl
theorem ItIs.two {rs:List Nat} {r:Option Nat} {i n:Nat} (h:ItIs rs r i n) (hi:i < rs.length) (hc:rs[i]=37) (h2:i+1 < rs.length) (hk:cls rs[i+1]=true):ItIs rs r (i+1+1) (n+1):=by
 unfold ItIs at h ⊢
 rw [h,List.drop_eq_getElem_cons hi,hc,List.drop_eq_getElem_cons h2,itN_yes _ hk,map_add]
theorem ItIs.bad {rs:List Nat} {r:Option Nat} {i n:Nat} (h:ItIs rs r i n) (hi:i < rs.length) (hc:rs[i]=37) (h2:i+1 < rs.length) (hk:cls rs[i+1]=false):r=none:=by
 unfold ItIs at h
 rw [h,List.drop_eq_getElem_cons hi,hc,List.drop_eq_getElem_cons h2,itN_no _ hk]
 rfl
theorem ItIs.all {rs:List Nat} {r:Option Nat} {i n:Nat} (h:ItIs rs r i n) (hi:¬ i < rs.length):r=some n:=by
 unfold ItIs at h
 rw [h,List.drop_of_length_le (by omega),itN_nil]
 rfl
theorem cls_cases {c:Nat} (h:cls c=true):c=97 ∨ c=117 ∨ c=108 ∨ c=100 ∨ c=115 ∨ c=112 ∨ c=104 ∨ c=46 ∨ c=37 ∨ c=98:=by
 unfold cls at h
 simp only [Bool.or_eq_true,decide_eq_true_eq] at h
 omega
theorem cls_not {c:Nat} (h:cls c=false):¬ (c:Int)=97∧¬ (c:Int)=117∧¬ (c:Int)=108∧¬ (c:Int)=100∧¬ (c:Int)=115∧¬ (c:Int)=112∧¬ (c:Int)=104∧¬ (c:Int)=46∧¬ (c:Int)=37∧¬ (c:Int)=98:=by
 unfold cls at h
 simp only [Bool.or_eq_false_iff,decide_eq_false_iff_not] at h
 omega
def fitsRes (r:Option Nat) (E:Ending):Prop:=match r with
 | none=>E=.returned (.tuple #[.slice none 0 0,.bool false])
 | some n=>∃ (G:Option Addr) (c:Nat),E=.returned (.tuple #[.slice G n c,.bool true])
end Go.Proofs.YthbdlnflmfchjaaGreatDoor
namespace Go.Proofs.YthbdlnflmfchjaaGreatDoor
open Go.RowKit Go.Proofs.Fm Go.Proofs.MapEnt Go.Proofs.Uni Go.Proofs.StrIt
theorem runes_empty:runes (⟨#[]⟩:ByteArray).data.toList=[]:=by decide +kernel
theorem isT_empty:isT ⟨#[]⟩=true:=by decide +kernel
end Go.Proofs.YthbdlnflmfchjaaGreatDoor
