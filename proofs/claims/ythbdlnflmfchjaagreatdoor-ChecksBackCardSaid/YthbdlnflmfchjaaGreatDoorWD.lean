/- What a writer that gives up behind 1,000 bytes leaves, plain. -/
import Derived.Test.YthbdlnflmfchjaaGreatDoorPT
import Derived.Test.YthbdlnflmfchjaaGreatDoorBX
set_option linter.unusedVariables false
set_option linter.unusedSimpArgs false
namespace Go.Proofs.YthbdlnflmfchjaaGreatDoor
open Go.RowKit Go.Proofs.Fm
def WR (acc x r:List UInt8):Prop:=(acc.length+x.length≤1000→r=acc ++ x)∧(1000 < acc.length+x.length→1000 < r.length)
theorem WR.nil (acc:List UInt8):WR acc [] acc:=⟨fun _=>by simp,fun h=>by simpa using h⟩
theorem WR.full {acc:List UInt8} (h:1000 < acc.length) (x:List UInt8):WR acc x acc:=⟨fun h'=>by omega,fun _=>h⟩
theorem WR.all (acc x:List UInt8):WR acc x (acc ++ x):=⟨fun _=>rfl,fun h=>by simpa using h⟩
theorem WR.app {acc x a1 y a2:List UInt8} (h:WR acc x a1) (k:WR a1 y a2):WR acc (x ++ y) a2:=by
 unfold WR at h k ⊢
 rw [List.length_append]
 rcases Nat.lt_or_ge 1000 (acc.length+x.length) with h1 | h1
 ·
  have h2:=h.2 h1
  exact ⟨fun _=>by omega,fun _=>k.2 (by omega)⟩
 ·
  have h2:=h.1 h1
  rw [h2,List.length_append,List.append_assoc] at k
  exact ⟨fun h3=>k.1 (by omega),fun h3=>k.2 (by omega)⟩
def put1 (acc s:List UInt8):List UInt8:=if acc.length≤1000 then acc ++ s else acc
theorem put1_wr (acc s:List UInt8):WR acc s (put1 acc s):=by
 unfold put1
 split
 ·
  exact .all _ _
 ·
  exact .full (by omega) _
def putL (acc:List UInt8):List ByteArray→List UInt8
 | []=>acc
 | s :: l=>putL (put1 acc (bytesOf s)) l
def flatB:List ByteArray→List UInt8
 | []=>[]
 | s :: l=>bytesOf s ++ flatB l
theorem putL_wr:∀ (l:List ByteArray) (acc:List UInt8),WR acc (flatB l) (putL acc l)
 | [],acc=>.nil acc
 | s :: l,acc=>(put1_wr acc (bytesOf s)).app (putL_wr l _)
theorem putL_take {l:List ByteArray} {i:Nat} (h:i < l.length) (acc:List UInt8):putL acc (l.take (i+1))=put1 (putL acc (l.take i)) (bytesOf l[i]):=by
 induction l generalizing acc i with
 | nil=>exact absurd h (Nat.not_lt_zero _)
 | cons s l ih=>
  cases i with
  | zero=>simp [putL]
  | succ i=>
   rw [List.take_succ_cons,List.take_succ_cons,putL,putL]
   exact ih (Nat.lt_of_succ_lt_succ h) _
def fzTake (b:Nat) (sep:List UInt8) (ts:List Tz) (i:Nat):List UInt8:=fzJoin b sep (ts.take i)
theorem fzMore_snoc (b:Nat) (sep:List UInt8) (t:Tz):∀ ts:List Tz,fzMore b sep (ts ++ [t])=fzMore b sep ts ++ (sep ++ wrapZ b (kindZ t) (fz t))
 | []=>by simp [fzMore]
 | u :: ts=>by rw [List.cons_append,fzMore,fzMore,fzMore_snoc b sep t ts];simp
theorem fzJoin_snoc (b:Nat) (sep:List UInt8) (ts:List Tz) (t:Tz):fzJoin b sep (ts ++ [t])=fzJoin b sep ts ++ ((if ts=[] then [] else sep) ++ wrapZ b (kindZ t) (fz t)):=by
 cases ts with
 | nil=>rw [List.nil_append];simp [fzJoin,fzMore]
 | cons u ts=>rw [List.cons_append,fzJoin,fzJoin,fzMore_snoc];simp
theorem fzTake_next (b:Nat) (sep:List UInt8) {ts:List Tz} {i:Nat} (h:i < ts.length):fzTake b sep ts (i+1)=fzTake b sep ts i ++ ((if i=0 then [] else sep) ++ wrapZ b (kindZ ts[i]) (fz ts[i])):=by
 unfold fzTake
 rw [List.take_succ_eq_append_getElem h,fzJoin_snoc]
 congr 2
 have:ts.take i=[] ↔ i=0:=by
  rw [← List.length_eq_zero_iff,List.length_take];omega
 by_cases hi:i=0
 ·
  rw [if_pos hi,if_pos (this.2 hi)]
 ·
  rw [if_neg hi,if_neg (fun h=>hi (this.1 h))]
theorem fzTake_all (b:Nat) (sep:List UInt8) (ts:List Tz):fzTake b sep ts ts.length=fzJoin b sep ts:=by unfold fzTake;rw [List.take_length]
theorem fzAt_get (b:Nat):∀ (ts:List Tz) (i:Nat) (h:i < ts.length),fzAt b ts i=wrapZ b (kindZ ts[i]) (fz ts[i])
 | [],i,h=>absurd h (Nat.not_lt_zero _)
 | t :: ts,0,h=>by rw [fzAt];rfl
 | t :: ts,i+1,h=>by rw [fzAt,fzAt_get b ts i (Nat.lt_of_succ_lt_succ h)];rfl
theorem fzAt_none (b:Nat):∀ (ts:List Tz) (i:Nat),¬ i < ts.length→fzAt b ts i=[]
 | [],i,h=>by rw [fzAt]
 | t :: ts,0,h=>absurd (Nat.zero_lt_succ _) h
 | t :: ts,i+1,h=>by rw [fzAt,fzAt_none b ts i (fun h'=>h (Nat.succ_lt_succ h'))]
end Go.Proofs.YthbdlnflmfchjaaGreatDoor
namespace Go.Proofs.YthbdlnflmfchjaaGreatDoor
open Go.RowKit Go.Proofs.Fm
set_option maxHeartbeats 3200000
set_option maxRecDepth 1000000
theorem since_t {w w1 w2:World} (h:w.Since w.heap.size w1) (h2:w1.Since w1.heap.size w2):w.Since w.heap.size w2:=
 ⟨h2.os.trans h.os,h2.tape.trans h.tape,h2.output.trans h.output,Nat.le_trans h.size h2.size,fun k hk=>(h2.block k (Nat.lt_of_lt_of_le hk h.size)).trans (h.block k hk)⟩
theorem BKeep.alloc {B b:Nat} {w w':World} (h:BKeep B b w w') (hB:B≤w'.heap.size) (o:Obj):BKeep B b w (w'.alloc o):=⟨h.below.alloc hB o,h.others.alloc o⟩
theorem BKeep.drew {B b:Nat} {w w':World} (h:BKeep B b w w'):BKeep B b w w'.drew:=⟨h.below.drew,h.others.drew⟩
theorem BKeep.size {B b:Nat} {w w':World} (h:BKeep B b w w'):w.heap.size≤w'.heap.size:=h.below.size
theorem BKeep.at {B b k T:Nat} {w w':World} {c:Array Value} {fz:Nat × Nat} (h:BKeep B b w w') (hk:w.heap[k]?=some (.cells c T fz)) (hT:T ≠ 5) (hb:k ≠ b):w'.heap[k]?=some (.cells c T fz):=
 h.others k _ hk (by simp;exact hb) (fun c' fz' e=>by cases e;exact hT rfl)
theorem BKeep.of {B b:Nat} {w w':World} (h:w.Since w.heap.size w') (hB:B≤w.heap.size):BKeep B b w w':=
 ⟨⟨h.os,h.tape,h.output,h.size,fun k hk=>h.block k (by omega)⟩,fun k o hk _ _=>(h.block k (Array.getElem?_eq_some_iff.1 hk).1).trans hk⟩
theorem BKeep.since {B b:Nat} {w0 w w':World} (h:BKeep B b w w') (h0:w0.Since w0.heap.size w) (hB:w0.heap.size≤B):w0.Since w0.heap.size w':=
 ⟨h.below.os.trans h0.os,h.below.tape.trans h0.tape,h.below.output.trans h0.output,Nat.le_trans h0.size h.below.size,fun k hk=>(h.below.block k (by omega)).trans (h0.block k hk)⟩
theorem builder_up {T:TypeId} {B b:Nat} {p:Value} {l:List Value} {w w':World} (h:Lib.BuilderAtF T 5 B b p l w) (hs:w.Since w.heap.size w'):Lib.BuilderAtF T 5 B b p l w':=by
 have hlt:=h.lt
 obtain ⟨hB,v,hb,hown,hne⟩:=h
 exact ⟨hB,v,(hs.block b hlt).trans hb,hown.kept (row:=none) ⟨hs.os,hs.tape,hs.output,hs.size,fun k hk _=>hs.block k hk⟩ (by cases hv:v.ownBlock <;> simp),hne⟩
theorem BIs.up {T:TypeId} {B b:Nat} {l:List UInt8} {w w':World} (h:BIs T B b l w) (hs:w.Since w.heap.size w'):BIs T B b l w':=
 h.elim (fun h=>.inl (builder_up h hs)) (fun h=>.inr (builder_up h hs))
theorem BIs.alloc {T:TypeId} {B b:Nat} {l:List UInt8} {w:World} (h:BIs T B b l w) (o:Obj):BIs T B b l (w.alloc o):=h.up ((World.Since.refl _ _).alloc (Nat.le_refl _) o)
theorem BIs.lt {T:TypeId} {B b:Nat} {l:List UInt8} {w:World} (h:BIs T B b l w):b < w.heap.size:=by
 rcases h with h | h
 ·
  exact h.lt
 ·
  exact h.lt
theorem strs_cell {w:World} {g:Nat} {l:List ByteArray} (hg:w.heap[g]?=some (.cells (l.map Value.string).toArray 9)) (i:Nat) (h:i < l.length):w.cell? ⟨g,i,none⟩=some (.string l[i]):=by
 unfold World.cell?
 rw [hg]
 simp [h]
theorem put_says (B b g c:Nat) (acc:List UInt8) (l:List ByteArray) (w:World) (h:BIs 196 B b acc w) (hB:B≤w.heap.size) (hg:w.heap[g]?=some (.cells (l.map Value.string).toArray 9)) (hne:g ≠ b) (hl:l.length≤1000) (hs:∀ s ∈ l,s.size≤10000000):
  Calls Tryz.prog 188 #[.pointer (some ⟨b,0,none⟩),.slice (some ⟨g,0,none⟩) l.length c] w fun e w'=>e=.returned (.tuple #[])∧BIs 196 B b (putL acc l) w'∧BKeep B b w w':=by
 have HG:=Lib.hid hg
 have HS:=Lib.hid hs
 have H0:Hid (BIs 196 B b (putL acc (l.take 0)) w):=Lib.hid h
 have HE:Hid (putL acc (l.take l.length)=putL acc l):=Lib.hid (by rw [List.take_length])
 have HN:=Lib.hid (fun i (hi:i < l.length)=>putL_take hi acc)
 clear h hg hs
 go_enter Tryz.func188,Tryz.ntmps188
 go_wp2_with fail
 go_loopg [5,8] l.length (fun gg o5 o8 wr=>∃ (i:Nat),gg=l.length - i∧i≤l.length∧o8=.int .i64 (i:Nat)∧Hid (BIs 196 B b (putL acc (l.take i)) wr)∧Hid (BKeep B b w wr))
 case atStart=>exact ⟨0,rfl,by omega,rfl,H0,Lib.hid (BKeep.refl _ _ _)⟩
 case round=>
  obtain ⟨i,rfl,hi,rfl,hA,hK⟩:=hrel
  by_cases h1:i < l.length
  ·
   have i1:(i:Int) < (l.length:Int):=by omega
   have z5:IntKind.i64.wrap ((i:Int)+1)=(i:Int)+1:=IntWalk.i64_in _ (by omega)
   have d0:=strs_cell (hK.out.at HG.out (by decide) hne) i h1
   have KL:=Lib.hid (blen B b _ wr hA.out)
   have HX:=Lib.hid (HN.out i h1)
   have hsz:l[i].size≤10000000:=HS.out _ (List.getElem_mem h1)
   have KW:=Lib.hid (fun (hq:(putL acc (l.take i)).length≤1000)=>bstr bt196 B b _ l[i] wr hA.out (by omega) (by have:=hK.out.size;omega))
   obtain ⟨nx,hnx⟩:∃ nx,putL acc (l.take (i+1))=nx:=⟨_,rfl⟩
   rw [hnx] at HX
   have HNX:=Lib.hid hnx
   clear hnx
   generalize putL acc (l.take i)=cur at *
   generalize l[i]=x at *
   by_cases q:cur.length≤1000
   ·
    have q1:((cur.length:Nat):Int)≤1000:=by omega
    have KW2:=Lib.hid (KW.out q)
    have HX2:Hid (nx=cur ++ bytesOf x):=Lib.hid (by rw [HX.out];unfold put1;rw [if_pos q])
    clear KW q
    go_wp2_with fail
    refine KL.out.mono ?_
    rintro r0 w2 ⟨rfl,rfl⟩
    go_wp2_with fail
    refine KW2.out.mono ?_
    rintro r0 w3 ⟨rfl,h3,hk3⟩
    have H3:Hid (BIs 196 B b nx w3):=Lib.hid (by rw [HX2.out];exact h3)
    have K3:=Lib.hid (hK.out.trans hk3)
    clear h3 hk3
    go_wp2_with fail
    go_roundg (l.length - (i+1))
    case measure=>omega
    case rel=>exact ⟨i+1,rfl,by omega,by simp,Lib.hid (by rw [HNX.out];exact H3.out),K3⟩
   ·
    have q1:¬ ((cur.length:Nat):Int)≤1000:=by omega
    have HX2:Hid (nx=cur):=Lib.hid (by rw [HX.out];unfold put1;rw [if_neg q])
    clear KW q
    go_wp2_with fail
    refine KL.out.mono ?_
    rintro r0 w2 ⟨rfl,rfl⟩
    go_wp2_with fail
    go_roundg (l.length - (i+1))
    case measure=>omega
    case rel=>exact ⟨i+1,rfl,by omega,by simp,Lib.hid (by rw [HNX.out,HX2.out];exact hA.out),hK⟩
  ·
   have i1:¬ (i:Int) < (l.length:Int):=by omega
   have hR:Hid (BIs 196 B b (putL acc l) wr):=Lib.hid (by rw [← HE.out,show l.length=i by omega];exact hA.out)
   go_wp2_with fail
   go_end0
   exact ⟨rfl,hR.out,hK.out⟩
end Go.Proofs.YthbdlnflmfchjaaGreatDoor
namespace Go.Proofs.YthbdlnflmfchjaaGreatDoor
open Go.RowKit Go.Proofs.Fm
set_option maxHeartbeats 3200000
set_option maxRecDepth 1000000
theorem z39_is:z39=.cells #[.int .u8 0,.string ⟨#[]⟩,.int .i64 0,.slice none 0 0] 39:=by unfold z39;rfl
theorem set4_is {W:World} {B:Nat} {a b c d:Value} (hb:W.heap[B]?=some (.cells #[a,b,c,d] 39)) (v0 v1 v2 v3:Value):
  ∃ V,(((W.setCell ⟨B,0,none⟩ v0).setCell ⟨B,1,none⟩ v1).setCell ⟨B,2,none⟩ v2).setCell ⟨B,3,none⟩ v3=V∧V.heap[B]?=some (.cells #[v0,v1,v2,v3] 39)∧(∀ k,k ≠ B→V.heap[k]?=W.heap[k]?)∧V.heap.size=W.heap.size∧V.os=W.os∧V.tape=W.tape∧V.output=W.output:=
 ⟨_,rfl,set4_blk hb v0 v1 v2 v3,fun _ hk=>set4_other hk v0 v1 v2 v3,set4_size W B v0 v1 v2 v3,rfl,rfl,rfl⟩
def SubAt (w0:World) (subs:List Tz) (n:Nat) (ds:List Value):Prop:=(∃ h:n < subs.length,TzAt w0 subs[n] ds) ∨ (¬ n < subs.length∧ds=[.int .u8 0,.string ⟨#[]⟩,.int .i64 0,.slice none 0 0])
theorem sub_says (subs:List Tz) (us:List Value) (G:Option Addr) (c k:Nat) (x:ByteArray) (nn:Int) (n:Nat) (w0 w:World) (h0:w0.Since w0.heap.size w) (hr:ZRow w0 G us) (hs:TzsAt w0 subs us) (hn:n≤10) (hl:subs.length≤1000000):
  Calls Tryz.prog 187 #[.agg #[.int .u8 (k:Nat),.string x,.int .i64 nn,.slice G subs.length c],.int .i64 (n:Nat)] w fun e w'=>∃ ds,e=.returned (.agg ds.toArray)∧SubAt w0 subs n ds∧w.Since w.heap.size w':=by
 have HB:Hid (((w.alloc (.cells #[.int .u8 (k:Nat),.string x,.int .i64 nn,.slice G subs.length c] 39)).alloc z39).heap[w.heap.size]?=some (.cells #[.int .u8 (k:Nat),.string x,.int .i64 nn,.slice G subs.length c] 39)):=Lib.hid ((Go.Deep.blk_alloc_lt _ _ _ (by simp)).trans (heap_alloc_new w _))
 have HZ:Hid (((w.alloc (.cells #[.int .u8 (k:Nat),.string x,.int .i64 nn,.slice G subs.length c] 39)).alloc z39).heap[w.heap.size+1]?=some z39):=Lib.hid (by
  have:=heap_alloc_new (w.alloc (.cells #[.int .u8 (k:Nat),.string x,.int .i64 nn,.slice G subs.length c] 39)) z39
  rw [World.size_alloc] at this
  exact this)
 have HS:Hid (w.Since w.heap.size ((w.alloc (.cells #[.int .u8 (k:Nat),.string x,.int .i64 nn,.slice G subs.length c] 39)).alloc z39)):=Lib.hid (((World.Since.refl _ _).alloc (Nat.le_refl _) _).alloc (by simp) _)
 obtain ⟨W,hW⟩:∃ W,(w.alloc (.cells #[.int .u8 (k:Nat),.string x,.int .i64 nn,.slice G subs.length c] 39)).alloc z39=W:=⟨_,rfl⟩
 rw [hW] at HB HZ HS
 rw [z39_is] at hW HZ
 obtain ⟨p0,p1,p2,p3,-⟩:=cells4 HB.out
 obtain ⟨z0,z1,z2,z3,q4⟩:=cells4 HZ.out
 have H0:=Lib.hid (since_t h0 HS.out)
 by_cases h:n < subs.length
 ·
  have i1:(n:Int) < (subs.length:Int):=by omega
  obtain ⟨a,k1,x1,n1,G1,m1,c1,hG1,ha,ht1,g0,g1,g2,g3⟩:=zrow_get hr hs n h
  obtain ⟨cc,cd⟩:=lift_add H0.out ha (n * 4)
  have d0:=cc _ g0
  have d1:=cd _ _ g1
  have d2:=cd _ _ g2
  have d3:=cd _ _ g3
  obtain ⟨V,hV,a1,b1,s1,o1,t1,u1⟩:=set4_is HZ.out (.int .u8 (k1:Nat)) (.string x1) (.int .i64 n1) (.slice G1 m1 c1)
  obtain ⟨y0,y1,y2,y3,-⟩:=cells4 a1
  have HV:Hid (w.Since w.heap.size V):=Lib.hid ⟨o1.trans HS.out.os,t1.trans HS.out.tape,u1.trans HS.out.output,by have:=HS.out.size;omega,fun k hk=>(b1 k (by omega)).trans (HS.out.block k hk)⟩
  have HT:=Lib.hid ht1
  subst hG1
  clear hr hs ht1 g0 g1 g2 g3 cc cd a1 b1 s1 o1 t1 u1 h0
  go_enter Tryz.func187,Tryz.ntmps187
  go_wp2_with fail
  exact bodyPost_ret (v:=.agg #[.int .u8 (k1:Nat),.string x1,.int .i64 n1,.slice G1 m1 c1]) (by simp [results,Tryz.results187,go_sem,y0,y1,y2,y3]) rfl ⟨[.int .u8 (k1:Nat),.string x1,.int .i64 n1,.slice G1 m1 c1],rfl,.inl ⟨h,HT.out⟩,HV.out⟩
 ·
  have i1:¬ (n:Int) < (subs.length:Int):=by omega
  obtain ⟨V,hV,a1,b1,s1,o1,t1,u1⟩:=set4_is HZ.out (.int .u8 0) (.string ⟨#[]⟩) (.int .i64 0) (.slice none 0 0)
  obtain ⟨y0,y1,y2,y3,-⟩:=cells4 a1
  have HV:Hid (w.Since w.heap.size V):=Lib.hid ⟨o1.trans HS.out.os,t1.trans HS.out.tape,u1.trans HS.out.output,by have:=HS.out.size;omega,fun k hk=>(b1 k (by omega)).trans (HS.out.block k hk)⟩
  clear hr hs a1 b1 s1 o1 t1 u1 h0
  go_enter Tryz.func187,Tryz.ntmps187
  go_wp2_with fail
  exact bodyPost_ret (v:=.agg #[.int .u8 0,.string ⟨#[]⟩,.int .i64 0,.slice none 0 0]) (by simp [results,Tryz.results187,go_sem,y0,y1,y2,y3]) rfl ⟨_,rfl,.inr ⟨h,rfl⟩,HV.out⟩
end Go.Proofs.YthbdlnflmfchjaaGreatDoor
namespace Go.Proofs.YthbdlnflmfchjaaGreatDoor
open Go.RowKit Go.Proofs.Fm
set_option maxHeartbeats 3200000
set_option maxRecDepth 1000000
def WSay (B b:Nat) (acc x:List UInt8) (w:World) (e:Ending) (w':World):Prop:=e=.returned (.tuple #[])∧∃ r,WR acc x r∧BIs 196 B b r w'∧BKeep B b w w'
def WTerm (B b:Nat) (w0:World) (K:Nat):Prop:=∀ (t:Tz) (cs:List Value) (acc:List UInt8) (w:World),wtZ t≤K→TzAt w0 t cs→w0.Since w0.heap.size w→B≤w.heap.size→BIs 196 B b acc w →
 Calls Tryz.prog 105 #[.pointer (some ⟨b,0,none⟩),.agg cs.toArray] w (WSay B b acc (fz t) w)
theorem put_w (B b g c n:Nat) (acc:List UInt8) (l:List ByteArray) (x:List UInt8) (w:World) (hx:flatB l=x) (hn:l.length=n) (h:BIs 196 B b acc w) (hB:B≤w.heap.size) (hg:w.heap[g]?=some (.cells (l.map Value.string).toArray 9)) (hne:g ≠ b) (hl:l.length≤1000) (hs:∀ s ∈ l,s.size≤10000000):
  Calls Tryz.prog 188 #[.pointer (some ⟨b,0,none⟩),.slice (some ⟨g,0,none⟩) n c] w (WSay B b acc x w):=by
 subst hx hn
 refine (put_says B b g c acc l w h hB hg hne hl hs).mono fun e w' hh=>?_
 exact ⟨hh.1,_,putL_wr l acc,hh.2.1,hh.2.2⟩
theorem put_new (B b n:Nat) (acc:List UInt8) (l:List ByteArray) (x:List UInt8) (w:World) (hx:flatB l=x) (hn:l.length=n) (h:BIs 196 B b acc w) (hB:B≤w.heap.size) (hl:l.length≤1000) (hs:∀ s ∈ l,s.size≤10000000):
  Calls Tryz.prog 188 #[.pointer (some ⟨b,0,none⟩),.slice (some ⟨w.heap.size,0,none⟩) n n] (w.alloc (.cells (l.map Value.string).toArray 9)) (WSay B b acc x w):=by
 refine (put_w B b w.heap.size n n acc l x _ hx hn (h.alloc _) (by simp;omega) (heap_alloc_new w _) (Nat.ne_of_gt h.lt) hl hs).mono fun e w' hh=>?_
 obtain ⟨h1,r,h2,h3,h4⟩:=hh
 exact ⟨h1,r,h2,h3,((BKeep.refl B b w).alloc hB _).trans h4⟩
theorem term_zero (B b:Nat) (acc:List UInt8) (w:World) (hB:B≤w.heap.size) (h:BIs 196 B b acc w):
  Calls Tryz.prog 105 #[.pointer (some ⟨b,0,none⟩),.agg #[.int .u8 0,.string ⟨#[]⟩,.int .i64 0,.slice none 0 0]] w (WSay B b acc [] w):=by
 have HA:=Lib.hid ((h.alloc (.cells #[.pointer (some ⟨b,0,none⟩)] 247)).alloc (.cells #[.int .u8 0,.string ⟨#[]⟩,.int .i64 0,.slice none 0 0] 39))
 have HK:=Lib.hid (((BKeep.refl B b w).alloc hB (.cells #[.pointer (some ⟨b,0,none⟩)] 247)).alloc (by simp;omega) (.cells #[.int .u8 0,.string ⟨#[]⟩,.int .i64 0,.slice none 0 0] 39))
 clear h
 go_enter Tryz.func105,Tryz.ntmps105
 go_wp2_with fail
 go_end0
 exact ⟨rfl,acc,.nil _,HA.out,HK.out⟩
theorem sub_term {B b:Nat} {w0:World} {K n:Nat} {subs:List Tz} {ds:List Value} (IH:WTerm B b w0 K) (hK:wtZs subs≤K) (h:SubAt w0 subs n ds) (acc:List UInt8) (w:World) (h0:w0.Since w0.heap.size w) (hB:B≤w.heap.size) (hA:BIs 196 B b acc w):
  Calls Tryz.prog 105 #[.pointer (some ⟨b,0,none⟩),.agg ds.toArray] w (WSay B b acc (fzAt 0 subs n) w):=by
 rcases h with ⟨h1,h2⟩ | ⟨h1,rfl⟩
 ·
  rw [fzAt_get 0 subs n h1,show wrapZ 0 (kindZ subs[n]) (fz subs[n])=fz subs[n] from wrapZ_no (parZ_0 _)]
  exact IH _ _ _ _ (Nat.le_trans (wtZs_le subs n h1) hK) h2 h0 hB hA
 ·
  rw [fzAt_none 0 subs n h1]
  exact term_zero B b acc w hB hA
end Go.Proofs.YthbdlnflmfchjaaGreatDoor
