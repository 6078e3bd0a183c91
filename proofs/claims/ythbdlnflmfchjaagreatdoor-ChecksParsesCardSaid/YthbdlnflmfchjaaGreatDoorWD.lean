/- A strings.Builder: its length, a byte more, its string. -/
import Derived.Test.YthbdlnflmfchjaaGreatDoorLA
import Derived.Shelf.RegionOpen
set_option linter.unusedVariables false
set_option linter.unusedSimpArgs false
namespace Go.Proofs.YthbdlnflmfchjaaGreatDoor
open Go.Proofs.Tryz
open Go.RowKit Go.Proofs.Fm
set_option maxHeartbeats 3200000
set_option maxRecDepth 1000000
theorem yj{w:World}{B:Nat}{v:Value}{n:Nat}{xs:List Value}(h:w.ownsRowF B 5 1 v n xs):∃(G:Option Addr)(cap:Nat),v=.slice G n cap:=by
 rcases h.2 with⟨rfl,rfl⟩|⟨g,cap,cur,fz,hv,_⟩;·exact⟨_,_,rfl⟩
 ·exact⟨_,_,hv⟩
theorem Au{T:TypeId}{B b:Nat}{l:List UInt8}{w:World}(h:gr T B b l w):∃p,(p=.pointer none∨p=.pointer (some ⟨b,0,none⟩))∧Lib.BuilderAtF T 5 B b p (Lib.byteCells l) w:=by
 rcases h with h|h;·exact⟨_,.inl rfl,h⟩
 ·exact⟨_,.inr rfl,h⟩
theorem vG{T:TypeId}{B b:Nat}{l:List UInt8}{w:World}{p:Value}(hp:p=.pointer none∨p=.pointer (some ⟨b,0,none⟩))(h:Lib.BuilderAtF T 5 B b p (Lib.byteCells l) w):gr T B b l w:=by
 rcases hp with rfl|rfl;·exact .inl h
 ·exact .inr h
theorem Ny{T:TypeId}(B b:Nat)(l:List UInt8)(w:World)(h:gr T B b l w):Calls prog 240 #[.pointer (some ⟨b,0,none⟩)] w fun e w'=>e=.returned (.int .i64 (l.length:Nat))∧w'=w:=by
 obtain⟨p,hp,hAt⟩:=Au h;obtain⟨hB,v,hbk,hown,hne⟩:=hAt;rw[Lib.byteCells_length]at hown;obtain⟨G,cap,rfl⟩:=yj hown;have c1:w.cell? ⟨b,1,none⟩=some (.slice G l.length cap):=by rw[Lib.cell_of_heap hbk];rfl
 clear hown hbk hne h hp;go_enter func240,ntmps240;go_wp2_with fail;go_ret;exact⟨rfl,rfl⟩
theorem OS{T:TypeId}(hT:BT T)(B b:Nat)(l:List UInt8)(c:UInt8)(w:World)(h:gr T B b l w)(hlen:l.length+1≤140737488355328)(hBw:B≤w.heap.size):Calls prog 165 #[.pointer (some ⟨b,0,none⟩),.int .u8 (c.toNat:Nat)] w fun e w'=>e=.returned .nilIface∧gr T B b (l++[c]) w'∧bL B b w w':=by
 obtain⟨i0,hi,hz0,hz1,hz2⟩:=info_parts BY;have KC:=aa (Ge hT B b l w h);clear h;go_enter func165,ntmps165;go_wp2_with fail;refine KC.o.mono ?_;rintro e w1⟨rfl,h1,hk1⟩;obtain⟨hB,v,hbk,hown,hne⟩:=h1;have hlb:(Lib.byteCells l).length=l.length:=Lib.byteCells_length l;obtain⟨G0,cap0,rfl⟩:=yj hown;rw[hlb]at hown hbk hne;have c0:w1.cell? ⟨b,0,none⟩=some (.pointer (some ⟨b,0,none⟩)):=by rw[Lib.cell_of_heap hbk];rfl
 have c1:w1.cell? ⟨b,1,none⟩=some (.slice G0 l.length cap0):=by rw[Lib.cell_of_heap hbk];rfl
 have hlt:b<w1.heap.size:=by
  rcases Nat.lt_or_ge b w1.heap.size with h'|h';·exact h'
  ·simp[aT h']at hbk
 have hbs:=hk1.below.size;have gO:(w1.alloc (.cells #[.int .u8 (c.toNat:Nat)] 5)).cell? ⟨w1.heap.size,0,none⟩=some (.int .u8 (c.toNat:Nat)):=World.cell?_alloc_at _ _ _ _ rfl;obtain⟨v',w2,hr,hown',hgrow,-⟩:=run_append_ownF (P:=prog) (w:=w1.alloc (.cells #[.int .u8 (c.toNat:Nat)] 5)) B 190 190 5 i0 (.int .u8 0) 1 1 underlying190 hi hz0 hz1 hz2 rfl (by decide) (.slice G0 l.length cap0) _ _ (hown.alloc _) ⟨w1.heap.size,0,none⟩ 1 1 [.int .u8 (c.toNat:Nat)] rfl (by
  intro j u hj;match j,hj with
  |0,hj=>simp at hj;subst hj;exact gO) (by intro u hu;simp at hu;subst hu;rfl) (by unfold maxLen;omega) (by omega) (by simp;omega);have hb1:(w1.alloc (.cells #[.int .u8 (c.toNat:Nat)] 5)).heap[b]?=some (.cells #[.pointer (some ⟨b,0,none⟩),.slice G0 l.length cap0] T (0,0)):=(aj w1 _ b hlt).trans hbk;have hb2:w2.heap[b]?=some (.cells #[.pointer (some ⟨b,0,none⟩),.slice G0 l.length cap0] T (0,0)):=by
  rw[hgrow.block b (by simp;omega) (fun e=>hne e.symm)];exact hb1
 have d0:w2.cell? ⟨b,0,none⟩=some (.pointer (some ⟨b,0,none⟩)):=by rw[Lib.cell_of_heap hb2];rfl
 have d1:w2.cell? ⟨b,1,none⟩=some (.slice G0 l.length cap0):=by rw[Lib.cell_of_heap hb2];rfl
 have f1:w2.frozen? ⟨b,1,none⟩=false:=Lib.frozen_of_heap hb2 1;obtain⟨ao,n',cap,rfl⟩:∃ao n' cap,v'=.slice ao n' cap:=by
  rcases hown'.2 with⟨hv,_⟩|⟨g,cap,cur,fz,hv,_⟩;·exact⟨_,_,_,hv⟩
  ·exact⟨_,_,_,hv⟩
 have HF:Hid (gr T B b (l++[c]) (w2.setCell ⟨b,1,none⟩ (.slice ao n' cap))∧bL B b w (w2.setCell ⟨b,1,none⟩ (.slice ao n' cap))):=aa ⟨by
  have hbc:Lib.byteCells (l++[c])=Lib.byteCells l++[.int .u8 (c.toNat:Nat)]:=by rw[Lib.byteCells_append];rfl
  unfold gr;rw[hbc];refine .inr (Lib.BuilderAtF.put hB hb2 (bs':=Lib.byteCells l++[.int .u8 (c.toNat:Nat)]) (by simpa[hlb]using hown') hT.ne),((hk1.below.alloc (by omega) _).grown hgrow (by simp;omega) (fun k hk=>(hown.lt k hk).1)).setCell (p:=⟨b,1,none⟩) hB _,((hk1.others.alloc _).grown hgrow (Lib.ownsRowF_kind (hown.alloc _))).setCell ⟨b,1,none⟩ rfl _⟩;have c1a:∀o,(w1.alloc o).cell? ⟨b,1,none⟩=some (.slice G0 l.length cap0):=fun o=>(av w1 o _ hlt).trans c1;clear hown hown' hgrow hbk hb1 hb2 hk1 KC hlb;go_wp2_with(refine km (ts:=190) (us:=190) (v:=.slice G0 l.length cap0) (xv:=.slice (some ⟨w1.heap.size,0,none⟩) 1 1) (v':=.slice ao n' cap) (w':=w2) ?_ (.tmp 11) (.tmp 13) ?_ ?_ ?_ ?_ ?_ ?_;exact rfl;exact rfl;exact rfl;exact rfl;exact rfl;exact hr);go_ret;exact⟨rfl,HF.o⟩
theorem F2:prog.follows .mixedOrders=true:=by kernel_rfl
theorem DG:prog.cellsOf 5=1:=by kernel_rfl
theorem Cf{P:Prop}(h:P:=by
 have mixed:=F2;go_enter func106,ntmps106;go_wp2;go_region_o;all_goals
  (go_wp2;go_ret;exact⟨rfl,HF.o⟩)):P:=h
theorem L5{P:Prop}(h:P:=by have hg':w.drew.heap[g]?=some (.cells cur 5 fz):=hg;simp[World.shape?,hg']):P:=h
theorem vH{T:TypeId}(B b:Nat)(l:List UInt8)(w:World)(h:gr T B b l w)(h0:l≠[]):Calls prog 106 #[.pointer (some ⟨b,0,none⟩)] w fun e w'=>e=.returned (.string ⟨l.toArray⟩)∧gr T B b l w'∧bL B b w w':=by
 obtain⟨p,hp,hAt⟩:=Au h;obtain⟨hB,v,hbk,hown,hne⟩:=hAt;have hl0:l.length≠0:=by simpa using h0
 rw[Lib.byteCells_length]at hown;obtain⟨g,cap,cur,fz,rfl,hbg,hg,hfz,hnc,hcm,hcs,htake⟩:∃g cap cur fz,v=.slice (some ⟨g,0,none⟩) l.length cap∧B≤g∧w.heap[g]?=some (.cells cur 5 fz)∧fz.2≤l.length*1∧l.length≤cap∧cap≤maxLen∧cur.size=cap*1∧cur.toList.take (l.length*1)=Lib.byteCells l:=by
  rcases hown.2 with⟨_,hz⟩|⟨g,cap,cur,fz,hv,r⟩;·exact absurd hz hl0
  ·exact⟨g,cap,cur,fz,hv,r⟩
 have c1:w.drew.cell? ⟨b,1,none⟩=some (.slice (some ⟨g,0,none⟩) l.length cap):=by have:w.drew.heap[b]?=some (.cells #[p,.slice (some ⟨g,0,none⟩) l.length cap] T (0,0)):=hbk;rw[Lib.cell_of_heap this];rfl
 have hSD:(Builtin.unsafeSliceData_ #[190] 255 #[.slice (some ⟨g,0,none⟩) l.length cap]).run prog w.drew=.ok (.pointer (some ⟨g,0,none⟩)) w.drew:=Lib.run_unsafeSliceData_row _ _ _ _ _ _ (by omega);have hUS:(Builtin.unsafeString_ #[255,3] 9 #[.pointer (some ⟨g,0,none⟩),.int .i64 l.length]).run prog w.drew=.ok (.string ⟨l.toArray⟩) (w.drew.freeze ⟨g,0,none⟩ l.length):=by
  refine Lib.run_unsafeString_row w.drew 255 3 9 5 underlying255 DG g cur.size (by exact L5) l h0 (by omega) (by unfold maxLen at hcm;omega) ?_;intro j x hx;have:=hown.cells (g:=g) rfl j (.int .u8 x.toNat) (by simp[Lib.byteCells,hx]);exact this
 have HF:Hid (gr T B b l (w.drew.freeze ⟨g,0,none⟩ l.length)∧bL B b w (w.drew.freeze ⟨g,0,none⟩ l.length)):=aa ⟨by
  have hA:Lib.BuilderAtF T 5 B b p (Lib.byteCells l) w.drew:=⟨hB,_,hbk,by rw[Lib.byteCells_length];exact hown,hne⟩;have hF:=hA.froze (g:=g) (cap:=cap) (by rw[Lib.byteCells_length];exact c1);rw[Lib.byteCells_length]at hF;exact vG hp hF,Lib.below_freeze (Below.drew (Below.refl B w)) (p:=⟨g,0,none⟩) hbg _,((Lib.OthersKept.refl _ _ w).drew).freeze ⟨g,0,none⟩ _ ⟨cur,fz,hg⟩⟩;clear hown hbk hne h hp hg htake;exact Cf
theorem sj(B b:Nat)(w:World):bL B b w w.drew:=⟨Below.drew (Below.refl B w),(Lib.OthersKept.refl _ _ w).drew⟩
theorem vI{T:TypeId}(B b:Nat)(w:World)(h:gr T B b [] w)(hBw:B≤w.heap.size):Calls prog 106 #[.pointer (some ⟨b,0,none⟩)] w fun e w'=>e=.returned (.string ⟨#[]⟩)∧gr T B b [] w'∧bL B b w w':=by
 have hUS:∀W q,(Builtin.unsafeString_ #[255,3] 9 #[.pointer q,.int .i64 0]).run prog W=.ok (.string .empty) W:=fun W q=>Lib.run_unsafeString_none (w:=W) 255 3 9 q;obtain⟨p,hp,hA⟩:=Au h;have hA':=hA;obtain⟨hB,v,hbk,hown,hne⟩:=hA;have hlt:=hA'.lt;rcases hown.2 with⟨rfl,_⟩|⟨g,cap,cur,fz,rfl,hbg,hg,_,_,_,_,_⟩;·
  have c1:w.drew.cell? ⟨b,1,none⟩=some (.slice none 0 0):=by have:w.drew.heap[b]?=some (.cells #[p,.slice none 0 0] T (0,0)):=hbk;rw[Lib.cell_of_heap this];rfl
  have hSD:(Builtin.unsafeSliceData_ #[190] 255 #[.slice none 0 0]).run prog w.drew=.ok (.pointer none) w.drew:=rfl;have HF:Hid (gr T B b [] w.drew∧bL B b w w.drew):=aa ⟨vG hp hA'.drew,sj B b w⟩;clear hown hbk hne h hp hA';exact Cf
 ·
  by_cases hc0:cap=0;·
   subst hc0;have c1:w.drew.cell? ⟨b,1,none⟩=some (.slice (some ⟨g,0,none⟩) 0 0):=by have:w.drew.heap[b]?=some (.cells #[p,.slice (some ⟨g,0,none⟩) 0 0] T (0,0)):=hbk;rw[Lib.cell_of_heap this];rfl
   have hSD:(Builtin.unsafeSliceData_ #[190] 255 #[.slice (some ⟨g,0,none⟩) 0 0]).run prog w.drew=.ok (.pointer (some ⟨w.drew.heap.size,0,none⟩)) (w.drew.alloc (.view ⟨g,0,none⟩ 5)):=Lib.run_unsafeSliceData_zero w.drew _ _ 5 underlying255 ⟨g,0,none⟩ 0 (5,cur.size) (by exact L5);have c2:(w.drew.alloc (.view ⟨g,0,none⟩ 5)).cell? ⟨b,1,none⟩=some (.slice (some ⟨g,0,none⟩) 0 0):=by have:(w.drew.alloc (.view ⟨g,0,none⟩ 5)).heap[b]?=_:=(Lib.alloc_old w.drew _ b hlt).trans hbk;rw[Lib.cell_of_heap this];rfl
   have c3:(w.alloc (.view ⟨g,0,none⟩ 5)).drew.cell? ⟨b,1,none⟩=some (.slice (some ⟨g,0,none⟩) 0 0):=c2;have c0:w.cell? ⟨b,1,none⟩=some (.slice (some ⟨g,0,none⟩) 0 0):=c1;have HF:Hid (gr T B b [] (w.drew.alloc (.view ⟨g,0,none⟩ 5))∧bL B b w (w.drew.alloc (.view ⟨g,0,none⟩ 5))):=aa ⟨vG hp (hA'.drew.alloc _),(Below.drew (Below.refl B w)).alloc hBw _,((Lib.OthersKept.refl _ _ w).drew).alloc _⟩;clear hown hbk hne h hp hA' hg;exact Cf
  ·
   have c1:w.drew.cell? ⟨b,1,none⟩=some (.slice (some ⟨g,0,none⟩) 0 cap):=by have:w.drew.heap[b]?=some (.cells #[p,.slice (some ⟨g,0,none⟩) 0 cap] T (0,0)):=hbk;rw[Lib.cell_of_heap this];rfl
   have hSD:(Builtin.unsafeSliceData_ #[190] 255 #[.slice (some ⟨g,0,none⟩) 0 cap]).run prog w.drew=.ok (.pointer (some ⟨g,0,none⟩)) w.drew:=Lib.run_unsafeSliceData_row _ _ _ _ _ _ hc0;have HF:Hid (gr T B b [] w.drew∧bL B b w w.drew):=aa ⟨vG hp hA'.drew,sj B b w⟩;clear hown hbk hne h hp hA' hg hc0;exact Cf
theorem B_{T:TypeId}(B b:Nat)(l:List UInt8)(w:World)(h:gr T B b l w)(hBw:B≤w.heap.size):Calls prog 106 #[.pointer (some ⟨b,0,none⟩)] w fun e w'=>e=.returned (.string ⟨l.toArray⟩)∧gr T B b l w'∧bL B b w w':=by
 cases l with
 |nil=>exact vI B b w h hBw
 |cons x r=>exact vH B b (x::r) w h (by simp)
def WR(acc x r:List UInt8):Prop:=(acc.length+x.length≤1000→r=acc++x)∧(1000<acc.length+x.length→1000<r.length)
theorem WR.nil(acc:List UInt8):WR acc [] acc:=⟨fun _=>by simp,fun h=>by simpa using h⟩
theorem WR.full{acc:List UInt8}(h:1000<acc.length)(x:List UInt8):WR acc x acc:=⟨fun h'=>by omega,fun _=>h⟩
theorem WR.all(acc x:List UInt8):WR acc x (acc++x):=⟨fun _=>rfl,fun h=>by simpa using h⟩
theorem WR.app{acc x a1 y a2:List UInt8}(h:WR acc x a1)(k:WR a1 y a2):WR acc (x++y) a2:=by
 unfold WR at h k⊢;rw[List.length_append];rcases Nat.lt_or_ge 1000 (acc.length+x.length)with h1|h1;·have h2:=h.2 h1;exact⟨fun _=>by omega,fun _=>k.2 (by omega)⟩
 ·have h2:=h.1 h1;rw[h2,List.length_append,List.append_assoc]at k;exact⟨fun h3=>k.1 (by omega),fun h3=>k.2 (by omega)⟩
def DH(acc s:List UInt8):List UInt8:=if acc.length≤1000 then acc++s else acc
theorem II(acc s:List UInt8):WR acc s (DH acc s):=by
 unfold DH;split;·exact .all _ _
 ·exact .full (by omega) _
def mc(acc:List UInt8):List BA→List UInt8
 |[]=>acc
 |s::l=>mc (DH acc (an s)) l
def ku:List BA→List UInt8
 |[]=>[]
 |s::l=>an s++ku l
theorem Cg:∀(l:List BA)(acc:List UInt8),WR acc (ku l) (mc acc l)
 |[],acc=> .nil acc
 |s::l,acc=>(II acc (an s)).app (Cg l _)
theorem DI{l:List BA}{i:Nat}(h:i<l.length)(acc:List UInt8):mc acc (l.take (i+1))=DH (mc acc (l.take i)) (an l[i]):=by
 induction l generalizing acc i with
 |nil=>exact absurd h (aH _)
 |cons s l ih=>
   cases i with
   |zero=>simp[mc]
   |succ i=>rw[List.take_succ_cons,List.take_succ_cons,mc,mc];exact ih (Nat.lt_of_succ_lt_succ h) _
def f_(b:Nat)(sep:List UInt8)(ts:List Tz)(i:Nat):List UInt8:=cO b sep (ts.take i)
theorem pY(b:Nat)(sep:List UInt8)(t:Tz):∀ts:List Tz,eY b sep (ts++[t])=eY b sep ts++(sep++cL b (eK t) (fz t))
 |[]=>by simp[eY]
 |u::ts=>by rw[List.cons_append,eY,eY,pY b sep t ts];simp
theorem yk(b:Nat)(sep:List UInt8)(ts:List Tz)(t:Tz):cO b sep (ts++[t])=cO b sep ts++((if ts=[]then[]else sep)++cL b (eK t) (fz t)):=by
 cases ts with
 |nil=>rw[List.nil_append];simp[cO,eY]
 |cons u ts=>rw[List.cons_append,cO,cO,pY];simp
theorem pZ(b:Nat)(sep:List UInt8){ts:List Tz}{i:Nat}(h:i<ts.length):f_ b sep ts (i+1)=f_ b sep ts i++((if i=0 then[]else sep)++cL b (eK ts[i]) (fz ts[i])):=by
 unfold f_;rw[List.take_succ_eq_append_getElem h,yk];congr 2;have:ts.take i=[]↔i=0:=by rw[←List.length_eq_zero_iff,List.length_take];omega
 by_cases hi:i=0;·rw[if_pos hi,if_pos (this.2 hi)]
 ·rw[if_neg hi,if_neg (fun h=>hi (this.1 h))]
theorem sk(b:Nat)(sep:List UInt8)(ts:List Tz):f_ b sep ts ts.length=cO b sep ts:=by unfold f_;rw[List.take_length]
theorem sl(b:Nat):∀(ts:List Tz)(i:Nat)(h:i<ts.length),dk b ts i=cL b (eK ts[i]) (fz ts[i])
 |[],i,h=>absurd h (aH _)
 |t::ts,0,h=>by rw[dk];rfl
 |t::ts,i+1,h=>by rw[dk,sl b ts i (Nat.lt_of_succ_lt_succ h)];rfl
theorem oW(b:Nat):∀(ts:List Tz)(i:Nat),¬i<ts.length→dk b ts i=[]
 |[],i,h=>by rw[dk]
 |t::ts,0,h=>absurd (Nat.zero_lt_succ _) h
 |t::ts,i+1,h=>by rw[dk,oW b ts i (fun h'=>h (Nat.succ_lt_succ h'))]
theorem bf{w w1 w2:World}(h:w.Since w.heap.size w1)(h2:w1.Since w1.heap.size w2):w.Since w.heap.size w2:=⟨h2.os.trans h.os,h2.tape.trans h.tape,h2.output.trans h.output,ay h.size h2.size,fun k hk=>(h2.block k (aw hk h.size)).trans (h.block k hk)⟩
theorem bL.alloc{B b:Nat}{w w':World}(h:bL B b w w')(hB:B≤w'.heap.size)(o:Obj):bL B b w (w'.alloc o):=⟨h.below.alloc hB o,h.others.alloc o⟩
theorem bL.drew{B b:Nat}{w w':World}(h:bL B b w w'):bL B b w w'.drew:=⟨h.below.drew,h.others.drew⟩
theorem bL.size{B b:Nat}{w w':World}(h:bL B b w w'):w.heap.size≤w'.heap.size:=h.below.size
theorem bL.at{B b k T:Nat}{w w':World}{c:Array Value}{fz:Nat×Nat}(h:bL B b w w')(hk:w.heap[k]?=some (.cells c T fz))(hT:T≠5)(hb:k≠b):w'.heap[k]?=some (.cells c T fz):=h.others k _ hk (by simp;exact hb) (fun c' fz' e=>by cases e;exact hT rfl)
theorem bL.of{B b:Nat}{w w':World}(h:w.Since w.heap.size w')(hB:B≤w.heap.size):bL B b w w':=⟨⟨h.os,h.tape,h.output,h.size,fun k hk=>h.block k (by omega)⟩,fun k o hk _ _=>(h.block k (aE.1 hk).1).trans hk⟩
theorem bL.since{B b:Nat}{w0 w w':World}(h:bL B b w w')(h0:w0.Since w0.heap.size w)(hB:w0.heap.size≤B):w0.Since w0.heap.size w':=⟨h.below.os.trans h0.os,h.below.tape.trans h0.tape,h.below.output.trans h0.output,ay h0.size h.below.size,fun k hk=>(h.below.block k (by omega)).trans (h0.block k hk)⟩
theorem sm{T:TypeId}{B b:Nat}{p:Value}{l:List Value}{w w':World}(h:Lib.BuilderAtF T 5 B b p l w)(hs:w.Since w.heap.size w'):Lib.BuilderAtF T 5 B b p l w':=by have hlt:=h.lt;obtain⟨hB,v,hb,hown,hne⟩:=h;exact⟨hB,v,(hs.block b hlt).trans hb,hown.kept (row:=none) ⟨hs.os,hs.tape,hs.output,hs.size,fun k hk _=>hs.block k hk⟩ (by cases hv:v.ownBlock<;>simp),hne⟩
theorem gr.up{T:TypeId}{B b:Nat}{l:List UInt8}{w w':World}(h:gr T B b l w)(hs:w.Since w.heap.size w'):gr T B b l w':=h.elim (fun h=> .inl (sm h hs)) (fun h=> .inr (sm h hs))
theorem gr.alloc{T:TypeId}{B b:Nat}{l:List UInt8}{w:World}(h:gr T B b l w)(o:Obj):gr T B b l (w.alloc o):=h.up ((ah _ _).alloc (ai _) o)
theorem gr.lt{T:TypeId}{B b:Nat}{l:List UInt8}{w:World}(h:gr T B b l w):b<w.heap.size:=by
 rcases h with h|h;·exact h.lt
 ·exact h.lt
theorem DJ{w:World}{g:Nat}{l:List BA}(hg:w.heap[g]?=some (.cells (l.map Value.string).toArray 9))(i:Nat)(h:i<l.length):w.cell? ⟨g,i,none⟩=some (.string l[i]):=by unfold World.cell?;rw[hg];simp[h]
theorem Gf(B b g c:Nat)(acc:List UInt8)(l:List BA)(w:World)(h:gr 196 B b acc w)(hB:B≤w.heap.size)(hg:w.heap[g]?=some (.cells (l.map Value.string).toArray 9))(hne:g≠b)(hl:l.length≤1000)(hs:∀s∈l,s.size≤10000000):Calls prog 188 #[.pointer (some ⟨b,0,none⟩),.slice (some ⟨g,0,none⟩) l.length c] w fun e w'=>e=.returned (.tuple #[])∧gr 196 B b (mc acc l) w'∧bL B b w w':=by
 have HG:=aa hg;have HS:=aa hs;have H0:Hid (gr 196 B b (mc acc (l.take 0)) w):=aa h;have HE:Hid (mc acc (l.take l.length)=mc acc l):=aa (by rw[List.take_length]);have HN:=aa (fun i(hi:i<l.length)=>DI hi acc);clear h hg hs;go_enter func188,ntmps188;go_wp2_with fail;go_loopg[5,8]l.length(fun gg o5 o8 wr=>∃(i:Nat),gg=l.length-i∧i≤l.length∧o8=.int .i64 (i:Nat)∧Hid (gr 196 B b (mc acc (l.take i)) wr)∧Hid (bL B b w wr));case atStart=>exact⟨0,rfl,by omega,rfl,H0,aa (bL.refl _ _ _)⟩
 case round=>
  obtain⟨i,rfl,hi,rfl,hA,hK⟩:=hrel;by_cases h1:i<l.length;·
   have i1:(i:Int)<(l.length:Int):=by omega
   have z5:IntKind.i64.wrap ((i:Int)+1)=(i:Int)+1:=ax _ (by omega);have d0:=DJ (hK.o.at HG.o (by decide) hne) i h1;have KL:=aa (Ny B b _ wr hA.o);have HX:=aa (HN.o i h1);have hsz:l[i].size≤10000000:=HS.o _ (List.getElem_mem h1);have KW:=aa (fun(hq:(mc acc (l.take i)).length≤1000)=>Qf O7 B b _ l[i] wr hA.o (by omega) (by have:=hK.o.size;omega));obtain⟨nx,hnx⟩:∃nx,mc acc (l.take (i+1))=nx:=⟨_,rfl⟩;rw[hnx]at HX;have HNX:=aa hnx;clear hnx;generalize mc acc (l.take i)=cur at*;generalize l[i]=x at*;by_cases q:cur.length≤1000;·
    have q1:((cur.length:Nat):Int)≤1000:=by omega
    have KW2:=aa (KW.o q);have HX2:Hid (nx=cur++an x):=aa (by rw[HX.o];unfold DH;rw[if_pos q]);clear KW q;go_wp2_with fail;refine KL.o.mono ?_;rintro r0 w2⟨rfl,rfl⟩;go_wp2_with fail;refine KW2.o.mono ?_;rintro r0 w3⟨rfl,h3,hk3⟩;have H3:Hid (gr 196 B b nx w3):=aa (by rw[HX2.o];exact h3);have K3:=aa (hK.o.trans hk3);clear h3 hk3;go_wp2_with fail;go_roundg(l.length-(i+1));case measure=>omega
    case rel=>
     exact⟨i+1,rfl,by omega,by simp,aa (by rw[HNX.o];exact H3.o),K3⟩
   ·
    have q1:¬((cur.length:Nat):Int)≤1000:=by omega
    have HX2:Hid (nx=cur):=aa (by rw[HX.o];unfold DH;rw[if_neg q]);clear KW q;go_wp2_with fail;refine KL.o.mono ?_;rintro r0 w2⟨rfl,rfl⟩;go_wp2_with fail;go_roundg(l.length-(i+1));case measure=>omega
    case rel=>
     exact⟨i+1,rfl,by omega,by simp,aa (by rw[HNX.o,HX2.o];exact hA.o),hK⟩
  ·
   have i1:¬(i:Int)<(l.length:Int):=by omega
   have hR:Hid (gr 196 B b (mc acc l) wr):=aa (by rw[←HE.o,show l.length=i by omega];exact hA.o);go_wp2_with fail;go_end0;exact⟨rfl,hR.o,hK.o⟩
theorem Nz:cH=.cells #[.int .u8 0,.string ⟨#[]⟩,.int .i64 0,.slice none 0 0] 39:=by unfold cH;rfl
theorem Ch{W:World}{B:Nat}{a b c d:Value}(hb:W.heap[B]?=some (.cells #[a,b,c,d] 39))(v0 v1 v2 v3:Value):∃V,(((W.setCell ⟨B,0,none⟩ v0).setCell ⟨B,1,none⟩ v1).setCell ⟨B,2,none⟩ v2).setCell ⟨B,3,none⟩ v3=V∧V.heap[B]?=some (.cells #[v0,v1,v2,v3] 39)∧(∀k,k≠B→V.heap[k]?=W.heap[k]?)∧V.heap.size=W.heap.size∧V.os=W.os∧V.tape=W.tape∧V.output=W.output:=⟨_,rfl,iE hb v0 v1 v2 v3,fun _ hk=>eL hk v0 v1 v2 v3,fZ W B v0 v1 v2 v3,rfl,rfl,rfl⟩
def iZ(w0:World)(subs:List Tz)(n:Nat)(ds:List Value):Prop:=(∃h:n<subs.length,TzAt w0 subs[n] ds)∨(¬n<subs.length∧ds=[.int .u8 0,.string ⟨#[]⟩,.int .i64 0,.slice none 0 0])
theorem n_(subs:List Tz)(us:List Value)(G:Option Addr)(c k:Nat)(x:BA)(nn:Int)(n:Nat)(w0 w:World)(h0:w0.Since w0.heap.size w)(hr:rH w0 G us)(hs:cY w0 subs us)(hn:n≤10)(hl:subs.length≤1000000):Calls prog 187 #[.agg #[.int .u8 (k:Nat),.string x,.int .i64 nn,.slice G subs.length c],.int .i64 (n:Nat)] w fun e w'=>∃ds,e=.returned (.agg ds.toArray)∧iZ w0 subs n ds∧w.Since w.heap.size w':=by
 have HB:Hid (((w.alloc (.cells #[.int .u8 (k:Nat),.string x,.int .i64 nn,.slice G subs.length c] 39)).alloc cH).heap[w.heap.size]?=some (.cells #[.int .u8 (k:Nat),.string x,.int .i64 nn,.slice G subs.length c] 39)):=aa ((aj _ _ _ (by simp)).trans (aq w _));have HZ:Hid (((w.alloc (.cells #[.int .u8 (k:Nat),.string x,.int .i64 nn,.slice G subs.length c] 39)).alloc cH).heap[w.heap.size+1]?=some cH):=aa (by have:=aq (w.alloc (.cells #[.int .u8 (k:Nat),.string x,.int .i64 nn,.slice G subs.length c] 39)) cH;rw[World.size_alloc]at this;exact this);have HS:Hid (w.Since w.heap.size ((w.alloc (.cells #[.int .u8 (k:Nat),.string x,.int .i64 nn,.slice G subs.length c] 39)).alloc cH)):=aa (((ah _ _).alloc (ai _) _).alloc (by simp) _);obtain⟨W,hW⟩:∃W,(w.alloc (.cells #[.int .u8 (k:Nat),.string x,.int .i64 nn,.slice G subs.length c] 39)).alloc cH=W:=⟨_,rfl⟩;rw[hW]at HB HZ HS;rw[Nz]at hW HZ;obtain⟨p0,p1,p2,p3,-⟩:=ba HB.o;obtain⟨z0,z1,z2,z3,q4⟩:=ba HZ.o;have H0:=aa (bf h0 HS.o);by_cases h:n<subs.length;·
  have i1:(n:Int)<(subs.length:Int):=by omega
  obtain⟨a,k1,x1,n1,G1,m1,c1,hG1,ha,ht1,g0,g1,g2,g3⟩:=fJ hr hs n h;obtain⟨cc,cd⟩:=cI H0.o ha (n*4);have d0:=cc _ g0;have d1:=cd _ _ g1;have d2:=cd _ _ g2;have d3:=cd _ _ g3;obtain⟨V,hV,a1,b1,s1,o1,t1,u1⟩:=Ch HZ.o (.int .u8 (k1:Nat)) (.string x1) (.int .i64 n1) (.slice G1 m1 c1);obtain⟨y0,y1,y2,y3,-⟩:=ba a1;have HV:Hid (w.Since w.heap.size V):=aa ⟨o1.trans HS.o.os,t1.trans HS.o.tape,u1.trans HS.o.output,by have:=HS.o.size;omega,fun k hk=>(b1 k (by omega)).trans (HS.o.block k hk)⟩;have HT:=aa ht1;subst hG1;clear hr hs ht1 g0 g1 g2 g3 cc cd a1 b1 s1 o1 t1 u1 h0;go_enter func187,ntmps187;go_wp2_with fail;exact au (v:=.agg #[.int .u8 (k1:Nat),.string x1,.int .i64 n1,.slice G1 m1 c1]) (by simp[results,results187,go_sem,y0,y1,y2,y3]) rfl ⟨[.int .u8 (k1:Nat),.string x1,.int .i64 n1,.slice G1 m1 c1],rfl,.inl ⟨h,HT.o⟩,HV.o⟩
 ·
  have i1:¬(n:Int)<(subs.length:Int):=by omega
  obtain⟨V,hV,a1,b1,s1,o1,t1,u1⟩:=Ch HZ.o (.int .u8 0) (.string ⟨#[]⟩) (.int .i64 0) (.slice none 0 0);obtain⟨y0,y1,y2,y3,-⟩:=ba a1;have HV:Hid (w.Since w.heap.size V):=aa ⟨o1.trans HS.o.os,t1.trans HS.o.tape,u1.trans HS.o.output,by have:=HS.o.size;omega,fun k hk=>(b1 k (by omega)).trans (HS.o.block k hk)⟩;clear hr hs a1 b1 s1 o1 t1 u1 h0;go_enter func187,ntmps187;go_wp2_with fail;exact au (v:=.agg #[.int .u8 0,.string ⟨#[]⟩,.int .i64 0,.slice none 0 0]) (by simp[results,results187,go_sem,y0,y1,y2,y3]) rfl ⟨_,rfl,.inr ⟨h,rfl⟩,HV.o⟩
def fg(B b:Nat)(acc x:List UInt8)(w:World)(e:Ending)(w':World):Prop:=e=.returned (.tuple #[])∧∃r,WR acc x r∧gr 196 B b r w'∧bL B b w w'
def fh(B b:Nat)(w0:World)(K:Nat):Prop:=∀(t:Tz)(cs:List Value)(acc:List UInt8)(w:World),wtZ t≤K→TzAt w0 t cs→w0.Since w0.heap.size w→B≤w.heap.size→gr 196 B b acc w→Calls prog 105 #[.pointer (some ⟨b,0,none⟩),.agg cs.toArray] w (fg B b acc (fz t) w)
theorem O9(B b g c n:Nat)(acc:List UInt8)(l:List BA)(x:List UInt8)(w:World)(hx:ku l=x)(hn:l.length=n)(h:gr 196 B b acc w)(hB:B≤w.heap.size)(hg:w.heap[g]?=some (.cells (l.map Value.string).toArray 9))(hne:g≠b)(hl:l.length≤1000)(hs:∀s∈l,s.size≤10000000):Calls prog 188 #[.pointer (some ⟨b,0,none⟩),.slice (some ⟨g,0,none⟩) n c] w (fg B b acc x w):=by subst hx hn;refine(Gf B b g c acc l w h hB hg hne hl hs).mono fun e w' hh=>?_;exact⟨hh.1,_,Cg l acc,hh.2.1,hh.2.2⟩
theorem ep(B b n:Nat)(acc:List UInt8)(l:List BA)(x:List UInt8)(w:World)(hx:ku l=x)(hn:l.length=n)(h:gr 196 B b acc w)(hB:B≤w.heap.size)(hl:l.length≤1000)(hs:∀s∈l,s.size≤10000000):Calls prog 188 #[.pointer (some ⟨b,0,none⟩),.slice (some ⟨w.heap.size,0,none⟩) n n] (w.alloc (.cells (l.map Value.string).toArray 9)) (fg B b acc x w):=by
 refine(O9 B b w.heap.size n n acc l x _ hx hn (h.alloc _) (by simp;omega) (aq w _) (Nat.ne_of_gt h.lt) hl hs).mono fun e w' hh=>?_;obtain⟨h1,r,h2,h3,h4⟩:=hh;exact⟨h1,r,h2,h3,((bL.refl B b w).alloc hB _).trans h4⟩
theorem uu(B b:Nat)(acc:List UInt8)(w:World)(hB:B≤w.heap.size)(h:gr 196 B b acc w):Calls prog 105 #[.pointer (some ⟨b,0,none⟩),.agg #[.int .u8 0,.string ⟨#[]⟩,.int .i64 0,.slice none 0 0]] w (fg B b acc [] w):=by
 have HA:=aa ((h.alloc (.cells #[.pointer (some ⟨b,0,none⟩)] 247)).alloc (.cells #[.int .u8 0,.string ⟨#[]⟩,.int .i64 0,.slice none 0 0] 39));have HK:=aa (((bL.refl B b w).alloc hB (.cells #[.pointer (some ⟨b,0,none⟩)] 247)).alloc (by simp;omega) (.cells #[.int .u8 0,.string ⟨#[]⟩,.int .i64 0,.slice none 0 0] 39));clear h;go_enter func105,ntmps105;go_wp2_with fail;go_end0;exact⟨rfl,acc,.nil _,HA.o,HK.o⟩
theorem oa{B b:Nat}{w0:World}{K n:Nat}{subs:List Tz}{ds:List Value}(IH:fh B b w0 K)(hK:dH subs≤K)(h:iZ w0 subs n ds)(acc:List UInt8)(w:World)(h0:w0.Since w0.heap.size w)(hB:B≤w.heap.size)(hA:gr 196 B b acc w):Calls prog 105 #[.pointer (some ⟨b,0,none⟩),.agg ds.toArray] w (fg B b acc (dk 0 subs n) w):=by
 rcases h with⟨h1,h2⟩|⟨h1,rfl⟩;·rw[sl 0 subs n h1,show cL 0 (eK subs[n]) (fz subs[n])=fz subs[n]from nK (FF _)];exact IH _ _ _ _ (ay (gp subs n h1) hK) h2 h0 hB hA
 ·rw[oW 0 subs n h1];exact uu B b acc w hB hA
