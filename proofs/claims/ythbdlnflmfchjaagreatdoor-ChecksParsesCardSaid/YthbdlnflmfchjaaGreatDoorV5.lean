/- A map's block, told as the list of its entries: made, looked up, stored into, ranged over. -/
import Derived.Test.YthbdlnflmfchjaaGreatDoorFM1
import Derived.WalkKit
import Derived.WalkSpells
import Derived.Maps.Keyed
import Derived.Maps.OwnOps
import Derived.Maps.RangeWalk
import Derived.DeepKeys4
import Derived.Deep.Draws
import Derived.Laws.OwnMore
import Derived.WideKeyEntry
import Derived.Deep.RegionHeld3
import Derived.WalkLawsBesides
import Derived.Deep.QuietTactic
import Derived.BigQuiet
import Derived.Deep.LoopGhost
import Derived.Deep.Slices
import Derived.Laws.CopyOwn
import Derived.Deep.RegionLaw
import Derived.Laws.StructEq
import Derived.StillTailTactics
import Derived.Laws.AppendOwnNone
import Derived.Outline
import Derived.Laws.EntriesVeiled
import Derived.Test.YthbdlnflmfchjaaGreatDoorChecked
import Derived.Lib.TrimUEq
import Derived.Lib.ValidU
import Derived.Laws.RangeString
import Derived.ChangeMaps
import Derived.Laws.IdiomStrings
import Derived.Laws.Cover4
namespace Go.Proofs.MapEnt
open Go.RowKit
open Go.Maps(Keyed)
set_option maxHeartbeats 200000
set_option maxRecDepth 1000000
def kv(e:MapEntry):Value×Value:=(e.key,e.val)
def eF(P:Program)(k:TypeId)(w:World)(b:Nat)(l:List (Value×Value)):Prop:=∃es clock,w.heap[b]?=some (.map es clock)∧es.toList.map kv=l∧(∀p∈l,∃q,keyOf P k p.1=some q)∧(∀e∈es.toList,e.born<clock)∧(es.toList.map (·.born)).Nodup∧(l.map (·.1)).Nodup
section
variable{P:Program}{k:TypeId}{w w':World}{b:Nat}{l:List (Value×Value)}
theorem eF.new(P:Program)(k:TypeId)(w:World):eF P k (w.alloc (.map #[] 0)) w.heap.size []:=⟨#[],0,aq w _,rfl,fun _ h=>(by cases h),fun _ h=>(by cases h),List.nodup_nil,List.nodup_nil⟩
theorem eF.same(h:eF P k w b l)(e:w'.heap[b]?=w.heap[b]?):eF P k w' b l:=by obtain⟨es,c,h1,h2⟩:=h;exact⟨es,c,e.trans h1,h2⟩
theorem eF.lt(h:eF P k w b l):b<w.heap.size:=by obtain⟨es,c,h1,_⟩:=h;exact(aE.1 h1).1
theorem eF.nodup(h:eF P k w b l):(l.map (·.1)).Nodup:=by obtain⟨_,_,_,_,_,_,_,h⟩:=h;exact h
theorem eF.find(K:Keyed P k)(h:eF P k w b l){key:Value}{q:Lit}(hk:keyOf P k key=some q):∃es clock,w.heap[b]?=some (.map es clock)∧es.toList.map kv=l∧(∀e∈es.toList,e.born<clock)∧(es.toList.map (·.born)).Nodup∧(((Instr.findKey k key es.toList).run P w=.ok none w∧∀p∈l,p.1≠key)∨∃j e,(Instr.findKey k key es.toList).run P w=.ok (some (j,e.val)) w∧es.toList[j]?=some e∧e.key=key∧(key,e.val)∈l):=by
 obtain⟨es,c,h1,h2,h3,h4,h5,_⟩:=h;refine⟨es,c,h1,h2,h4,h5,?_⟩;rcases K.find w hk es.toList (fun e he=>h3 (e.key,e.val) (by rw[←h2];exact List.mem_map.2 ⟨e,he,rfl⟩))with⟨r1,r2⟩|⟨j,e,r1,r2,r3⟩;·refine .inl ⟨r1,fun p hp=>?_⟩;rw[←h2]at hp;obtain⟨e,he,rfl⟩:=List.mem_map.1 hp;exact r2 e he
 ·refine .inr ⟨j,e,r1,r2,r3,?_⟩;rw[←h2,←r3];exact List.mem_map.2 ⟨e,List.mem_of_getElem? r2,rfl⟩
theorem eF.lookup{t e:TypeId}(K:Keyed P k)(ht:P.underlying t=some (.map k e)){z:Value}(hz:(zeroValue e).run P w=.ok z w)(h:eF P k w b l){key:Value}{q:Lit}(hk:keyOf P k key=some q):(((Instr.lookup t (.map (some b)) key true).run P w=.ok (.tuple #[z,.bool false]) w∧(Instr.lookup t (.map (some b)) key false).run P w=.ok z w)∧∀p∈l,p.1≠key)∨∃v,((Instr.lookup t (.map (some b)) key true).run P w=.ok (.tuple #[v,.bool true]) w∧(Instr.lookup t (.map (some b)) key false).run P w=.ok v w)∧(key,v)∈l:=by
 obtain⟨es,c,h1,h2,_,_,h3⟩:=h.find K hk;have hg:=MapKept.run_getObj_map (P:=P) h1;rcases h3 with⟨r1,r2⟩|⟨j,e0,r1,_,_,r2⟩;·exact .inl ⟨⟨by simp[Instr.lookup,run_underlying ht,hg,K.check w _ hk,r1,hz,Result.andThen],by simp[Instr.lookup,run_underlying ht,hg,K.check w _ hk,r1,hz,Result.andThen]⟩,r2⟩
 ·exact .inr ⟨e0.val,⟨by simp[Instr.lookup,run_underlying ht,hg,K.check w _ hk,r1,Result.andThen],by simp[Instr.lookup,run_underlying ht,hg,K.check w _ hk,r1,Result.andThen]⟩,r2⟩
theorem eF.put{t e:TypeId}(K:Keyed P k)(ht:P.underlying t=some (.map k e))(h:eF P k w b l){key val:Value}{q:Lit}(hk:keyOf P k key=some q):∃w' l',(Instr.mapUpdate t (.map (some b)) key val).run P w=.ok () w'∧eF P k w' b l'∧w'.os=w.os∧w'.tape=w.tape∧w'.output=w.output∧w'.heap.size=w.heap.size∧(∀i,i≠b→w'.heap[i]?=w.heap[i]?)∧(((∀p∈l,p.1≠key)∧l'=l++[(key,val)])∨∃l1 l2 old,l=l1++(key,old)::l2∧l'=l1++(key,val)::l2):=by
 have hlt:=h.lt;have hnd:=h.nodup;obtain⟨_,_,_,_,hkeys,_⟩:=id h;obtain⟨es,c,h1,h2,h4,h5,h3⟩:=h.find K hk;have hg:=MapKept.run_getObj_map (P:=P) h1;rcases h3 with⟨r1,r2⟩|⟨j,e0,r1,r2,r3,r4⟩;·
  refine⟨{w with heap:=w.heap.setIfInBounds b (.map (es.push {key,val,born:=c}) (c+1))},l++[(key,val)],?_,⟨es.push {key,val,born:=c},c+1,?_,?_,?_,?_,?_,?_⟩,rfl,rfl,rfl,by simp,fun i hi=>?_,.inl ⟨r2,rfl⟩⟩;·simp[Instr.mapUpdate,run_underlying ht,hg,K.check w _ hk,r1,Result.andThen,setObj,Sem.run,h1]
  ·simp[hlt]
  ·simp[h2,kv]
  ·
   intro p hp;rcases List.mem_append.1 hp with hp|hp;·exact hkeys p hp
   ·obtain rfl:=aK.1 hp;exact⟨q,hk⟩
  ·
   intro x hx;simp only[Array.toList_push,List.mem_append,aK]at hx;rcases hx with hx|rfl;·have:=h4 x hx;omega
   ·exact aG _
  ·simp only[Array.toList_push,List.map_append,List.map_cons,List.map_nil];refine List.nodup_append.2 ⟨h5,by simp,fun x hx y hy=>?_⟩;obtain⟨z,hz,rfl⟩:=List.mem_map.1 hx;obtain rfl:=aK.1 hy;have:=h4 z hz;omega
  ·simp only[List.map_append,List.map_cons,List.map_nil];refine List.nodup_append.2 ⟨hnd,by simp,fun x hx y hy=>?_⟩;obtain⟨z,hz,rfl⟩:=List.mem_map.1 hx;obtain rfl:=aK.1 hy;exact r2 z hz
  ·simp[Ne.symm hi]
 ·
  have hj:es[j]?=some e0:=by simpa using r2
  have hjl:j<es.toList.length:=(aQ.1 r2).1;have hje:es.toList[j]=e0:=(aQ.1 r2).2;have hlist:(es.modify j (fun e'=>{e' with key:=key,val:=val})).toList=es.toList.take j++{e0 with key:=key,val:=val}::es.toList.drop (j+1):=by rw[Array.toList_modify,List.modify_eq_take_cons_drop hjl,hje]
  have hold:es.toList=es.toList.take j++e0::es.toList.drop (j+1):=by rw[←hje,List.getElem_cons_drop,List.take_append_drop]
  have hl:l=(es.toList.take j).map kv++(key,e0.val)::(es.toList.drop (j+1)).map kv:=by
   rw[←h2];conv=>lhs;rw[hold]
   simp[kv,r3]
  refine⟨{w with heap:=w.heap.setIfInBounds b (.map (es.modify j (fun e'=>{e' with key:=key,val:=val})) c)},(es.toList.take j).map kv++(key,val)::(es.toList.drop (j+1)).map kv,?_,⟨es.modify j (fun e'=>{e' with key:=key,val:=val}),c,?_,?_,?_,?_,?_,?_⟩,rfl,rfl,rfl,by simp,fun i hi=>?_,.inr ⟨_,_,_,hl,rfl⟩⟩;·simp[Instr.mapUpdate,run_underlying ht,hg,K.check w _ hk,r1,hj,r3,K.stays w hk,Result.andThen,setObj,Sem.run,h1]
  ·simp[hlt]
  ·rw[hlist];simp[kv]
  ·
   intro p hp;simp only[List.mem_append,List.mem_cons]at hp;rcases hp with hp|rfl|hp;·
    exact hkeys p (by rw[hl];simp only[List.mem_append];exact .inl hp)
   ·exact⟨q,hk⟩
   ·exact hkeys p (by rw[hl];simp only[List.mem_append,List.mem_cons];exact .inr (.inr hp))
  ·
   intro x hx;rw[hlist]at hx;simp only[List.mem_append,List.mem_cons]at hx;rcases hx with hx|rfl|hx;·exact h4 x (List.mem_of_mem_take hx)
   ·exact h4 e0 (List.mem_of_getElem? r2)
   ·exact h4 x (List.mem_of_mem_drop hx)
  ·rw[hlist];rw[hold]at h5;simpa using h5
  ·rw[hl]at hnd;simpa using hnd
  ·simp[Ne.symm hi]
end
section
variable{P:Program}(w:World){ops:Array Oper}{rest:List Oper}{o:Oper}{a:Act}{Q:Exit→Act→World→Prop}
end
section
variable{P:Program}{k:TypeId}{w w':World}{b r:Nat}{l rest:List (Value×Value)}
end
section
variable{P:Program}(w:World){ops:Array Oper}{rest:List Oper}{o:Oper}{a:Act}{Q:Exit→Act→World→Prop}
end
end Go.Proofs.MapEnt
namespace Go.Proofs.YthbdlnflmfchjaaGreatDoor
open Go.RowKit Go.Proofs.Fm
def wS(x:Wd):BA:=match x.kind with|.letters=>x.text|.sign=>x.text|_=>ByteArray.empty
def wT(x:Wd):BA:=match x.kind with|.string=>x.text|_=>ByteArray.empty
def vC(x:Wd):Bool:=decide (x.kind=.number)
def xX(x:Wd):Bool:=decide (x.kind=.string)
def wN(x:Wd):Nat:=match x.kind with|.number=>bh x.text 0 x.text.size 0|_=>0
def OY(x:Wd):Value:=.agg #[.int .i64 (x.place:Nat),.string (wS x),.bool (vC x),.int .i64 (wN x:Nat),.bool (xX x),.string (wT x),.bool false]
def F8(e:Nat):Value:=.agg #[.int .i64 (e:Nat),.string ByteArray.empty,.bool false,.int .i64 0,.bool false,.string ByteArray.empty,.bool false]
def vj(w:World)(G:Option Addr)(l:List Wd):Prop:=∀i(h:i<l.length),∃g,G=some ⟨g,0,none⟩∧g<w.heap.size∧w.cell? ⟨g,i*7,none⟩=some (.int .i64 (l[i].place:Nat))∧w.cell? ⟨g,i*7+1,none⟩=some (.string (wS l[i]))∧w.cell? ⟨g,i*7+2,none⟩=some (.bool (vC l[i]))∧w.cell? ⟨g,i*7+3,none⟩=some (.int .i64 (wN l[i]:Nat))∧w.cell? ⟨g,i*7+4,none⟩=some (.bool (xX l[i]))∧w.cell? ⟨g,i*7+5,none⟩=some (.string (wT l[i]))∧w.cell? ⟨g,i*7+6,none⟩=some (.bool false)
structure PsAt(w:World)(pb:Nat)(G:Option Addr)(c:Nat)(l:List Wd)(e n:Nat):Prop where
 lt:pb<w.heap.size
 c0:w.cell? ⟨pb,0,none⟩=some (.slice G l.length c)
 c1:w.cell? ⟨pb,1,none⟩=some (.int .i64 (n:Nat))
 c2:w.cell? ⟨pb,2,none⟩=some (.int .i64 (e:Nat))
 fz:w.frozen? ⟨pb,1,none⟩=false
 at_:vj w G l
 apart:∀g,G=some ⟨g,0,none⟩→g≠pb
structure bE(w:World)(pb:Nat)(w':World):Prop where
 os:w'.os=w.os
 tape:w'.tape=w.tape
 output:w'.output=w.output
 size:w.heap.size≤w'.heap.size
 block:∀k,k<w.heap.size→k≠pb→w'.heap[k]?=w.heap[k]?
theorem bE.refl(w:World)(pb:Nat):bE w pb w:=⟨rfl,rfl,rfl,ai _,fun _ _ _=>rfl⟩
theorem bE.trans{w w1 w2:World}{pb:Nat}(h:bE w pb w1)(h2:bE w1 pb w2):bE w pb w2:=⟨h2.os.trans h.os,h2.tape.trans h.tape,h2.output.trans h.output,ay h.size h2.size,fun k hk hne=>(h2.block k (aw hk h.size) hne).trans (h.block k hk hne)⟩
theorem bE.since{w w1 w2:World}{pb:Nat}(h:bE w pb w1)(h2:w1.Since w1.heap.size w2):bE w pb w2:=⟨h2.os.trans h.os,h2.tape.trans h.tape,h2.output.trans h.output,ay h.size h2.size,fun k hk hne=>(h2.block k (aw hk h.size)).trans (h.block k hk hne)⟩
theorem bE.set(w:World)(pb i:Nat)(v:Value):bE w pb (w.setCell ⟨pb,i,none⟩ v):=⟨rfl,rfl,rfl,by simp,fun k _ hne=>ak _ _ _ _ hne⟩
theorem vj.same{w w':World}{G:Option Addr}{l:List Wd}(h:vj w G l)(hs:w.heap.size≤w'.heap.size)(hb:∀g,G=some ⟨g,0,none⟩→g<w.heap.size→w'.heap[g]?=w.heap[g]?):vj w' G l:=fun i hi=>by obtain⟨g,hg,hlt,h0,h1,h2,h3,h4,h5,h6⟩:=h i hi;have hc:∀j,w'.cell? ⟨g,j,none⟩=w.cell? ⟨g,j,none⟩:=fun j=>az (hb g hg hlt);exact⟨g,hg,aw hlt hs,(hc _).trans h0,(hc _).trans h1,(hc _).trans h2,(hc _).trans h3,(hc _).trans h4,(hc _).trans h5,(hc _).trans h6⟩
variable{w w':World}{pb c e n:Nat}{G:Option Addr}{l:List Wd}
theorem PsAt.up(h:PsAt w pb G c l e n)(hs:w.Since w.heap.size w'):PsAt w' pb G c l e n:=⟨aw h.lt hs.size,(hs.cell (a:=⟨pb,0,none⟩) h.lt).trans h.c0,(hs.cell (a:=⟨pb,1,none⟩) h.lt).trans h.c1,(hs.cell (a:=⟨pb,2,none⟩) h.lt).trans h.c2,(hs.frozen (a:=⟨pb,1,none⟩) h.lt).trans h.fz,h.at_.same hs.size (fun g _ hg=>hs.block g hg),h.apart⟩
theorem PsAt.set(h:PsAt w pb G c l e n)(m:Nat):PsAt (w.setCell ⟨pb,1,none⟩ (.int .i64 (m:Nat))) pb G c l e m:=⟨by simp;exact h.lt,(aM _ _ _ _ (by simp)).trans h.c0,World.cell?_setCell_same _ _ _ h.c1,(aM _ _ _ _ (by simp)).trans h.c2,by simp[h.fz],h.at_.same (by simp) (fun g hg _=>ak _ _ _ _ (h.apart g hg)),h.apart⟩
def kj(l:List Wd)(e n:Nat):Value:=match l[n]? with|some x=>OY x|none=>F8 e
theorem Aq{l:List Wd}{e n:Nat}(h:n<l.length):kj l e n=OY l[n]:=by unfold kj;rw[aD h]
theorem Ar{l:List Wd}{e n:Nat}(h:¬n<l.length):kj l e n=F8 e:=by unfold kj;rw[aU (by omega)]
end Go.Proofs.YthbdlnflmfchjaaGreatDoor
namespace Go.Proofs.Uni
open Go Go.Lib
set_option maxHeartbeats 200000
set_option maxRecDepth 1000000
def eN(c:Nat):List Nat:=if c<128 then[c]else if c<2048 then[192+c / 64,128+c%64]else if c<65536 then[224+c / 4096,128+c / 64%64,128+c%64]else[240+c / 262144,128+c / 4096%64,128+c / 64%64,128+c%64]
def dT(c:Nat):Prop:=c<55296∨(57344≤c∧c≤1114111)
theorem F9{c:Nat}(h:dT c):(Utf8.encode (c:Int)).data.toList=(eN c).map UInt8.ofNat:=by
 have hv:Utf8.valid (c:Int)=true:=by unfold dT at h;simp only[Utf8.valid,Bool.or_eq_true,Bool.and_eq_true,decide_eq_true_eq];omega
 unfold Utf8.encode eN;simp only[hv,if_true,Int.toNat_natCast];split;·rfl
 ·
  split;·rfl
  ·split<;>rfl
theorem OZ{n b0 b1 b2 b3:Nat}(hn:1≤n)(h0:b0<256)(h1:b1<256)(_h2:b2<256)(h3:b3<256)(hv:¬((decodeN n b0 b1 b2 b3).1=65533∧(decodeN n b0 b1 b2 b3).2=1)):dT (decodeN n b0 b1 b2 b3).1∧(decodeN n b0 b1 b2 b3).2≤n∧1≤(decodeN n b0 b1 b2 b3).2∧(decodeN n b0 b1 b2 b3).2≤4∧eN (decodeN n b0 b1 b2 b3).1=[b0,b1,b2,b3].take (decodeN n b0 b1 b2 b3).2:=by
 unfold decodeN at hv⊢;split;·
  rename_i h;refine⟨.inl (by simp only;omega),hn,ai _,by simp,?_⟩;simp only[eN,List.take_succ_cons,List.take_zero];rw[if_pos h]
 ·
  rename_i n0;rw[if_neg n0]at hv;split;·
   rename_i h;rw[if_pos h]at hv;split;·
    rename_i g;have e1:(b0%32*64+b1%64) / 64=b0%32:=by omega
    have e2:(b0%32*64+b1%64)%64=b1%64:=by omega
    refine⟨.inl (by simp only;omega),by simp only;omega,by simp,by simp,?_⟩;simp only[eN,List.take_succ_cons,List.take_zero];rw[if_neg (by omega),if_pos (by omega),e1,e2];simp only[List.cons.injEq,and_true];omega
   ·rename_i g;rw[if_neg g]at hv;exact absurd ⟨rfl,rfl⟩ hv
  ·
   rename_i n1;rw[if_neg n1]at hv;split;·
    rename_i h;rw[if_pos h]at hv;split;·
     rename_i g;have e1:(b0%16*4096+b1%64*64+b2%64) / 4096=b0%16:=by omega
     have e2:(b0%16*4096+b1%64*64+b2%64) / 64%64=b1%64:=by omega
     have e3:(b0%16*4096+b1%64*64+b2%64)%64=b2%64:=by omega
     refine⟨g.2,by simp only;omega,by simp,by simp,?_⟩;simp only[eN,List.take_succ_cons,List.take_zero];rw[if_neg (by omega),if_neg (by omega),if_pos (by omega),e1,e2,e3];simp only[List.cons.injEq,and_true];omega
    ·rename_i g;rw[if_neg g]at hv;exact absurd ⟨rfl,rfl⟩ hv
   ·
    rename_i n2;rw[if_neg n2]at hv;split;·
     rename_i h;rw[if_pos h]at hv;split;·
      rename_i g;have e1:(b0%8*262144+b1%64*4096+b2%64*64+b3%64) / 262144=b0%8:=by omega
      have e2:(b0%8*262144+b1%64*4096+b2%64*64+b3%64) / 4096%64=b1%64:=by omega
      have e3:(b0%8*262144+b1%64*4096+b2%64*64+b3%64) / 64%64=b2%64:=by omega
      have e4:(b0%8*262144+b1%64*4096+b2%64*64+b3%64)%64=b3%64:=by omega
      refine⟨g.2,by simp only;omega,by simp,by simp,?_⟩;simp only[eN,List.take_succ_cons,List.take_zero];rw[if_neg (by omega),if_neg (by omega),if_neg (by omega),e1,e2,e3,e4];simp only[List.cons.injEq,and_true];omega
     ·rename_i g;rw[if_neg g]at hv;exact absurd ⟨rfl,rfl⟩ hv
    ·rename_i n3;rw[if_neg n3]at hv;exact absurd ⟨rfl,rfl⟩ hv
theorem O0(l:List UInt8):∀w,w≤4→w≤l.length→[l.getD 0 0,l.getD 1 0,l.getD 2 0,l.getD 3 0].take w=l.take w
 |0,_,_=>rfl
 |1,_,h=>by
   match l,h with|a::l,_=>rfl
 |2,_,h=>by
   match l,h with|a::b::l,_=>rfl
 |3,_,h=>by
   match l,h with|a::b::c::l,_=>rfl
 |4,_,h=>by
   match l,h with|a::b::c::d::l,_=>rfl
def enc(r:Nat):BA:=Utf8.encode (r:Nat)
theorem vD(l:List UInt8)(h:l≠[])(hv:¬((decodeL l).1=65533∧(decodeL l).2=1)):dT (decodeL l).1∧(decodeL l).2≤l.length∧(enc (decodeL l).1).data.toList=l.take (decodeL l).2:=by unfold enc;rw[decodeL_N]at hv⊢;have hl:1≤l.length:=List.length_pos_iff.2 h;obtain⟨h1,h2,_,h4,h5⟩:=OZ (n:=l.length) (b0:=(l.getD 0 0).toNat) (b1:=(l.getD 1 0).toNat) (b2:=(l.getD 2 0).toNat) (b3:=(l.getD 3 0).toNat) hl (UInt8.toNat_lt _) (UInt8.toNat_lt _) (UInt8.toNat_lt _) (UInt8.toNat_lt _) hv;refine⟨h1,h2,?_⟩;rw[F9 h1,h5,←O0 l _ h4 h2,List.map_take];simp
theorem IG:(enc 65533).data.toList.length=3:=by unfold enc;rw[F9 (.inr (by omega))];rfl
def eQ:Nat→List UInt8→List Nat
 |0,_=>[]
 |f+1,l=>if l=[]then[]else(decodeL l).1::eQ f (l.drop (decodeL l).2)
def bB(l:List UInt8):List Nat:=eQ l.length l
def cat(rs:List Nat):List UInt8:=(rs.map fun r=>(enc r).data.toList).flatten
theorem ur:∀(f:Nat)(l:List UInt8),l.length≤f→validGoD f l=true→cat (eQ f l)=l
 |0,l,h,_=>by have:l=[]:=List.eq_nil_of_length_eq_zero (by omega);subst this;rfl
 |f+1,l,h,hv=>by
  by_cases hl:l=[];·subst hl;rfl
  ·
   simp only[validGoD,if_neg hl]at hv;simp only[eQ,if_neg hl];split at hv;·cases hv
   ·rename_i hb;have q:=vD l hl hb;have h2:=q.2.1;have h3:=q.2.2;have hw:=decodeL_width l;have ih:=ur f (l.drop (decodeL l).2) (by simp only[List.length_drop];omega) hv;simp only[cat,List.map_cons,List.flatten_cons]at ih⊢;rw[ih];rw[h3,List.take_append_drop]
theorem Ce:∀(f:Nat)(l:List UInt8),l.length≤f→l.length≤(cat (eQ f l)).length∧(validGoD f l=false→l.length<(cat (eQ f l)).length)
 |0,l,h=>⟨by omega,fun hv=>by cases hv⟩
 |f+1,l,h=>by
  by_cases hl:l=[];·subst hl;exact⟨aI _,fun hv=>by simp[validGoD]at hv⟩
  ·
   have hw:=decodeL_width l;have hlp:1≤l.length:=List.length_pos_iff.2 hl;obtain⟨i1,i2⟩:=Ce f (l.drop (decodeL l).2) (by simp only[List.length_drop];omega);simp only[validGoD,if_neg hl,eQ,cat,List.map_cons,List.flatten_cons,List.length_append,List.length_drop]at i1 i2⊢;by_cases hb:(decodeL l).1=65533∧(decodeL l).2=1;·
    obtain⟨b1,b2⟩:=id hb;have e3:(enc (decodeL l).1).data.toList.length=3:=by rw[b1];exact IG
    rw[e3];rw[b2]at i1 i2⊢;exact⟨by omega,fun _=>by omega⟩
   ·
    have q:=vD l hl hb;have h2:=q.2.1;have h3:=q.2.2;have e3:(enc (decodeL l).1).data.toList.length=(decodeL l).2:=by rw[h3,List.length_take];omega
    rw[e3];refine⟨by omega,fun hv=>?_⟩;rw[if_neg hb]at hv;have:=i2 hv;omega
theorem um(l:List UInt8):validD l=true↔cat (bB l)=l:=by
 constructor;·exact ur l.length l (ai _)
 ·intro h;cases hv:validD l with
   |true=>rfl
   |false=>have:=(Ce l.length l (ai _)).2 hv;have e:(cat (eQ l.length l)).length=l.length:=congrArg List.length h;omega
end Go.Proofs.Uni
namespace Go.Proofs.StrIt
open Go Go.RowKit Go.Lib Go.Proofs.Uni
open Go.ChangeMaps(setBlock)
section
variable{P:Program}{w:World}{r pos:Nat}{s:BA}
theorem sW(ty:TypeId)(h:w.heap[r]?=some (.stringIter s pos))(hp:pos<s.size):(Instr.next (.pointer (some ⟨r,0,none⟩)) true ty).run P w=.ok (.tuple #[.bool true,.int .i64 pos,.int .i32 (Utf8.decode s pos).1]) (setBlock w r (.stringIter s (pos+(Utf8.decode s pos).2))):=by simp[Instr.next,getObj,setObj,Sem.run,h,Result.andThen,hp,goInt,setBlock]
theorem sX(ty:TypeId)(h:w.heap[r]?=some (.stringIter s pos))(hp:¬pos<s.size):(Instr.next (.pointer (some ⟨r,0,none⟩)) true ty).run P w=.ok (.tuple #[.bool false]) w:=by simp[Instr.next,getObj,Sem.run,h,hp]
end
section
variable{P:Program}(w:World){ops:Array Oper}{rest:List Oper}{o:Oper}{a:Act}{Q:Exit→Act→World→Prop}
theorem ql(hg:o.guard=none)(it:Operand)(hop:o.op=Op.next it true)(r:Nat)(s:BA)(pos:Nat)(hit:a.eval it=.pointer (some ⟨r,0,none⟩))(h:w.heap[r]?=some (.stringIter s pos))(hDone:¬pos<s.size→wpList P ops Q rest (a.put o.dst (.tuple #[.bool false])) w)(hMore:pos<s.size→∀w',w'.heap[r]?=some (.stringIter s (pos+(Utf8.decode s pos).2))→w.grownBy w' (some r)→w'.heap.size=w.heap.size→wpList P ops Q rest (a.put o.dst (.tuple #[.bool true,.int .i64 pos,.int .i32 (Utf8.decode s pos).1])) w'):wpList P ops Q (o::rest) a w:=by
 refine wpList_plain hg fun K' hK'=>?_;unfold Oper.wp;have hr:r<w.heap.size:=(aE.1 h).1;by_cases hp:pos<s.size;·
  simp[execOp,hop,hit,sW (P:=P) _ h hp,Result.andThen];exact hK' _ _ (hMore hp _ (by simp[setBlock,hr]) ⟨rfl,rfl,rfl,by simp[setBlock],fun i _ hi=>by have:r≠i:=fun e=>hi (by rw[e]);simp[setBlock,this]⟩ (by simp[setBlock]))
 ·simp[execOp,hop,hit,sX (P:=P) _ h hp,Result.andThen];exact hK' _ _ (hDone hp)
end
def As(s:BA)(pos:Nat)(rs:List Nat):Prop:=rs++bB (s.data.toList.drop pos)=bB s.data.toList∧rs.length≤pos
theorem pX:∀(f g:Nat)(l:List UInt8),l.length≤f→l.length≤g→eQ f l=eQ g l
 |0,0,_,_,_=>rfl
 |0,g+1,l,h,_=>by have:l=[]:=List.eq_nil_of_length_eq_zero (by omega);subst this;rfl
 |f+1,0,l,_,h=>by have:l=[]:=List.eq_nil_of_length_eq_zero (by omega);subst this;rfl
 |f+1,g+1,l,h1,h2=>by
  by_cases hl:l=[];·subst hl;rfl
  ·have hw:=decodeL_width l;simp only[eQ,if_neg hl];rw[pX f g _ (by simp only[List.length_drop];omega) (by simp only[List.length_drop];omega)]
theorem At{l:List UInt8}(h:l≠[]):bB l=(decodeL l).1::bB (l.drop (decodeL l).2):=by
 have hl:0<l.length:=List.length_pos_iff.2 h;have hw:=decodeL_width l;obtain⟨n,hn⟩:∃n,l.length=n+1:=⟨l.length-1,by omega⟩;unfold bB;rw[hn];simp only[eQ,if_neg h];rw[pX n _ _ (by simp only[List.length_drop];omega) (ai _)]
theorem sd(s:BA):As s 0 []:=⟨by simp,ai _⟩
theorem oV{s:BA}{pos:Nat}{rs:List Nat}(h:As s pos rs)(hp:pos<s.size):As s (pos+(Utf8.decode s pos).2) (rs++[(Utf8.decode s pos).1]):=by
 have hl:s.data.toList.drop pos≠[]:=by
  intro e;have:=congrArg List.length e;have hs:s.data.toList.length=s.size:=by simp
  simp only[List.length_drop,List.length_nil]at this;omega
 obtain⟨h1,h2⟩:=h;have hw:=decodeL_width (s.data.toList.drop pos);rw[decodeL_drop]at hw;refine⟨?_,by simp;omega⟩;rw[At hl,decodeL_drop,List.drop_drop]at h1;simpa using h1
theorem se{s:BA}{pos:Nat}{rs:List Nat}(h:As s pos rs)(hp:¬pos<s.size):rs=bB s.data.toList:=by
 obtain⟨h1,_⟩:=h;rw[List.drop_of_length_le (by simp;omega)]at h1;simpa[bB,eQ]using h1
theorem lN(l:List UInt8):(bB l).length≤l.length:=by
 unfold bB;suffices∀f(l:List UInt8),l.length≤f→(eQ f l).length≤l.length from this _ l (ai _);intro f;induction f with
 |zero=>intro l _;exact aI _
 |succ f ih=>
  intro l h;by_cases hl:l=[];·subst hl;exact ai _
  ·have hw:=decodeL_width l;have hlp:0<l.length:=List.length_pos_iff.2 hl;have:=ih (l.drop (decodeL l).2) (by simp only[List.length_drop];omega);simp only[List.length_drop]at this;simp only[eQ,if_neg hl,List.length_cons];omega
end Go.Proofs.StrIt
namespace Go.Proofs.YthbdlnflmfchjaaGreatDoor
open Go.Proofs.Tryz
open Go.RowKit Go.Proofs.Uni Go.Proofs.StrIt
set_option maxHeartbeats 6400000
set_option maxRecDepth 1000000
theorem yh{B:Nat}{w wk w':World}{blk:Option Nat}(h:w.Since B wk)(hB:B≤wk.heap.size)(hg:wk.grownBy w' blk)(hb:∀k,blk=some k→B≤k):w.Since B w':=⟨hg.os.trans h.os,hg.tape.trans h.tape,hg.output.trans h.output,ay h.size hg.size,fun k hk=>(hg.block k (by omega) (fun e=>by have:=hb k e.symm;omega)).trans (h.block k hk)⟩
def jT(r:Nat):Bool:=decide (r<32)||r==127
theorem F_(r:Nat)(w:World):Calls prog 111 #[.int .i32 r] w fun e w'=>e=.returned (.bool (jT r))∧w=w':=by
 by_cases h1:r<32;·
  have e:jT r=true:=by simp[jT,h1]
  rw[e];clear e;go_enter func111,ntmps111;go_wp2;go_ret;exact⟨rfl,rfl⟩
 ·
  by_cases h2:r=127;·subst h2;go_enter func111,ntmps111;go_wp2;go_ret;exact⟨rfl,rfl⟩
  ·
   have e:jT r=false:=by simp[jT,h1,h2]
   rw[e];clear e;have h3:((r:Int)==127)=false:=by simp;omega
   have h4:decide ((r:Int)<32)=false:=by simp;omega
   clear h2;go_enter func111,ntmps111;go_wp2;go_ret;exact⟨rfl,rfl⟩
def yi(s:BA)(w:World)(e:Ending)(w':World):Prop:=∃k:Int,e=.returned (.int .i64 k)∧(0≤k↔(bB s.data.toList).any jT=true)∧w.Since w.heap.size w'
theorem Gc{s:BA}{pos:Nat}{rs:List Nat}(h:As s pos rs)(hp:pos<s.size)(hc:jT (Utf8.decode s pos).1=true):(bB s.data.toList).any jT=true:=by have h2:=oV h hp;rw[←h2.1,List.any_append,List.any_append];simp[hc]
theorem sf(s:BA)(w:World)(hs:s.size≤9223372036854775807):Calls prog 246 #[.string s,.func (.func 111) #[] #[],.bool true] w (yi s w):=by
 go_enter func246,ntmps246;have H0:Hid ((w.iter s 0).heap[w.heap.size]?=some (.stringIter s 0)):=aa (World.iter_heap w s 0);have S0:Hid (w.Since w.heap.size (w.iter s 0)):=aa ((ah w.heap.size w).alloc (ai _) _);go_wp2_with fail;generalize w.iter s 0=w0 at*;go_loopg[]s.size(fun g wr=>∃(pos:Nat)(rs:List Nat),g=s.size-pos∧Hid (wr.heap[w.heap.size]?=some (.stringIter s pos))∧Hid (As s pos rs∧rs.any jT=false)∧Hid (w.Since w.heap.size wr));case atStart=>exact⟨0,[],by omega,H0,aa ⟨sd s,rfl⟩,S0⟩
 case round=>
  obtain⟨pos,rs,rfl,hI,hH,hS⟩:=hrel;go_wp2_with(refine ql _ rfl (.tmp 10) rfl w.heap.size s pos rfl hI.o ?_ ?_);·
   intro hp;have HF:Hid ((bB s.data.toList).any jT=false):=aa (by rw[←se hH.o.1 (by omega)];exact hH.o.2);go_wp2_with fail;go_ret;exact⟨-1,rfl,⟨fun h=>by omega,fun h=>by rw[HF.o]at h;cases h⟩,hS.o⟩
  ·
   intro hp w2 hI2 hg2 hz2;have hw:=Lib.width_pos s pos;have S2:=aa (yh hS.o hS.o.size hg2 (fun k e=>by cases e;exact ai _));have I2:=aa hI2;have HN:=aa (oV hH.o.1 hp);have HA:=aa (Gc hH.o.1 hp);have HC:=aa (fun wx=>F_ (Utf8.decode s pos).1 wx);have hA2:=aa hH.o.2;clear hg2 hI2 hz2;generalize(Utf8.decode s pos).1=r at*;generalize(Utf8.decode s pos).2=k at*;cases hc:jT r;·
    have HB:Hid ((rs++[r]).any jT=false):=aa (by rw[List.any_append,hA2.o];simp[hc]);rw[hc]at HC;clear HA hc hA2;go_wp2_with(
     first|(refine(HC.o _).mono ?_;rintro e wx⟨rfl,rfl⟩));go_roundg(s.size-(pos+k));case measure=>omega
    case rel=>exact⟨pos+k,rs++[r],rfl,I2,aa ⟨HN.o,HB.o⟩,S2⟩
   ·have HB:=aa (HA.o hc);rw[hc]at HC;clear HA hc hA2;go_wp2_with(
      first|(refine(HC.o _).mono ?_;rintro e wx⟨rfl,rfl⟩));go_ret;exact⟨pos,rfl,⟨fun _=>HB.o,fun _=>by omega⟩,S2.o⟩
theorem nV(s:BA)(w:World)(hs:s.size≤9223372036854775807):Calls prog 110 #[.string s,.func (.func 111) #[] #[]] w fun e w'=>e=.returned (.bool ((bB s.data.toList).any jT))∧w.Since w.heap.size w':=by
 have K:∀wx,Calls prog 196 #[.string s,.func (.func 111) #[] #[]] wx (yi s wx):=fun wx=>by have K0:=aa (sf s wx hs);go_enter func196,ntmps196;go_wp2_with fail;refine K0.o.mono ?_;rintro e w2⟨k,rfl,hk,hs2⟩;have HK:=aa (aF hk hs2);clear hk hs2;go_wp2_with fail;go_ret;exact⟨k,rfl,HK.o.1,HK.o.2⟩
 have HK:=aa K;clear K;go_enter func110,ntmps110;go_wp2_with fail;refine(HK.o _).mono ?_;rintro e w2⟨k,rfl,hk,hs2⟩;have HS:=aa hs2;have e:(bB s.data.toList).any jT=decide (0≤k):=by
  cases h:(bB s.data.toList).any jT;·rw[h]at hk;simp at hk;simp;omega
  ·rw[h]at hk;simp at hk;simp[hk]
 have HE:=aa e;clear hk hs2 e;go_wp2_with fail;go_ret;exact⟨by rw[HE.o];rfl,HS.o⟩
theorem DE(s:BA):∀(bound pos:Nat)(rs:List Nat),As s pos rs→s.size-pos≤bound→Conv.runesFrom s bound pos (rs.map fun(r:Nat)=>Value.int .i32 (r:Int)).toArray=((bB s.data.toList).map fun(r:Nat)=>Value.int .i32 (r:Int)).toArray:=by
 intro bound;induction bound with
 |zero=>intro pos rs h hb;rw[se h (by omega)];rfl
 |succ b ih=>
  intro pos rs h hb;by_cases hp:pos<s.size;·have hw:=Lib.width_pos s pos;have h2:=oV h hp;have:=ih _ _ h2 (by omega);rw[←this];simp[Conv.runesFrom,hp]
  ·rw[se h hp];simp[Conv.runesFrom,hp]
def cM(s:BA)(cap:Nat):Array Value:=((bB s.data.toList).map fun(r:Nat)=>Value.int .i32 (r:Int)).toArray++Array.replicate (cap-(bB s.data.toList).length) (.int .i32 0)
theorem mS(s:BA)(w:World)(hs:s.size≤100000000):∃cap,(bB s.data.toList).length≤cap∧(convert 9 204 (.string s)).run prog w=.ok (.slice (some ⟨w.heap.size,0,none⟩) (bB s.data.toList).length cap) (w.drew.alloc (.cells (cM s cap) 21)):=by
 have e:=DE s s.size 0 [] (sd s) (by omega);have hz:(Conv.runesFrom s s.size 0 #[]).size=(bB s.data.toList).length:=by have:=congrArg Array.size e;simpa using this
 have hl:(bB s.data.toList).length≤s.size:=ay (lN _) (Nat.le_of_eq Array.length_toList);have h:=run_runes_of_string (P:=prog) w 9 204 21 s underlying9 underlying204 underlying21 (by rw[hz];omega);have hge:=grownCap_ge w (Conv.runesFrom s s.size 0 #[]).size 0 21;rw[hz]at h hge;refine⟨_,hge,h.trans ?_⟩;have e2:Conv.runesFrom s s.size 0 #[]=((bB s.data.toList).map fun(r:Nat)=>Value.int .i32 (r:Int)).toArray:=e;rw[e2];rfl
theorem oQ(s:BA)(cap:Nat)(j:Nat)(h:j<(bB s.data.toList).length):(cM s cap)[j]?=some (.int .i32 ((bB s.data.toList)[j]:Int)):=by unfold cM;rw[Array.getElem?_append_left (by simpa using h)];simp[h]
def cU(s:BA):Bool:=decide (cat (bB s.data.toList)=s.data.toList)&&!(bB s.data.toList).any jT
theorem DF(ns:List Nat):∀b:BA,((ns.map fun(r:Nat)=>(r:Int)).foldl (fun r n=>r++Utf8.encode n) b).data.toList=b.data.toList++cat ns:=by
 induction ns with
 |nil=>intro b;simp[cat]
 |cons n ns ih=>intro b;rw[List.map_cons,List.foldl_cons,ih];simp[cat,Uni.enc]
theorem lu(ns:List Nat):(runesBytes (ns.map fun(r:Nat)=>(r:Int))).data.toList=cat ns:=by unfold runesBytes;rw[DF];rfl
theorem si(ns:List Nat)(s:BA):runesBytes (ns.map fun(r:Nat)=>(r:Int))=s↔cat ns=s.data.toList:=by
 constructor;·intro h;rw[←h,lu]
 ·intro h;apply ByteArray.ext;apply Array.toList_inj.1;rw[lu,h]
theorem Gd{rs:List Nat}{I:Nat}(h:I<rs.length):(rs.take (I+1)).any jT=((rs.take I).any jT||jT rs[I]):=by rw[List.take_succ_eq_append_getElem h,List.any_append];simp
theorem Nx{rs:List Nat}{I:Nat}(h:I<rs.length)(hc:jT rs[I]=true):rs.any jT=true:=List.any_eq_true.2 ⟨_,List.getElem_mem h,hc⟩
theorem gS(s:BA)(w:World)(hs:s.size≤100000000):Calls prog 55 #[.string s] w fun e w'=>e=.returned (.bool (cU s))∧w.Since w.heap.size w':=by
 obtain⟨cap,hcap,hconv⟩:=mS s w hs;have HL:(bB s.data.toList).length≤s.size:=ay (lN _) (Nat.le_of_eq Array.length_toList);have hC0:∀j(h:j<(bB s.data.toList).length),(w.drew.alloc (.cells (cM s cap) 21)).cell? ⟨w.heap.size,j,none⟩=some (.int .i32 ((bB s.data.toList)[j]:Int)):=fun j h=>by rw[←oQ s cap j h];exact World.cell?_alloc_at _ _ _ _ rfl
 have HC:=aa hC0;have S0:Hid (w.Since w.heap.size (w.drew.alloc (.cells (cM s cap) 21))):=aa (World.Since.alloc (ah w.heap.size w).drew (ai _) _);have HB:=aa (si (bB s.data.toList) s);have HT:Hid (cU s=(decide (cat (bB s.data.toList)=s.data.toList)&&!(bB s.data.toList).any jT)):=aa rfl;have hback:(convert 204 9 (.slice (some ⟨w.heap.size,0,none⟩) (bB s.data.toList).length cap)).run prog (w.drew.alloc (.cells (cM s cap) 21))=.ok (.string (runesBytes ((bB s.data.toList).map fun(r:Nat)=>(r:Int)))) (w.drew.alloc (.cells (cM s cap) 21)):=by
  have h:=run_convert_runes (P:=prog) (w.drew.alloc (.cells (cM s cap) 21)) 204 9 21 ⟨w.heap.size,0,none⟩ (bB s.data.toList).length cap ((bB s.data.toList).map fun(r:Nat)=>(r:Int)) (by simp) underlying204 underlying21 underlying9 (fun j hj=>by
   have hj':j<(bB s.data.toList).length:=by simpa using hj
   have e:((⟨w.heap.size,0,none⟩:Addr).add j)=⟨w.heap.size,j,none⟩:=by unfold Addr.add;split<;>simp_all
   rw[e,hC0 j hj'];simp[List.getD,hj']);rw[List.take_of_length_le (by simp)]at h;exact h
 generalize runesBytes ((bB s.data.toList).map fun(r:Nat)=>(r:Int))=X at*;clear hC0;generalize cM s cap=cells at*;generalize bB s.data.toList=rs at*;generalize hw0:w.drew.alloc (.cells cells 21)=w0 at*;clear hw0;by_cases hX:X=s;·
  subst hX;have HT2:Hid (cU X=!rs.any jT):=aa (by rw[HT.o,aB (HB.o.1 rfl)];simp);rw[HT2.o];clear HT HT2 HB;go_enter func55,ntmps55;go_wp2_with fail;go_loopg[4]rs.length(fun g i wr=>∃I:Nat,I≤rs.length∧g=rs.length-I∧i=.int .i64 I∧Hid ((rs.take I).any jT=false)∧wr=w0);case atStart=>exact⟨0,by omega,by omega,rfl,aa rfl,rfl⟩
  case round=>
   obtain⟨I,hI,rfl,rfl,hA,rfl⟩:=hrel;by_cases hlt:I<rs.length;·
    have hlt2:(I:Int)<(rs.length:Int):=by omega
    have hc:=HC.o I hlt;have HN:=aa (Gd hlt);have HF:=aa (Nx hlt);generalize rs[I]=r at*;have hcz:I≤cap:=by omega
    by_cases h1:r<32;·
     have e:jT r=true:=by simp[jT,h1]
     have HE:Hid ((!rs.any jT)=false):=aa (by rw[HF.o e];rfl);clear HN HF e;have h1':(r:Int)<32:=by omega
     go_wp2_with fail;go_ret;exact⟨by rw[HE.o];rfl,S0.o⟩
    ·
     have h4:decide ((r:Int)<32)=false:=by simp;omega
     by_cases h2:r=127;·
      subst h2;have HE:Hid ((!rs.any jT)=false):=aa (by rw[HF.o rfl];rfl);clear HN HF;go_wp2_with fail;go_ret;exact⟨by rw[HE.o];rfl,S0.o⟩
     ·
      have e:jT r=false:=by simp[jT,h1,h2]
      have HA2:Hid ((rs.take (I+1)).any jT=false):=aa (by rw[HN.o,hA.o,e];rfl);have h3:((r:Int)==127)=false:=by simp;omega
      clear HN HF e h2 hA;go_wp2_with fail;go_roundg(rs.length-(I+1));case measure=>omega
      case rel=>exact⟨I+1,by omega,rfl,by go_num,HA2,rfl⟩
   ·
    obtain rfl:I=rs.length:=by omega
    have HE:Hid ((!rs.any jT)=true):=aa (by have:=hA.o;rw[List.take_length]at this;rw[this];rfl);clear hA;go_wp2_with fail;go_ret;exact⟨by rw[HE.o];rfl,S0.o⟩
 ·
  have HT2:Hid (cU s=false):=aa (by rw[HT.o,aA (fun h=>hX (HB.o.2 h))];simp);rw[HT2.o];clear HT HT2 HB;have hX2:(X.toList==s.toList)=false:=by rw[ByteArray.toList_eq,ByteArray.toList_eq];simp only[beq_eq_false_iff_ne];exact fun h=>hX (ByteArray.ext (Array.toList_inj.1 h))
  go_enter func55,ntmps55;go_wp2_with fail;go_ret;exact⟨rfl,S0.o⟩
