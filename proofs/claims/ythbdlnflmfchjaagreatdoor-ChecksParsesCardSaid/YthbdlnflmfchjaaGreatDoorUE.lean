/- The words of a text one by one: the iterator walked. -/
import Derived.Test.YthbdlnflmfchjaaGreatDoorUD
import Derived.RangeFuncNested
import Derived.RangeFuncBound
import Derived.RangeFuncCalls
import Derived.RangeFuncLeaves
import Derived.RangeFuncFrom
import Derived.Shelf.Abstract
import Derived.OwnWalkIn
import Derived.TacticsInMore
import Derived.LoopNIn
import Derived.LoopIn
set_option linter.unusedVariables false
set_option linter.unusedSimpArgs false
namespace Go.Proofs.YthbdlnflmfchjaaGreatDoor
open Go.Proofs.Tryz
open Go.RowKit Go.Proofs.Fm Go.Proofs.MapEnt
set_option maxHeartbeats 6400000
set_option maxRecDepth 1000000
def gM(B:Nat)(W:World):Option Nat:=(W.cell? ⟨B,0,none⟩).bind Value.ownBlock
structure Nu(m0 tb B:Nat)(W W':World):Prop where
 below:Below m0 W W'
 keep:∀k cs t fr,tb≤k→W.heap[k]?=some (.cells cs t fr)→gM B W≠some k→W'.heap[k]?=some (.cells cs t fr)
 ptr:gM B W'=gM B W∨∃k,gM B W'=some k∧W.heap.size≤k∧k<W'.heap.size
def Iu(s:BA)(xs:List Tok):Prop:=(∀x∈xs,x.bad=false)→∃l,a_ cU lang.kept s 0=.ok l∧xs=l.map fX
def Ca(s:BA)(pre:List Tok):Prop:=∀x,pre.getLast?=some x→x.bad=true→a_ cU lang.kept s 0=.error x.place
def fq(x:Tok):Obj:=.cells (fy x) 100
structure mV(s:BA)(m0 tb B:Nat)(W wr:World)(i:Nat)(l0:List Wd):Prop where
 words:a_ cU lang.kept s 0=(a_ cU lang.kept s i).map (l0++·)
 below:Below m0 W wr
 box:wr.heap[tb]?=some (.cells #[.string s] 9)
 ptr:gM B wr=none∨∃k,gM B wr=some k∧tb<k∧k<wr.heap.size
 size:W.heap.size≤wr.heap.size
 few:l0.length≤i
theorem jB{W:World}{b t:Nat}{v:Value}(h:W.heap[b]?=some (.cells #[v] t)):W.cell? ⟨b,0,none⟩=some v:=by
 unfold World.cell?;show(match W.heap[b]? with
 |some (.cells c _ _)=>_
 |_=>_)=_;rw[h];rfl
theorem eT{W:World}{b:Nat}{x:Tok}(h:W.heap[b]?=some (fq x)):W.cell? ⟨b,0,none⟩=some (.int .i64 (x.place:Nat))∧W.cell? ⟨b,1,none⟩=some (.string x.word)∧W.cell? ⟨b,2,none⟩=some (.bool x.isN)∧W.cell? ⟨b,3,none⟩=some (.int .i64 (x.num:Nat))∧W.cell? ⟨b,4,none⟩=some (.bool x.isX)∧W.cell? ⟨b,5,none⟩=some (.string x.text)∧W.cell? ⟨b,6,none⟩=some (.bool x.bad):=by
 have key:∀j v,(fy x)[j]?=some v→W.cell? ⟨b,j,none⟩=some v:=fun j v hv=>by
  unfold World.cell?;show(match W.heap[b]? with
  |some (.cells c _ _)=>_
  |_=>_)=_;rw[h];exact hv
 exact⟨key 0 _ rfl,key 1 _ rfl,key 2 _ rfl,key 3 _ rfl,key 4 _ rfl,key 5 _ rfl,key 6 _ rfl⟩
theorem oT{W:World}{b:Nat}{x:Tok}(h:W.heap[b]?=some (fq x))(j:Nat):W.frozen? ⟨b,j,none⟩=false:=by unfold fq at h;simp[World.frozen?,h]
theorem fj{W:World}{b:Nat}{x:Tok}(h:W.heap[b]?=some (fq x)):(∀v,(W.setCell ⟨b,1,none⟩ (.string v)).heap[b]?=some (fq {x with word:=v}))∧(∀v,(W.setCell ⟨b,2,none⟩ (.bool v)).heap[b]?=some (fq {x with isN:=v}))∧(∀v:Nat,(W.setCell ⟨b,3,none⟩ (.int .i64 (v:Nat))).heap[b]?=some (fq {x with num:=v}))∧(∀v,(W.setCell ⟨b,4,none⟩ (.bool v)).heap[b]?=some (fq {x with isX:=v}))∧(∀v,(W.setCell ⟨b,5,none⟩ (.string v)).heap[b]?=some (fq {x with text:=v}))∧(∀v,(W.setCell ⟨b,6,none⟩ (.bool v)).heap[b]?=some (fq {x with bad:=v})):=by refine⟨fun v=>?_,fun v=>?_,fun v=>?_,fun v=>?_,fun v=>?_,fun v=>?_⟩<;>simp[World.setCell,Array.getElem?_modify,h,fq,fy]
theorem dP{w W:World}(h:w.Since w.heap.size W)(j:Nat)(v:Value):w.Since w.heap.size (W.setCell ⟨w.heap.size,j,none⟩ v):=⟨h.os,h.tape,h.output,by simp;exact h.size,fun k hk=>(ak _ _ _ _ (by intro e;dsimp only at e;omega)).trans (h.block k hk)⟩
def eV:List BA:=[⟨#[61,61]⟩,⟨#[33,61]⟩,⟨#[60,61]⟩,⟨#[62,61]⟩,⟨#[60]⟩,⟨#[62]⟩,⟨#[126]⟩,⟨#[43]⟩,⟨#[45]⟩,⟨#[42]⟩,⟨#[40]⟩,⟨#[41]⟩,⟨#[44]⟩,⟨#[58]⟩]
theorem Dz(s:BA)(i:Nat)(hi:i<s.size):eV.find? (iN s i)=dp.find? (iN s i):=by
 unfold eV dp;simp only[List.find?_cons,List.find?_nil,AS,AT];have hp:decide (i<s.size)=true:=aB hi;rw[hp];simp only[Bool.true_and];have u33:UInt8.toNat 33=33:=rfl;have u40:UInt8.toNat 40=40:=rfl;have u41:UInt8.toNat 41=41:=rfl;have u42:UInt8.toNat 42=42:=rfl;have u43:UInt8.toNat 43=43:=rfl;have u44:UInt8.toNat 44=44:=rfl;have u45:UInt8.toNat 45=45:=rfl;have u58:UInt8.toNat 58=58:=rfl;have u60:UInt8.toNat 60=60:=rfl;have u61:UInt8.toNat 61=61:=rfl;have u62:UInt8.toNat 62=62:=rfl;have u126:UInt8.toNat 126=126:=rfl;simp only[u33,u40,u41,u42,u43,u44,u45,u58,u60,u61,u62,u126];generalize bc s i=a;generalize bc s (i+1)=b;by_cases h40:a=40;·subst h40;simp
 by_cases h41:a=41;·subst h41;simp
 by_cases h44:a=44;·subst h44;simp
 by_cases h58:a=58;·subst h58;simp
 simp[h40,h41,h44,h58]
theorem DA{W:World}{b:Nat}(h:W.heap[b]?=some (.cells (eV.map Value.string).toArray 9))(j:Nat)(x:BA)(hj:eV[j]?=some x):W.cell? ⟨b,j,none⟩=some (.string x):=by
 unfold World.cell?;show(match W.heap[b]? with
 |some (.cells c _ _)=>_
 |_=>_)=_;rw[h];show(eV.map Value.string).toArray[j]?=_;rw[List.getElem?_toArray,List.getElem?_map,hj];rfl
def lZ(s:BA)(i j n:Nat)(word:BA):Prop:=(n=0∧word=ByteArray.empty∧(eV.take j).find? (iN s i)=none)∨∃x,(eV.take j).find? (iN s i)=some x∧n=x.size∧word=x
theorem vE{s:BA}{i j:Nat}{x:BA}(hj:eV[j]?=some x):(eV.take (j+1)).find? (iN s i)=((eV.take j).find? (iN s i)).or (if iN s i x=true then some x else none):=by obtain⟨h1,h2⟩:=aQ.1 hj;rw[List.take_succ_eq_append_getElem h1,List.find?_append,h2,List.find?_cons];cases iN s i x<;>rfl
theorem x_:∀x∈eV,0<x.size∧x.size≤2:=by decide
theorem LF{P:Prop}(h:P:=by have:=(x_ y (List.mem_of_mem_take (List.mem_of_find?_eq_some h))).1;omega):P:=h
theorem lZ.found{s:BA}{i j:Nat}{x w0:BA}(h:lZ s i j 0 w0)(hj:eV[j]?=some x)(hx:iN s i x=true):lZ s i (j+1) x.size x:=by
 rcases h with⟨_,_,h⟩|⟨y,h,e,_⟩;·
  exact .inr ⟨x,by rw[vE hj,h,hx];rfl,rfl,rfl⟩
 · exact LF
theorem lZ.not{s:BA}{i j:Nat}{x w0:BA}(h:lZ s i j 0 w0)(hj:eV[j]?=some x)(hx:iN s i x=false):lZ s i (j+1) 0 w0:=by
 rcases h with⟨_,e,h⟩|⟨y,h,e,_⟩;·
  exact .inl ⟨rfl,e,by rw[vE hj,h,hx];rfl⟩
 · exact LF
theorem lZ.kept{s:BA}{i j n:Nat}{x w0:BA}(h:lZ s i j n w0)(hj:eV[j]?=some x)(hn:n≠0):lZ s i (j+1) n w0:=by
 rcases h with⟨e,_⟩|⟨y,h,e1,e2⟩;·exact absurd e hn
 ·exact .inr ⟨y,by rw[vE hj,h];rfl,e1,e2⟩
theorem lZ.small{s:BA}{i j n:Nat}{w0:BA}(h:lZ s i j n w0):n≤2:=by
 rcases h with⟨e,_⟩|⟨y,h,e1,e2⟩;·omega
 ·have:=(x_ y (List.mem_of_mem_take (List.mem_of_find?_eq_some h))).2;omega
theorem lZ.tok{s:BA}{i n:Nat}{w0:BA}(h:lZ s i 14 n w0)(hi:i<s.size)(HS:(∀x,dp.find? (iN s i)=some x→0<x.size∧jA s i ⟨i,x,false,0,false,ByteArray.empty,false⟩ x.size)∧(dp.find? (iN s i)=none→jA s i ⟨i,ByteArray.empty,false,0,false,ByteArray.empty,true⟩ 0)):jA s i ⟨i,w0,false,0,false,ByteArray.empty,decide (n=0)⟩ n:=by
 have e:eV.take 14=eV:=rfl;unfold lZ at h;rw[e,Dz s i hi]at h;rcases h with⟨rfl,rfl,h⟩|⟨x,h,rfl,rfl⟩;·exact HS.2 h
 ·obtain⟨h1,h2⟩:=HS.1 _ h;rw[aA (by omega)];exact h2
theorem ya{w w':World}(h:w.Since w.heap.size w'):w.grownBy w' none:=⟨h.os,h.tape,h.output,h.size,fun k hk _=>h.block k hk⟩
section
variable{s:BA}{m0 tb B:Nat}{W wr w':World}{i:Nat}{l0:List Wd}
theorem FZ(hB:B<wr.heap.size)(hs:wr.Since wr.heap.size w'):gM B w'=gM B wr:=by unfold gM;rw[hs.cell (a:=⟨B,0,none⟩) hB]
theorem mV.up(h:mV s m0 tb B W wr i l0)(hB:B<tb)(hm:m0≤tb)(hs:wr.Since wr.heap.size w'):mV s m0 tb B W w' i l0:=by
 have htl:=aV h.box;refine⟨h.words,h.below.trans ⟨hs.os,hs.tape,hs.output,hs.size,fun k hk=>hs.block k (by omega)⟩,(hs.block tb htl).trans h.box,?_,ay h.size hs.size,h.few⟩;rw[FZ (by omega) hs];rcases h.ptr with e|⟨k,e,h1,h2⟩;·exact .inl e
 ·exact .inr ⟨k,e,h1,aw h2 hs.size⟩
theorem mV.gap(h:mV s m0 tb B W wr i l0)(hi:i<s.size)(hc:s[i].toNat=32):mV s m0 tb B W wr (i+1) l0:=⟨by rw[h.words,ja hi hc],h.below,h.box,h.ptr,h.size,Nat.le_succ_of_le h.few⟩
theorem mV.next{j:Nat}{l1:List Wd}(h:mV s m0 tb B W wr i l0)(hk:Nu m0 tb B wr w')(hw:a_ cU lang.kept s 0=(a_ cU lang.kept s j).map (l1++·))(hf:l1.length≤j):mV s m0 tb B W w' j l1:=by
 have htl:=aV h.box;refine⟨hw,h.below.trans hk.below,hk.keep tb _ _ _ (ai _) h.box ?_,?_,ay h.size hk.below.size,hf⟩;·
  rcases h.ptr with e|⟨k,e,h1,_⟩;·rw[e];exact fun h=>by cases h
  ·rw[e];exact fun h=>by injection h;omega
 ·
  rcases hk.ptr with e|⟨k,e,h1,h2⟩;·
   rw[e];rcases h.ptr with e|⟨k,e,h1,h2⟩;·exact .inl e
   ·exact .inr ⟨k,e,h1,aw h2 hk.below.size⟩
  ·exact .inr ⟨k,e,by omega,h2⟩
theorem mV.last(h:mV s m0 tb B W wr i l0)(hi:¬i<s.size):a_ cU lang.kept s 0=.ok l0:=kD h.words hi
end
theorem Cb{P:Prop}(h:P:=by go_wp2_with fail;go_meet;exact⟨_,n,rfl,rfl,by omega,aa (dP S4.o 6 _),aa ((fj T4.o).2.2.2.2.2 _),HX⟩):P:=h
theorem LG{P:Prop}(h:P:=by
 go_wp2_with fail;go_meet;exact⟨_,n,rfl,rfl,by omega,aa (dP S4.o 6 _),aa ((fj T4.o).2.2.2.2.2 _),by rw[aA (Int.not_lt.2 e1)];exact HX⟩):P:=h
theorem LH{P:Prop}(h:P:=by have:=(eT (hk3.keep wr.heap.size _ _ _ (aP (aV hI.o.box)) hB4.o hpt.o)).2.2.2.2.2.2;rw[hbad]at this;exact this):P:=h
theorem LI{P:Prop}(h:P:=by gi_wp2;go_wp2_with fail;refine au (results_none rfl _ _ _) rfl ?_;exact⟨⟨_,rfl⟩,.inr ⟨_,HP.o,hJx3⟩⟩):P:=h
theorem Ah(s:BA)(hs:s.size≤100000)(m0 tb B l nn:Nat)(J Jx:List Tok→World→Prop)(W:World)(hB:B<tb)(hm:m0≤tb)(hbt:W.heap[tb]?=some (.cells #[.string s] 9))(hptr:gM B W=none)(hT:∀wr,Below m0 W wr→Tabs wr)(hE:∀wr,Below m0 W wr→ErrV wr)(hJ:AbidesFrom W.heap.size J)(hY:∀pre x W1,J pre W1→pre.length<s.size→YieldAt Fence.wide nn prog l #[.agg (fy x)] W1 fun e W'=>(e=.returned (.bool true)∧J (pre++[x]) W'∧Nu m0 tb B W1 W')∨(e=.returned (.bool false)∧Jx (pre++[x]) W'))(h0:J [] W):Calls prog 84 #[.func (.yield l) #[] #[],.pointer (some ⟨tb,0,none⟩)] W fun e W'=>(∃v,e=.returned v)∧((∃xs,Iu s xs∧J xs W')∨∃pre,Ca s pre∧Jx pre W'):=by
 have HJ:=aa hJ;have HY:=aa hY;have HT:=aa hT;have HE:=aa hE;have I0:Hid (mV s m0 tb B W W 0 []):=aa ⟨by cases a_ cU lang.kept s 0<;>rfl,Below.refl _ _,hbt,.inl hptr,ai _,ai _⟩;have H0:Hid (J (([]:List Wd).map fX) W):=aa h0;clear hJ hY hT hE hptr h0 hbt;go_enter func84,ntmps84;go_wp2_with fail;go_loopg[3]s.size(fun gg o3 wr=>∃(i:Nat)(l0:List Wd),gg=s.size-i∧i≤s.size∧o3=.int .i64 (i:Nat)∧Hid (mV s m0 tb B W wr i l0)∧Hid (J (l0.map fX) wr));case atStart=>exact⟨0,[],rfl,aI _,rfl,I0,H0⟩
 case round=>
  obtain⟨i,l0,rfl,hi,rfl,hI,hJ⟩:=hrel;have ct:wr.cell? ⟨tb,0,none⟩=some (.string s):=jB hI.o.box;by_cases h1:i<s.size;·
   have i1:(i:Int)<(s.size:Int):=by omega
   have htl:=aV hI.o.box;have ct2:∀o,(wr.alloc o).cell? ⟨tb,0,none⟩=some (.string s):=fun o=>(av wr o _ htl).trans ct;have z5:IntKind.i64.wrap ((i:Int)+1)=(i:Int)+1:=ax _ (by omega);by_cases hc:s[i].toNat=32;·
    have b1:(((s[i].toNat:Nat):Int)==32)=true:=ag (by omega);have I2:Hid (mV s m0 tb B W (wr.alloc (fq ⟨i,ByteArray.empty,false,0,false,ByteArray.empty,false⟩)) (i+1) l0):=aa ((hI.o.up hB hm ((ah _ _).alloc (ai _) _)).gap h1 hc);have J2:Hid (J (l0.map fX) (wr.alloc (fq ⟨i,ByteArray.empty,false,0,false,ByteArray.empty,false⟩))):=aa (HJ.o _ _ _ none hJ.o (World.grownBy_alloc _ _ none) (fun r e=>by cases e));clear hc;go_wp2_with fail;go_roundg(s.size-(i+1));case measure=>omega
    case rel=>exact⟨i+1,l0,rfl,by omega,by simp,I2,J2⟩
   ·
    have b1:(((s[i].toNat:Nat):Int)==32)=false:=ae (by omega);go_upto_block 2 with fail;go_cut[3,5]from 11 to 139(fun o3 o5 wx=>∃(x:Tok)(n:Nat),o3=.int .i64 (i:Nat)∧o5=.int .i64 (n:Nat)∧n≤100000∧Hid (wr.Since wr.heap.size wx)∧Hid (wx.heap[wr.heap.size]?=some (fq x))∧Hid (jA s i x n));case first=>
     have htk:=aa (aq wr (fq ⟨i,ByteArray.empty,false,0,false,ByteArray.empty,false⟩));have hsk:Hid (wr.Since wr.heap.size (wr.alloc (fq ⟨i,ByteArray.empty,false,0,false,ByteArray.empty,false⟩))):=aa ((ah _ _).alloc (ai _) _);have hsz:=aa (ed s i s.size (ai _));have f1:(i:Int)≤(s.size:Int):=by omega
     by_cases k1:97≤s[i].toNat∧s[i].toNat≤122;·
      have c1:(97:Int)≤(s[i].toNat:Int):=by omega
      have c2:(s[i].toNat:Int)≤122:=by omega
      obtain⟨n,hn⟩:∃n,bC s 97 122 i=i+n:=⟨bC s 97 122 i-i,by have:=dD s 97 122 i;omega⟩;have hle:i+n≤s.size:=by rw[←hn];exact d_ _ _ _ _ (by omega)
      have KR:=aa (fun W=>yb (s.extract i s.size) 97 122 W (by rw[hsz.o];omega));rw[oS s 97 122 i (by omega) _ 0 rfl,Nat.add_zero,hn,Nat.add_sub_cancel_left]at KR;have hX:=aa (xY h1 k1 hn);rw[Nat.add_sub_cancel_left]at hX;have g1:((i:Int)+(n:Int))≤(s.size:Int):=by omega
      have g2:(i:Int)≤(i:Int)+(n:Int):=by omega
      have g3:((i:Int)+(n:Int)).toNat=i+n:=by omega
      have z7:IntKind.i64.wrap ((i:Int)+(n:Int))=(i:Int)+(n:Int):=ax _ (by omega);clear k1 hn;by_cases k2:12<n;·
       have c3:(12:Int)<(n:Int):=by omega
       rw[aB k2,Bool.true_and]at hX;have KK:=aa (fun W=>nW W (s.extract i (i+n)) (by rw[ed s i (i+n) hle];simp only[maxLen];omega));have s2:Hid (wr.Since wr.heap.size (wr.alloc (fq ⟨i,s.extract i (i+n),false,0,false,ByteArray.empty,false⟩))):=aa ((ah _ _).alloc (ai _) _);have t2:=aa (aq wr (fq ⟨i,s.extract i (i+n),false,0,false,ByteArray.empty,false⟩));unfold fq fy at s2 t2;go_wp2_with fail;refine(KR.o _).mono ?_;rintro r0 w2⟨rfl,rfl⟩;go_wp2_with fail;refine(KK.o _).mono ?_;rintro r0 w3⟨rfl,s3⟩;have S3:=aa (aZ s2.o s3);have T3:Hid (w3.heap[wr.heap.size]?=some (fq ⟨i,s.extract i (i+n),false,0,false,ByteArray.empty,false⟩)):=aa ((s3.block _ (aV t2.o)).trans t2.o);obtain⟨-,-,-,-,-,-,q6⟩:=eT T3.o;have qf:=oT T3.o 6;clear s3;go_wp2_with fail;go_meet;exact⟨_,n,rfl,rfl,by omega,aa (dP S3.o _ _),aa ((fj T3.o).2.2.2.2.2 _),hX⟩
      ·
       have c3:¬(12:Int)<(n:Int):=by omega
       rw[aA k2,Bool.false_and]at hX;go_wp2_with fail;refine(KR.o _).mono ?_;rintro r0 w2⟨rfl,rfl⟩;go_wp2_with fail;go_meet;exact⟨_,n,rfl,rfl,by omega,aa ((ah _ _).alloc (ai _) _),aa (aq wr _),hX⟩
     ·
      by_cases k3:48≤s[i].toNat∧s[i].toNat≤57;·
       have c1:¬(97:Int)≤(s[i].toNat:Int):=by omega
       have c2:(48:Int)≤(s[i].toNat:Int):=by omega
       have c3:(s[i].toNat:Int)≤57:=by omega
       obtain⟨n,hn⟩:∃n,bC s 48 57 i=i+n:=⟨bC s 48 57 i-i,by have:=dD s 48 57 i;omega⟩;have hle:i+n≤s.size:=by rw[←hn];exact d_ _ _ _ _ (by omega)
       have hn0:0<n:=by
        have h:=ec (s:=s) (lo:=48) (hi:=57) (n:=i) ⟨h1,by rw[bm h1];exact k3⟩;have:=dD s 48 57 (i+1);omega
       have KR:=aa (fun W=>yb (s.extract i s.size) 48 57 W (by rw[hsz.o];omega));rw[oS s 48 57 i (by omega) _ 0 rfl,Nat.add_zero,hn,Nat.add_sub_cancel_left]at KR;have hpz:=ed s i (i+n) hle;obtain⟨V,hV⟩:∃V,bh s i (i+n) 0=V:=⟨_,rfl⟩;have HX:Hid (∀(v:Nat)(b:Bool),b=decide (1000000<V∨(1<n∧s[i].toNat=48))→(b=false→v=V)→jA s i ⟨i,ByteArray.empty,true,v,false,ByteArray.empty,b⟩ n):=aa (fun v b hb hv=>by
        have:=Ac (v:=v) h1 k3 hn b (by rw[Nat.add_sub_cancel_left,hV];exact hb) (by rw[hV];exact hv);rw[Nat.add_sub_cancel_left]at this;exact this);have KN:=aa (fun W hE=>FR (s.extract i (i+n)) W (by omega) (by omega) (fun j hj=>by have h:=mw s 48 57 _ i (ai _) (i+j) (by omega) (by omega);rw[←ej s i (i+n) j hle (by omega),bm hj]at h;exact h) hE);have hdv:bh (s.extract i (i+n)) 0 (s.extract i (i+n)).size 0=V:=by have:=gT s i (i+n) hle _ 0 0 rfl;rw[Nat.add_sub_cancel_left,Nat.add_zero,hV]at this;rw[hpz,Nat.add_sub_cancel_left];exact this
       rw[hdv]at KN;have hEr:=HE.o _ (hI.o.up hB hm hsk.o).below;have KN:=aa (KN.o _ hEr);have g1:((i:Int)+(n:Int))≤(s.size:Int):=by omega
       have g2:(i:Int)≤(i:Int)+(n:Int):=by omega
       have g3:((i:Int)+(n:Int)).toNat=i+n:=by omega
       have z7:IntKind.i64.wrap ((i:Int)+(n:Int))=(i:Int)+(n:Int):=ax _ (by omega);clear k1 k3 hn hV hdv hEr hpz;unfold fq fy at KN;go_wp2_with fail;refine(KR.o _).mono ?_;rintro r0 w2⟨rfl,rfl⟩;go_wp2_with fail;refine KN.o.mono ?_;rintro r0 w3⟨v,ev,rfl,s3,hc3⟩;have S3:=aa (aZ hsk.o s3);have T3:Hid (w3.heap[wr.heap.size]?=some (fq ⟨i,ByteArray.empty,false,0,false,ByteArray.empty,false⟩)):=aa ((s3.block _ (aV htk.o)).trans htk.o);have T4:=aa ((fj ((fj T3.o).2.1 true)).2.2.1 v);have S4:=aa (dP (dP S3.o 2 (.bool true)) 3 (.int .i64 (v:Nat)));obtain⟨-,-,q2,q3,-,-,q6⟩:=eT T3.o;have qf:=oT T3.o;clear s3;rcases hc3 with⟨hv1,rfl,rfl⟩|⟨hv1,rfl,te,pe,rfl⟩;·
        by_cases k4:1000000<v;·
         have e1:(1000000:Int)<(v:Int):=by omega
         have HX:=aa (HX.o v true (by rw[aB (.inl k4)]) (fun h=>by cases h));clear k4;exact Cb
        ·
         have e1:¬(1000000:Int)<(v:Int):=by omega
         by_cases k5:1<n;·
          have e2:(1:Int)<(n:Int):=by omega
          by_cases k6:s[i].toNat=48;·have e3:(((s[i].toNat:Nat):Int)==48)=true:=ag (by omega);have HX:=aa (HX.o v true (by rw[aB (.inr ⟨k5,k6⟩)]) (fun h=>by cases h));clear k4 k5 k6;exact Cb
          ·have e3:(((s[i].toNat:Nat):Int)==48)=false:=ae (by omega);have HX:=aa (HX.o v false (by rw[aA (fun h=>h.elim k4 (fun h=>k6 h.2))]) (fun _=>rfl));clear k4 k5 k6;exact LG
         ·
          have e2:¬(1:Int)<(n:Int):=by omega
          have HX:=aa (HX.o v false (by rw[aA (fun h=>h.elim k4 (fun h=>k5 h.1))]) (fun _=>rfl));clear k4 k5;exact LG
       ·have HX:=aa (HX.o 9223372036854775807 true (by rw[aB (.inl (by omega))]) (fun h=>by cases h));exact Cb
      ·
       by_cases k4:s[i].toNat=34;·
        have c1:¬(97:Int)≤(s[i].toNat:Int):=by omega
        have c2:¬(48:Int)≤(s[i].toNat:Int):=by omega
        have c3:(((s[i].toNat:Nat):Int)==34)=true:=ag (by omega);obtain⟨HQ1,HQ2⟩:=Ad h1 k4;have KQ:=aa (fun W hT=>vB (s.extract i s.size) W (by rw[hsz.o];omega) (by rw[hsz.o];omega) hT);rw[jU cU s i (by omega) _ 1 _ (ai _)]at KQ;have KQ:=aa (KQ.o _ (HT.o _ (hI.o.up hB hm hsk.o).below));have hq2:=fun t e h=>jl cU s (i+1) ByteArray.empty (t:=t) (e:=e) h;generalize Fm.quoted cU s (i+1) ByteArray.empty=Q at HQ1 HQ2 KQ hq2;clear k1 k3 k4;unfold fq fy at KQ;cases Q with
        |none=>have HX:=aa (HQ2 rfl);clear HQ1 HQ2 hq2;go_wp2_with fail;refine KQ.o.mono ?_;rintro r0 w3⟨rfl,s3⟩;have S3:=aa (aZ hsk.o s3);have T3:Hid (w3.heap[wr.heap.size]?=some (fq ⟨i,ByteArray.empty,false,0,false,ByteArray.empty,false⟩)):=aa ((s3.block _ (aV htk.o)).trans htk.o);have T4:=aa ((fj ((fj T3.o).2.2.2.2.1 ⟨#[]⟩)).2.2.2.1 true);have S4:=aa (dP (dP S3.o 5 (.string ⟨#[]⟩)) 4 (.bool true));obtain⟨-,-,-,-,q4,q5,q6⟩:=eT T3.o;have qf:=oT T3.o;clear s3;unfold FT;go_wp2_with fail;go_meet;exact⟨_,0,rfl,rfl,by omega,aa (dP S4.o 6 _),aa ((fj T4.o).2.2.2.2.2 _),HX⟩
        |some p=>obtain⟨tx,e⟩:=p;obtain⟨he,HX⟩:=HQ1 tx e rfl;have hq3:=hq2 tx e rfl;obtain⟨n,rfl⟩:∃n,e=i+n:=⟨e-i,by omega⟩;rw[Nat.add_sub_cancel_left]at HX;have HX:=aa HX;have KQ:Hid (Calls prog 88 _ _ fun E w'=>E=.returned (.tuple #[.int .i64 ((i+n-i:Nat):Int),.string tx])∧_):=KQ;rw[Nat.add_sub_cancel_left]at KQ;have c5:((n:Int)==0)=false:=ae (by omega);clear HQ1 HQ2 hq2;go_wp2_with fail;refine KQ.o.mono ?_;rintro r0 w3⟨rfl,s3⟩;have S3:=aa (aZ hsk.o s3);have T3:Hid (w3.heap[wr.heap.size]?=some (fq ⟨i,ByteArray.empty,false,0,false,ByteArray.empty,false⟩)):=aa ((s3.block _ (aV htk.o)).trans htk.o);have T4:=aa ((fj ((fj T3.o).2.2.2.2.1 tx)).2.2.2.1 true);have S4:=aa (dP (dP S3.o 5 (.string tx)) 4 (.bool true));obtain⟨-,-,-,-,q4,q5,q6⟩:=eT T3.o;have qf:=oT T3.o;clear s3;exact Cb
       ·
        have c3:(((s[i].toNat:Nat):Int)==34)=false:=ae (by omega);have HS:=aa (FV h1 k1 k3 k4);have KP:=aa (fun x W=>xV (s.extract i s.size) x W);have hpx:=aa (fun x=>Ab s i (by omega) x);have key:(¬(97:Int)≤(s[i].toNat:Int)∧¬(48:Int)≤(s[i].toNat:Int))∨(¬(97:Int)≤(s[i].toNat:Int)∧(48:Int)≤(s[i].toNat:Int)∧¬(s[i].toNat:Int)≤57)∨((97:Int)≤(s[i].toNat:Int)∧¬(s[i].toNat:Int)≤122∧(48:Int)≤(s[i].toNat:Int)∧¬(s[i].toNat:Int)≤57):=by omega
        clear k1 k3 k4;obtain⟨wo,hwo⟩:∃wo,wo=wr:=⟨_,rfl⟩;subst hwo;have B2:=aa (aq (wo.alloc (fq ⟨i,ByteArray.empty,false,0,false,ByteArray.empty,false⟩)) (.cells (eV.map Value.string).toArray 9));have B1:Hid (((wo.alloc (fq ⟨i,ByteArray.empty,false,0,false,ByteArray.empty,false⟩)).alloc (.cells (eV.map Value.string).toArray 9)).heap[wo.heap.size]?=some (fq ⟨i,ByteArray.empty,false,0,false,ByteArray.empty,false⟩)):=aa ((aj _ _ _ (aV htk.o)).trans htk.o);have S1:Hid (wo.Since wo.heap.size ((wo.alloc (fq ⟨i,ByteArray.empty,false,0,false,ByteArray.empty,false⟩)).alloc (.cells (eV.map Value.string).toArray 9))):=aa (hsk.o.alloc hsk.o.size _);rw[World.size_alloc]at B2;have N1:Hid (lZ s i 0 0 ByteArray.empty):=aa (.inl ⟨rfl,rfl,rfl⟩);rcases key with⟨p1,p2⟩|⟨p1,p2,p3⟩|⟨p1,p2,p3,p4⟩;all_goals
         go_wp2_with fail;go_loopg[5,22]14(fun gg o5 o22 wr=>∃(j n:Nat)(word:BA),gg=14-j∧j≤14∧o22=.int .i64 (j:Nat)∧o5=.int .i64 (n:Nat)∧Hid (lZ s i j n word)∧Hid (wo.Since wo.heap.size wr)∧Hid (wr.heap[wo.heap.size]?=some (fq ⟨i,word,false,0,false,ByteArray.empty,false⟩))∧Hid (wr.heap[wo.heap.size+1]?=some (.cells (eV.map Value.string).toArray 9)));case atStart=>exact⟨0,0,ByteArray.empty,rfl,by omega,rfl,rfl,N1,S1,B1,B2⟩
         case round=>
          obtain⟨j,n,word,rfl,hj,rfl,rfl,hN,hS2,hB1,hB2⟩:=hrel;have ctx:wr.cell? ⟨tb,0,none⟩=some (.string s):=(hS2.o.cell (a:=⟨tb,0,none⟩) htl).trans ct;by_cases q1:j<14;·
           have r1:(j:Int)<14:=by omega
           obtain⟨x,hx⟩:∃x,eV[j]?=some x:=⟨eV[j]'q1,aD q1⟩;have cx:=DA hB2.o j x hx;have HX:=aa hx;have zj:IntKind.i64.wrap ((j:Int)+1)=(j:Int)+1:=ax _ (by omega);obtain⟨-,q1',-,-,-,-,-⟩:=eT hB1.o;have qf:=oT hB1.o 1;have KX:=aa (KP.o x wr);rw[hpx.o x]at KX;clear hx;by_cases q2:n=0;·
            subst q2;cases hsx:iN s i x with
            |true=>
             rw[hsx]at KX;have N2:=aa (hN.o.found HX.o hsx);clear hsx;go_wp2_with fail;refine KX.o.mono ?_;rintro r0 w3⟨rfl,rfl⟩;go_wp2_with fail;go_roundg(14-(j+1));case measure=>omega
             case rel=>exact⟨j+1,x.size,x,rfl,by omega,by simp,rfl,N2,aa (dP hS2.o _ _),aa ((fj hB1.o).1 x),aa ((ak _ _ _ _ (by simp)).trans hB2.o)⟩
            |false=>
             rw[hsx]at KX;have N2:=aa (hN.o.not HX.o hsx);clear hsx;go_wp2_with fail;refine KX.o.mono ?_;rintro r0 w3⟨rfl,rfl⟩;go_wp2_with fail;go_roundg(14-(j+1));case measure=>omega
             case rel=>exact⟨j+1,0,word,rfl,by omega,by simp,rfl,N2,hS2,hB1,hB2⟩
           ·
            have r2:((n:Int)==0)=false:=ae (by omega);have N2:=aa (hN.o.kept HX.o q2);clear q2;go_wp2_with fail;go_roundg(14-(j+1));case measure=>omega
            case rel=>exact⟨j+1,n,word,rfl,by omega,by simp,rfl,N2,hS2,hB1,hB2⟩
          ·
           have r1:¬(j:Int)<14:=by omega
           obtain rfl:j=14:=by omega
           have HX:=aa (hN.o.tok h1 HS.o);have hn2:=hN.o.small;obtain⟨-,-,-,-,-,-,q6⟩:=eT hB1.o;have qf:=oT hB1.o 6;obtain⟨bz,hbz⟩:∃bz,decide (n=0)=bz:=⟨_,rfl⟩;rw[hbz]at HX;have r3:((n:Int)==0)=bz:=by rw[←hbz];by_cases h:n=0<;>simp[h]
           clear hbz;go_wp2_with fail;go_meet;exact⟨_,n,rfl,rfl,by omega,aa (dP hS2.o 6 _),aa ((fj hB1.o).2.2.2.2.2 _),HX⟩
    case rest=>
     obtain⟨x,n,rfl,rfl,hn,hS,hB4,hX⟩:=hcut;have I2:=aa (hI.o.up hB hm hS.o);have J2:=aa (HJ.o _ _ _ none hJ.o (ya hS.o) (fun r e=>by cases e));obtain⟨d0,d1,d2,d3,d4,d5,d6⟩:=eT hB4.o;obtain⟨fn,tmps,assign,body,hy,hR⟩:=HY.o _ x wc J2.o (by rw[List.length_map];have:=I2.o.few;omega);have hR:=aa hR;unfold fy at hy;have hpt:Hid (gM B wc≠some wr.heap.size):=aa (by
      rw[FZ (by have:=aV hI.o.box;omega) hS.o];rcases hI.o.ptr with e|⟨k,e,_,h2⟩;·rw[e];exact fun h=>by cases h
      ·rw[e];exact fun h=>by injection h;omega);go_upto_region 27 with fail;refine(wpIn_wide (n:=nn+1)).1 ?_;cases hbad:x.bad with
     |false=>
      rw[hbad]at d6 hy;obtain⟨wd,hw1,hw2⟩:=hX.o.2.1 hbad;have hgt:=gZ _ _ _ _ h1 hw1;have Hw1:=aa hw1;have Hw2:=aa hw2;clear hw1 hw2;have z7:IntKind.i64.wrap ((i:Int)+(n:Int))=(i:Int)+(n:Int):=ax _ (by omega);have hWN:Hid (a_ cU lang.kept s 0=(a_ cU lang.kept s (i+n)).map ((l0++[wd])++·)):=aa (by rw[hI.o.words,il h1 hc Hw1.o];exact map_map _ l0 [wd]);gi_wp2;refine hR.o.mono ?_;rintro e W3(⟨rfl,hJ3,hk3⟩|⟨rfl,hJx3⟩);·
       have e6:W3.cell? ⟨wr.heap.size,6,none⟩=some (.bool false):=by exact LH
       have J3:Hid (J ((l0++[wd]).map fX) W3):=aa (by rw[List.map_append,List.map_singleton,←Hw2.o];exact hJ3);have I3:Hid (mV s m0 tb B W W3 (i+n) (l0++[wd])):=aa (I2.o.next hk3 hWN.o (by rw[List.length_append];have:=I2.o.few;simp;omega));clear hk3;gi_wp2;go_wp2_with fail;go_roundg(s.size-(i+n));case measure=>omega
       case rel=>exact⟨i+n,l0++[wd],rfl,by omega,by simp,I3,J3⟩
      ·have HP:Hid (Ca s (l0.map fX++[x])):=aa (fun y hy hb=>by rw[List.getLast?_concat]at hy;injection hy with hy;rw[←hy,hbad]at hb;cases hb);exact LI
     |true=>
      rw[hbad]at d6 hy;have hw1:=hX.o.2.2 hbad;have hWE:Hid (a_ cU lang.kept s 0=.error x.place):=aa (by rw[hI.o.words,jb h1 hc hw1,hX.o.1];rfl);clear hw1;gi_wp2;refine hR.o.mono ?_;rintro e W3(⟨rfl,hJ3,hk3⟩|⟨rfl,hJx3⟩);·
       have e6:W3.cell? ⟨wr.heap.size,6,none⟩=some (.bool true):=by exact LH
       have HA:Hid (Iu s (l0.map fX++[x])):=aa (fun hall=>by have:=hall x (by simp);rw[hbad]at this;cases this);clear hk3;gi_wp2;go_wp2_with fail;refine au (results_none rfl _ _ _) rfl ?_;exact⟨⟨_,rfl⟩,.inl ⟨_,HA.o,hJ3⟩⟩
      ·have HP:Hid (Ca s (l0.map fX++[x])):=aa (fun y hy _=>by rw[List.getLast?_concat]at hy;injection hy with hy;rw[←hy];exact hWE.o);exact LI
  ·
   have i1:¬(i:Int)<(s.size:Int):=by omega
   have HL:Hid (Iu s (l0.map fX)):=aa (fun _=>⟨l0,hI.o.last h1,rfl⟩);go_wp2_with fail;go_end0;exact⟨⟨_,rfl⟩,.inl ⟨_,HL.o,hJ.o⟩⟩
