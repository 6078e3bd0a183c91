/- The words of a text one by one: what a word's reader finds, plain. -/
import Derived.Test.YthbdlnflmfchjaaGreatDoorUI
import Derived.Test.YthbdlnflmfchjaaGreatDoorWO
import Derived.Test.YthbdlnflmfchjaaGreatDoorZ7
import Derived.RangeFuncNested
import Derived.RangeFuncBound
import Derived.RangeFuncCalls
import Derived.RangeFuncLeaves
import Derived.RangeFuncFrom
import Derived.Shelf.Abstract
import Derived.Shelf.RegionOpen
import Derived.WalkKit
import Derived.OwnWalkIn
import Derived.TacticsInMore
import Derived.LoopNIn
import Derived.LoopIn
import Derived.Deep.CutBlock
import Derived.Deep.CutRange
set_option linter.unusedVariables false
set_option linter.unusedSimpArgs false
namespace Go.Proofs.YthbdlnflmfchjaaGreatDoor
open Go.RowKit Go.Proofs.Fm Go.Proofs.MapEnt
theorem row_shift (s:ByteArray) (lo hi i:Nat) (hi':i≤s.size):∀ (k j:Nat),s.size - (i+j)=k→rowEnd (s.extract i s.size) lo hi j=rowEnd s lo hi (i+j) - i
 | 0,j,hk=>by
  have hsz:=size_part s i s.size (Nat.le_refl _)
  rw [rowEnd_end (by rw [hsz];omega),rowEnd_end (by omega)]
  omega
 | k+1,j,hk=>by
  have hsz:=size_part s i s.size (Nat.le_refl _)
  have hb:=byteAt_part s i s.size j (Nat.le_refl _) (by omega)
  by_cases h:lo≤byteAt s (i+j)∧byteAt s (i+j)≤hi
  ·
   rw [rowEnd_go ⟨by omega,by rw [hb];exact h⟩,rowEnd_go (n:=i+j) ⟨by omega,h⟩,row_shift s lo hi i hi' k (j+1) (by omega)]
   rfl
  ·
   rw [rowEnd_end (fun hh=>h (by rw [← hb];exact hh.2)),rowEnd_end (fun hh=>h hh.2)]
   omega
theorem quoted_shift (ok:ByteArray→Bool) (s:ByteArray) (i:Nat) (hi:i≤s.size):∀ (k j:Nat) (acc:ByteArray),s.size - (i+j)≤k→Fm.quoted ok (s.extract i s.size) j acc=(Fm.quoted ok s (i+j) acc).map fun p=>(p.1,p.2 - i)
 | k,j,acc,hk=>by
  have hsz:=size_part s i s.size (Nat.le_refl _)
  rw [Fm.quoted]
  conv=>rhs;rw [Fm.quoted]
  by_cases h:i+j < s.size
  ·
   have h':j < (s.extract i s.size).size:=by omega
   have hb:=byteAt_part s i s.size j (Nat.le_refl _) h
   have hg:(s.extract i s.size)[j]=s[i+j]:=ByteArray.getElem_extract h'
   rw [dif_pos h,dif_pos h',hb]
   by_cases c1:byteAt s (i+j)=34
   ·
    rw [if_pos c1,if_pos c1]
    by_cases c2:ok acc=true
    ·
     rw [if_pos c2,if_pos c2]
     show some (acc,j+1)=some (acc,i+j+1 - i)
     rw [show i+j+1 - i=j+1 by omega]
    ·
     rw [if_neg c2,if_neg c2];rfl
   ·
    rw [if_neg c1,if_neg c1]
    by_cases c3:byteAt s (i+j)=92
    ·
     rw [if_pos c3,if_pos c3]
     by_cases h2:i+j+1 < s.size
     ·
      have h2':j+1 < (s.extract i s.size).size:=by omega
      have hb2:=byteAt_part s i s.size (j+1) (Nat.le_refl _) (by omega)
      have hg2:(s.extract i s.size)[j+1]=s[i+j+1]:=ByteArray.getElem_extract h2'
      rw [dif_pos h2,dif_pos h2',hb2,show i+(j+1)=i+j+1 by omega]
      by_cases c4:byteAt s (i+j+1)=34 ∨ byteAt s (i+j+1)=92
      ·
       rw [if_pos c4,if_pos c4,hg2]
       cases k with
       | zero=>omega
       | succ k=>rw [quoted_shift ok s i hi k (j+2) _ (by omega)];rfl
      ·
       rw [if_neg c4,if_neg c4];rfl
     ·
      have h2':¬ j+1 < (s.extract i s.size).size:=by omega
      rw [dif_neg h2,dif_neg h2'];rfl
    ·
     rw [if_neg c3,if_neg c3,hg]
     cases k with
     | zero=>omega
     | succ k=>rw [quoted_shift ok s i hi k (j+1) _ (by omega)];rfl
  ·
   rw [dif_neg h,dif_neg (by omega)];rfl
theorem prefix_sgn (s:ByteArray) (i:Nat) (hi:i≤s.size) (x:ByteArray):Lib.hasPrefix (s.extract i s.size).data.toList x.data.toList=sgn s i x:=by
 rw [← Lib.hasPrefix_raw,size_part s i s.size (Nat.le_refl _),bytes_beq]
 unfold sgn
 by_cases h:i+x.size≤s.size
 ·
  have e:(s.extract i s.size).extract 0 x.size=s.extract i (i+x.size):=by
   apply ByteArray.ext
   rw [ByteArray.data_extract,ByteArray.data_extract,ByteArray.data_extract,Array.extract_extract]
   congr 1
   have:s.data.size=s.size:=rfl
   omega
  rw [e,decide_eq_true h,decide_eq_true (show x.size≤s.size - i by omega)]
 ·
  rw [decide_eq_false h,decide_eq_false (show ¬ x.size≤s.size - i by omega)];rfl
structure Tok where
 place:Nat
 word:ByteArray
 isN:Bool
 num:Nat
 isX:Bool
 text:ByteArray
 bad:Bool
def tokOf (x:Wd):Tok:=⟨x.place,wS x,wNum x,wN x,wStr x,wT x,false⟩
def tokC (x:Tok):Array Value:=#[.int .i64 (x.place:Nat),.string x.word,.bool x.isN,.int .i64 (x.num:Nat),.bool x.isX,.string x.text,.bool x.bad]
def TokAt (s:ByteArray) (i:Nat) (x:Tok) (n:Nat):Prop:=
 x.place=i∧(x.bad=false→∃ wd,wordAt isT lang.kept s i=some (wd,i+n)∧x=tokOf wd)∧(x.bad=true→wordAt isT lang.kept s i=none)
theorem tok_letters {s:ByteArray} {i e:Nat} (hi:i < s.size) (hc:97≤s[i].toNat∧s[i].toNat≤122) (he:rowEnd s 97 122 i=e):TokAt s i ⟨i,s.extract i e,false,0,false,ByteArray.empty,decide (12 < e - i) && !lang.kept (s.extract i e)⟩ (e - i):=by
 have hge:i≤e:=by rw [← he];exact rowEnd_ge _ _ _ _
 have hw:wordAt isT lang.kept s i=if 12 < e - i∧lang.kept (s.extract i e)=false then none else some (⟨.letters,s.extract i e,i⟩,e):=by
  unfold wordAt
  simp only
  rw [byteAt_lt hi,if_pos hc,he]
 refine ⟨rfl,fun h=>?_,fun h=>?_⟩
 ·
  have h:(decide (12 < e - i) && !lang.kept (s.extract i e))=false:=h
  rw [if_neg (fun hh=>by rw [decide_eq_true hh.1,hh.2] at h;cases h)] at hw
  exact ⟨_,by rw [hw,show i+(e - i)=e by omega],by unfold tokOf;rw [h];rfl⟩
 ·
  have h:(decide (12 < e - i) && !lang.kept (s.extract i e))=true:=h
  rw [Bool.and_eq_true,decide_eq_true_eq,Bool.not_eq_true'] at h
  rw [hw,if_pos h]
theorem tok_digits {s:ByteArray} {i e v:Nat} (hi:i < s.size) (hc:48≤s[i].toNat∧s[i].toNat≤57) (he:rowEnd s 48 57 i=e) (b:Bool) (hb:b=decide (1000000 < digitsV s i e 0 ∨ (1 < e - i∧s[i].toNat=48))) (hv:b=false→v=digitsV s i e 0):
  TokAt s i ⟨i,ByteArray.empty,true,v,false,ByteArray.empty,b⟩ (e - i):=by
 have hge:i≤e:=by rw [← he];exact rowEnd_ge _ _ _ _
 have hle:e≤s.size:=by rw [← he];exact rowEnd_le _ _ _ _ (by omega)
 have hw:wordAt isT lang.kept s i=if 1000000 < digitsV s i e 0 ∨ 1 < e - i∧s[i].toNat=48 then none else some (⟨.number,s.extract i e,i⟩,e):=by
  unfold wordAt
  simp only
  rw [byteAt_lt hi,if_neg (by omega),if_pos hc,he]
 refine ⟨rfl,fun h=>?_,fun h=>?_⟩
 ·
  have h:b=false:=h
  have hv:=hv h
  rw [hb,decide_eq_false_iff_not] at h
  rw [if_neg h] at hw
  refine ⟨_,by rw [hw,show i+(e - i)=e by omega],?_⟩
  unfold tokOf
  have e1:wN ⟨.number,s.extract i e,i⟩=v:=by
   show digitsV (s.extract i e) 0 (s.extract i e).size 0=v
   rw [size_part s i e hle,digitsV_part s i e hle _ 0 0 rfl,hv]
   rfl
  rw [e1,hb,decide_eq_false h]
  rfl
 ·
  have h:b=true:=h
  rw [hb,decide_eq_true_eq] at h
  rw [hw,if_pos h]
theorem tokAt_bad {s:ByteArray} {i n:Nat} {x:Tok} (hx:x.place=i) (hb:x.bad=true) (h:wordAt isT lang.kept s i=none):TokAt s i x n:=⟨hx,fun h2=>(by rw [hb] at h2;cases h2),fun _=>h⟩
theorem tokAt_good {s:ByteArray} {i n:Nat} {x:Tok} (hx:x.place=i) (hb:x.bad=false) (wd:Wd) (h:wordAt isT lang.kept s i=some (wd,i+n)) (e:x=tokOf wd):TokAt s i x n:=⟨hx,fun _=>⟨wd,h,e⟩,fun h2=>by rw [hb] at h2;cases h2⟩
theorem tok_quoted {s:ByteArray} {i:Nat} (hi:i < s.size) (hc:s[i].toNat=34):(∀ t e,Fm.quoted isT s (i+1) ByteArray.empty=some (t,e)→i < e∧TokAt s i ⟨i,ByteArray.empty,false,0,true,t,false⟩ (e - i))∧(Fm.quoted isT s (i+1) ByteArray.empty=none→TokAt s i ⟨i,ByteArray.empty,false,0,true,ByteArray.empty,true⟩ 0):=by
 refine ⟨fun t e h=>?_,fun h=>?_⟩
 ·
  have hg:=quoted_gt isT s (i+1) _ h
  have hw:wordAt isT lang.kept s i=some (⟨.string,t,i⟩,e):=by
   unfold wordAt
   simp only
   rw [byteAt_lt hi,if_neg (by omega),if_neg (by omega),if_pos hc,h]
  exact ⟨by omega,tokAt_good rfl rfl _ (by rw [hw,show i+(e - i)=e by omega]) rfl⟩
 ·
  have hw:wordAt isT lang.kept s i=none:=by
   unfold wordAt
   simp only
   rw [byteAt_lt hi,if_neg (by omega),if_neg (by omega),if_pos hc,h]
  exact tokAt_bad rfl rfl hw
theorem tok_sign {s:ByteArray} {i:Nat} (hi:i < s.size) (h1:¬ (97≤s[i].toNat∧s[i].toNat≤122)) (h2:¬ (48≤s[i].toNat∧s[i].toNat≤57)) (h3:¬ s[i].toNat=34):
  (∀ x,signL.find? (sgn s i)=some x→0 < x.size∧TokAt s i ⟨i,x,false,0,false,ByteArray.empty,false⟩ x.size)∧(signL.find? (sgn s i)=none→TokAt s i ⟨i,ByteArray.empty,false,0,false,ByteArray.empty,true⟩ 0):=by
 have hw:wordAt isT lang.kept s i=if signAt s i=0 then none else some (⟨.sign,s.extract i (i+signAt s i),i⟩,i+signAt s i):=by
  unfold wordAt
  simp only
  rw [byteAt_lt hi,if_neg h1,if_neg h2,if_neg h3]
 rcases sign_find s i hi with ⟨x,e1,e2,e3,e4⟩ | ⟨e1,e2⟩
 ·
  rw [e1]
  refine ⟨fun y hy=>?_,fun h=>by cases h⟩
  injection hy with hy
  subst hy
  rw [if_neg (by omega),e3,e2] at hw
  exact ⟨e4,tokAt_good rfl rfl _ hw rfl⟩
 ·
  rw [e1]
  refine ⟨fun y hy=>(by cases hy),fun _=>?_⟩
  rw [if_pos e2] at hw
  exact tokAt_bad rfl rfl hw
end Go.Proofs.YthbdlnflmfchjaaGreatDoor
namespace Go.Proofs.YthbdlnflmfchjaaGreatDoor
open Go.RowKit Go.Proofs.Fm Go.Proofs.MapEnt
set_option maxHeartbeats 6400000
set_option maxRecDepth 1000000
def ptrB (B:Nat) (W:World):Option Nat:=(W.cell? ⟨B,0,none⟩).bind Value.ownBlock
structure KpT (m0 tb B:Nat) (W W':World):Prop where
 below:Below m0 W W'
 keep:∀ k cs t fr,tb≤k→W.heap[k]?=some (.cells cs t fr)→ptrB B W ≠ some k→W'.heap[k]?=some (.cells cs t fr)
 ptr:ptrB B W'=ptrB B W ∨ ∃ k,ptrB B W'=some k∧W.heap.size≤k∧k < W'.heap.size
def SAll (s:ByteArray) (xs:List Tok):Prop:=(∀ x ∈ xs,x.bad=false)→∃ l,wordsFrom isT lang.kept s 0=.ok l∧xs=l.map tokOf
def SPart (s:ByteArray) (pre:List Tok):Prop:=∀ x,pre.getLast?=some x→x.bad=true→wordsFrom isT lang.kept s 0=.error x.place
def tokB (x:Tok):Obj:=.cells (tokC x) 100
structure ScIn (s:ByteArray) (m0 tb B:Nat) (W wr:World) (i:Nat) (l0:List Wd):Prop where
 words:wordsFrom isT lang.kept s 0=(wordsFrom isT lang.kept s i).map (l0 ++ ·)
 below:Below m0 W wr
 box:wr.heap[tb]?=some (.cells #[.string s] 9)
 ptr:ptrB B wr=none ∨ ∃ k,ptrB B wr=some k∧tb < k∧k < wr.heap.size
 size:W.heap.size≤wr.heap.size
 few:l0.length≤i
theorem cell_one {W:World} {b t:Nat} {v:Value} (h:W.heap[b]?=some (.cells #[v] t)):W.cell? ⟨b,0,none⟩=some v:=by
 unfold World.cell?
 show (match W.heap[b]? with
  | some (.cells c _ _)=>_
  | _=>_)=_
 rw [h]
 rfl
theorem tok_cells {W:World} {b:Nat} {x:Tok} (h:W.heap[b]?=some (tokB x)):W.cell? ⟨b,0,none⟩=some (.int .i64 (x.place:Nat))∧W.cell? ⟨b,1,none⟩=some (.string x.word)∧W.cell? ⟨b,2,none⟩=some (.bool x.isN)∧W.cell? ⟨b,3,none⟩=some (.int .i64 (x.num:Nat))∧W.cell? ⟨b,4,none⟩=some (.bool x.isX)∧W.cell? ⟨b,5,none⟩=some (.string x.text)∧W.cell? ⟨b,6,none⟩=some (.bool x.bad):=by
 have key:∀ j v,(tokC x)[j]?=some v→W.cell? ⟨b,j,none⟩=some v:=fun j v hv=>by
  unfold World.cell?
  show (match W.heap[b]? with
   | some (.cells c _ _)=>_
   | _=>_)=_
  rw [h]
  exact hv
 exact ⟨key 0 _ rfl,key 1 _ rfl,key 2 _ rfl,key 3 _ rfl,key 4 _ rfl,key 5 _ rfl,key 6 _ rfl⟩
theorem tok_fz {W:World} {b:Nat} {x:Tok} (h:W.heap[b]?=some (tokB x)) (j:Nat):W.frozen? ⟨b,j,none⟩=false:=by
 unfold tokB at h
 simp [World.frozen?,h]
theorem tok_set {W:World} {b:Nat} {x:Tok} (h:W.heap[b]?=some (tokB x)):
  (∀ v,(W.setCell ⟨b,1,none⟩ (.string v)).heap[b]?=some (tokB { x with word:=v }))∧(∀ v,(W.setCell ⟨b,2,none⟩ (.bool v)).heap[b]?=some (tokB { x with isN:=v }))∧(∀ v:Nat,(W.setCell ⟨b,3,none⟩ (.int .i64 (v:Nat))).heap[b]?=some (tokB { x with num:=v }))∧
   (∀ v,(W.setCell ⟨b,4,none⟩ (.bool v)).heap[b]?=some (tokB { x with isX:=v }))∧(∀ v,(W.setCell ⟨b,5,none⟩ (.string v)).heap[b]?=some (tokB { x with text:=v }))∧(∀ v,(W.setCell ⟨b,6,none⟩ (.bool v)).heap[b]?=some (tokB { x with bad:=v })):=by
 refine ⟨fun v=>?_,fun v=>?_,fun v=>?_,fun v=>?_,fun v=>?_,fun v=>?_⟩ <;> simp [World.setCell,Array.getElem?_modify,h,tokB,tokC]
theorem since_set {w W:World} (h:w.Since w.heap.size W) (j:Nat) (v:Value):w.Since w.heap.size (W.setCell ⟨w.heap.size,j,none⟩ v):=
 ⟨h.os,h.tape,h.output,by simp;exact h.size,fun k hk=>(Go.Deep.blk_setCell_other _ _ _ _ (by intro e;dsimp only at e;omega)).trans (h.block k hk)⟩
def signP:List ByteArray:=[⟨#[61,61]⟩,⟨#[33,61]⟩,⟨#[60,61]⟩,⟨#[62,61]⟩,⟨#[60]⟩,⟨#[62]⟩,⟨#[126]⟩,⟨#[43]⟩,⟨#[45]⟩,⟨#[42]⟩,⟨#[40]⟩,⟨#[41]⟩,⟨#[44]⟩,⟨#[58]⟩]
theorem find_same (s:ByteArray) (i:Nat) (hi:i < s.size):signP.find? (sgn s i)=signL.find? (sgn s i):=by
 unfold signP signL
 simp only [List.find?_cons,List.find?_nil,sgn_one,sgn_two]
 have hp:decide (i < s.size)=true:=decide_eq_true hi
 rw [hp]
 simp only [Bool.true_and]
 have u33:UInt8.toNat 33=33:=rfl
 have u40:UInt8.toNat 40=40:=rfl
 have u41:UInt8.toNat 41=41:=rfl
 have u42:UInt8.toNat 42=42:=rfl
 have u43:UInt8.toNat 43=43:=rfl
 have u44:UInt8.toNat 44=44:=rfl
 have u45:UInt8.toNat 45=45:=rfl
 have u58:UInt8.toNat 58=58:=rfl
 have u60:UInt8.toNat 60=60:=rfl
 have u61:UInt8.toNat 61=61:=rfl
 have u62:UInt8.toNat 62=62:=rfl
 have u126:UInt8.toNat 126=126:=rfl
 simp only [u33,u40,u41,u42,u43,u44,u45,u58,u60,u61,u62,u126]
 generalize byteAt s i=a
 generalize byteAt s (i+1)=b
 by_cases h40:a=40
 ·
  subst h40;simp
 by_cases h41:a=41
 ·
  subst h41;simp
 by_cases h44:a=44
 ·
  subst h44;simp
 by_cases h58:a=58
 ·
  subst h58;simp
 simp [h40,h41,h44,h58]
theorem sign_cell {W:World} {b:Nat} (h:W.heap[b]?=some (.cells (signP.map Value.string).toArray 9)) (j:Nat) (x:ByteArray) (hj:signP[j]?=some x):W.cell? ⟨b,j,none⟩=some (.string x):=by
 unfold World.cell?
 show (match W.heap[b]? with
  | some (.cells c _ _)=>_
  | _=>_)=_
 rw [h]
 show (signP.map Value.string).toArray[j]?=_
 rw [List.getElem?_toArray,List.getElem?_map,hj]
 rfl
def SgIs (s:ByteArray) (i j n:Nat) (word:ByteArray):Prop:=(n=0∧word=ByteArray.empty∧(signP.take j).find? (sgn s i)=none) ∨ ∃ x,(signP.take j).find? (sgn s i)=some x∧n=x.size∧word=x
theorem sg_take {s:ByteArray} {i j:Nat} {x:ByteArray} (hj:signP[j]?=some x):(signP.take (j+1)).find? (sgn s i)=((signP.take j).find? (sgn s i)).or (if sgn s i x=true then some x else none):=by
 obtain ⟨h1,h2⟩:=List.getElem?_eq_some_iff.1 hj
 rw [List.take_succ_eq_append_getElem h1,List.find?_append,h2,List.find?_cons]
 cases sgn s i x <;> rfl
theorem sign_pos:∀ x ∈ signP,0 < x.size∧x.size≤2:=by decide
theorem SgIs.found {s:ByteArray} {i j:Nat} {x w0:ByteArray} (h:SgIs s i j 0 w0) (hj:signP[j]?=some x) (hx:sgn s i x=true):SgIs s i (j+1) x.size x:=by
 rcases h with ⟨_,_,h⟩ | ⟨y,h,e,_⟩
 ·
  exact .inr ⟨x,by rw [sg_take hj,h,hx];rfl,rfl,rfl⟩
 ·
  have:=(sign_pos y (List.mem_of_mem_take (List.mem_of_find?_eq_some h))).1
  omega
theorem SgIs.not {s:ByteArray} {i j:Nat} {x w0:ByteArray} (h:SgIs s i j 0 w0) (hj:signP[j]?=some x) (hx:sgn s i x=false):SgIs s i (j+1) 0 w0:=by
 rcases h with ⟨_,e,h⟩ | ⟨y,h,e,_⟩
 ·
  exact .inl ⟨rfl,e,by rw [sg_take hj,h,hx];rfl⟩
 ·
  have:=(sign_pos y (List.mem_of_mem_take (List.mem_of_find?_eq_some h))).1
  omega
theorem SgIs.kept {s:ByteArray} {i j n:Nat} {x w0:ByteArray} (h:SgIs s i j n w0) (hj:signP[j]?=some x) (hn:n ≠ 0):SgIs s i (j+1) n w0:=by
 rcases h with ⟨e,_⟩ | ⟨y,h,e1,e2⟩
 ·
  exact absurd e hn
 ·
  exact .inr ⟨y,by rw [sg_take hj,h];rfl,e1,e2⟩
theorem SgIs.small {s:ByteArray} {i j n:Nat} {w0:ByteArray} (h:SgIs s i j n w0):n≤2:=by
 rcases h with ⟨e,_⟩ | ⟨y,h,e1,e2⟩
 ·
  omega
 ·
  have:=(sign_pos y (List.mem_of_mem_take (List.mem_of_find?_eq_some h))).2
  omega
theorem SgIs.tok {s:ByteArray} {i n:Nat} {w0:ByteArray} (h:SgIs s i 14 n w0) (hi:i < s.size) (HS:(∀ x,signL.find? (sgn s i)=some x→0 < x.size∧TokAt s i ⟨i,x,false,0,false,ByteArray.empty,false⟩ x.size)∧(signL.find? (sgn s i)=none→TokAt s i ⟨i,ByteArray.empty,false,0,false,ByteArray.empty,true⟩ 0)):TokAt s i ⟨i,w0,false,0,false,ByteArray.empty,decide (n=0)⟩ n:=by
 have e:signP.take 14=signP:=rfl
 unfold SgIs at h
 rw [e,find_same s i hi] at h
 rcases h with ⟨rfl,rfl,h⟩ | ⟨x,h,rfl,rfl⟩
 ·
  exact HS.2 h
 ·
  obtain ⟨h1,h2⟩:=HS.1 _ h
  rw [decide_eq_false (by omega)]
  exact h2
theorem grown_since {w w':World} (h:w.Since w.heap.size w'):w.grownBy w' none:=⟨h.os,h.tape,h.output,h.size,fun k hk _=>h.block k hk⟩
section
variable {s:ByteArray} {m0 tb B:Nat} {W wr w':World} {i:Nat} {l0:List Wd}
theorem ptr_up (hB:B < wr.heap.size) (hs:wr.Since wr.heap.size w'):ptrB B w'=ptrB B wr:=by
 unfold ptrB
 rw [hs.cell (a:=⟨B,0,none⟩) hB]
theorem ScIn.up (h:ScIn s m0 tb B W wr i l0) (hB:B < tb) (hm:m0≤tb) (hs:wr.Since wr.heap.size w'):ScIn s m0 tb B W w' i l0:=by
 have htl:=blk_lt h.box
 refine ⟨h.words,h.below.trans ⟨hs.os,hs.tape,hs.output,hs.size,fun k hk=>hs.block k (by omega)⟩,(hs.block tb htl).trans h.box,?_,Nat.le_trans h.size hs.size,h.few⟩
 rw [ptr_up (by omega) hs]
 rcases h.ptr with e | ⟨k,e,h1,h2⟩
 ·
  exact .inl e
 ·
  exact .inr ⟨k,e,h1,Nat.lt_of_lt_of_le h2 hs.size⟩
theorem ScIn.gap (h:ScIn s m0 tb B W wr i l0) (hi:i < s.size) (hc:s[i].toNat=32):ScIn s m0 tb B W wr (i+1) l0:=
 ⟨by rw [h.words,wordsFrom_gap hi hc],h.below,h.box,h.ptr,h.size,Nat.le_succ_of_le h.few⟩
theorem ScIn.next {j:Nat} {l1:List Wd} (h:ScIn s m0 tb B W wr i l0) (hk:KpT m0 tb B wr w') (hw:wordsFrom isT lang.kept s 0=(wordsFrom isT lang.kept s j).map (l1 ++ ·)) (hf:l1.length≤j):ScIn s m0 tb B W w' j l1:=by
 have htl:=blk_lt h.box
 refine ⟨hw,h.below.trans hk.below,hk.keep tb _ _ _ (Nat.le_refl _) h.box ?_,?_,Nat.le_trans h.size hk.below.size,hf⟩
 ·
  rcases h.ptr with e | ⟨k,e,h1,_⟩
  ·
   rw [e];exact fun h=>by cases h
  ·
   rw [e];exact fun h=>by injection h;omega
 ·
  rcases hk.ptr with e | ⟨k,e,h1,h2⟩
  ·
   rw [e]
   rcases h.ptr with e | ⟨k,e,h1,h2⟩
   ·
    exact .inl e
   ·
    exact .inr ⟨k,e,h1,Nat.lt_of_lt_of_le h2 hk.below.size⟩
  ·
   exact .inr ⟨k,e,by omega,h2⟩
theorem ScIn.last (h:ScIn s m0 tb B W wr i l0) (hi:¬ i < s.size):wordsFrom isT lang.kept s 0=.ok l0:=wordsFrom_last h.words hi
end
theorem scan1_says (s:ByteArray) (hs:s.size≤100000) (m0 tb B l nn:Nat) (J Jx:List Tok→World→Prop) (W:World) (hB:B < tb) (hm:m0≤tb)
  (hbt:W.heap[tb]?=some (.cells #[.string s] 9)) (hptr:ptrB B W=none) (hT:∀ wr,Below m0 W wr→Tabs wr) (hE:∀ wr,Below m0 W wr→ErrV wr)
  (hJ:AbidesFrom W.heap.size J)
  (hY:∀ pre x W1,J pre W1→pre.length < s.size→YieldAt Fence.wide nn Tryz.prog l #[.agg (tokC x)] W1 fun e W'=>
   (e=.returned (.bool true)∧J (pre ++ [x]) W'∧KpT m0 tb B W1 W') ∨ (e=.returned (.bool false)∧Jx (pre ++ [x]) W'))
  (h0:J [] W):
  Calls Tryz.prog 84 #[.func (.yield l) #[] #[],.pointer (some ⟨tb,0,none⟩)] W fun e W'=>(∃ v,e=.returned v)∧((∃ xs,SAll s xs∧J xs W') ∨ ∃ pre,SPart s pre∧Jx pre W'):=by
 have HJ:=Lib.hid hJ
 have HY:=Lib.hid hY
 have HT:=Lib.hid hT
 have HE:=Lib.hid hE
 have I0:Hid (ScIn s m0 tb B W W 0 []):=Lib.hid ⟨by cases wordsFrom isT lang.kept s 0 <;> rfl,Below.refl _ _,hbt,.inl hptr,Nat.le_refl _,Nat.le_refl _⟩
 have H0:Hid (J (([]:List Wd).map tokOf) W):=Lib.hid h0
 clear hJ hY hT hE hptr h0 hbt
 go_enter Tryz.func84,Tryz.ntmps84
 go_wp2_with fail
 go_loopg [3] s.size (fun gg o3 wr=>∃ (i:Nat) (l0:List Wd),gg=s.size - i∧i≤s.size∧o3=.int .i64 (i:Nat)∧Hid (ScIn s m0 tb B W wr i l0)∧Hid (J (l0.map tokOf) wr))
 case atStart=>exact ⟨0,[],rfl,Nat.zero_le _,rfl,I0,H0⟩
 case round=>
  obtain ⟨i,l0,rfl,hi,rfl,hI,hJ⟩:=hrel
  have ct:wr.cell? ⟨tb,0,none⟩=some (.string s):=cell_one hI.out.box
  by_cases h1:i < s.size
  ·
   have i1:(i:Int) < (s.size:Int):=by omega
   have htl:=blk_lt hI.out.box
   have ct2:∀ o,(wr.alloc o).cell? ⟨tb,0,none⟩=some (.string s):=fun o=>(World.cell?_alloc_lt wr o _ htl).trans ct
   have z5:IntKind.i64.wrap ((i:Int)+1)=(i:Int)+1:=IntWalk.i64_in _ (by omega)
   by_cases hc:s[i].toNat=32
   ·
    have b1:(((s[i].toNat:Nat):Int) == 32)=true:=beq_iff_eq.2 (by omega)
    have I2:Hid (ScIn s m0 tb B W (wr.alloc (tokB ⟨i,ByteArray.empty,false,0,false,ByteArray.empty,false⟩)) (i+1) l0):=Lib.hid ((hI.out.up hB hm ((World.Since.refl _ _).alloc (Nat.le_refl _) _)).gap h1 hc)
    have J2:Hid (J (l0.map tokOf) (wr.alloc (tokB ⟨i,ByteArray.empty,false,0,false,ByteArray.empty,false⟩))):=Lib.hid (HJ.out _ _ _ none hJ.out (World.grownBy_alloc _ _ none) (fun r e=>by cases e))
    clear hc
    go_wp2_with fail
    go_roundg (s.size - (i+1))
    case measure=>omega
    case rel=>exact ⟨i+1,l0,rfl,by omega,by simp,I2,J2⟩
   ·
    have b1:(((s[i].toNat:Nat):Int) == 32)=false:=beq_eq_false_iff_ne.2 (by omega)
    go_upto_block 2 with fail
    go_cut [3,5] from 11 to 139 (fun o3 o5 wx=>∃ (x:Tok) (n:Nat),o3=.int .i64 (i:Nat)∧o5=.int .i64 (n:Nat)∧n≤100000∧Hid (wr.Since wr.heap.size wx)∧Hid (wx.heap[wr.heap.size]?=some (tokB x))∧Hid (TokAt s i x n))
    case first=>
     have htk:=Lib.hid (heap_alloc_new wr (tokB ⟨i,ByteArray.empty,false,0,false,ByteArray.empty,false⟩))
     have hsk:Hid (wr.Since wr.heap.size (wr.alloc (tokB ⟨i,ByteArray.empty,false,0,false,ByteArray.empty,false⟩))):=Lib.hid ((World.Since.refl _ _).alloc (Nat.le_refl _) _)
     have hsz:=Lib.hid (size_part s i s.size (Nat.le_refl _))
     have f1:(i:Int)≤(s.size:Int):=by omega
     by_cases k1:97≤s[i].toNat∧s[i].toNat≤122
     ·
      have c1:(97:Int)≤(s[i].toNat:Int):=by omega
      have c2:(s[i].toNat:Int)≤122:=by omega
      obtain ⟨n,hn⟩:∃ n,rowEnd s 97 122 i=i+n:=⟨rowEnd s 97 122 i - i,by have:=rowEnd_ge s 97 122 i;omega⟩
      have hle:i+n≤s.size:=by rw [← hn];exact rowEnd_le _ _ _ _ (by omega)
      have KR:=Lib.hid (fun W=>row_says (s.extract i s.size) 97 122 W (by rw [hsz.out];omega))
      rw [row_shift s 97 122 i (by omega) _ 0 rfl,Nat.add_zero,hn,Nat.add_sub_cancel_left] at KR
      have hX:=Lib.hid (tok_letters h1 k1 hn)
      rw [Nat.add_sub_cancel_left] at hX
      have g1:((i:Int)+(n:Int))≤(s.size:Int):=by omega
      have g2:(i:Int)≤(i:Int)+(n:Int):=by omega
      have g3:((i:Int)+(n:Int)).toNat=i+n:=by omega
      have z7:IntKind.i64.wrap ((i:Int)+(n:Int))=(i:Int)+(n:Int):=IntWalk.i64_in _ (by omega)
      clear k1 hn
      by_cases k2:12 < n
      ·
       have c3:(12:Int) < (n:Int):=by omega
       rw [decide_eq_true k2,Bool.true_and] at hX
       have KK:=Lib.hid (fun W=>keyword_says W (s.extract i (i+n)) (by rw [size_part s i (i+n) hle];simp only [maxLen];omega))
       have s2:Hid (wr.Since wr.heap.size (wr.alloc (tokB ⟨i,s.extract i (i+n),false,0,false,ByteArray.empty,false⟩))):=Lib.hid ((World.Since.refl _ _).alloc (Nat.le_refl _) _)
       have t2:=Lib.hid (heap_alloc_new wr (tokB ⟨i,s.extract i (i+n),false,0,false,ByteArray.empty,false⟩))
       unfold tokB tokC at s2 t2
       go_wp2_with fail
       refine (KR.out _).mono ?_
       rintro r0 w2 ⟨rfl,rfl⟩
       go_wp2_with fail
       refine (KK.out _).mono ?_
       rintro r0 w3 ⟨rfl,s3⟩
       have S3:=Lib.hid (wr_since s2.out s3)
       have T3:Hid (w3.heap[wr.heap.size]?=some (tokB ⟨i,s.extract i (i+n),false,0,false,ByteArray.empty,false⟩)):=Lib.hid ((s3.block _ (blk_lt t2.out)).trans t2.out)
       obtain ⟨-,-,-,-,-,-,q6⟩:=tok_cells T3.out
       have qf:=tok_fz T3.out 6
       clear s3
       go_wp2_with fail
       go_meet
       exact ⟨_,n,rfl,rfl,by omega,Lib.hid (since_set S3.out _ _),Lib.hid ((tok_set T3.out).2.2.2.2.2 _),hX⟩
      ·
       have c3:¬ (12:Int) < (n:Int):=by omega
       rw [decide_eq_false k2,Bool.false_and] at hX
       go_wp2_with fail
       refine (KR.out _).mono ?_
       rintro r0 w2 ⟨rfl,rfl⟩
       go_wp2_with fail
       go_meet
       exact ⟨_,n,rfl,rfl,by omega,Lib.hid ((World.Since.refl _ _).alloc (Nat.le_refl _) _),Lib.hid (heap_alloc_new wr _),hX⟩
     ·
      by_cases k3:48≤s[i].toNat∧s[i].toNat≤57
      ·
       have c1:¬ (97:Int)≤(s[i].toNat:Int):=by omega
       have c2:(48:Int)≤(s[i].toNat:Int):=by omega
       have c3:(s[i].toNat:Int)≤57:=by omega
       obtain ⟨n,hn⟩:∃ n,rowEnd s 48 57 i=i+n:=⟨rowEnd s 48 57 i - i,by have:=rowEnd_ge s 48 57 i;omega⟩
       have hle:i+n≤s.size:=by rw [← hn];exact rowEnd_le _ _ _ _ (by omega)
       have hn0:0 < n:=by
        have h:=rowEnd_go (s:=s) (lo:=48) (hi:=57) (n:=i) ⟨h1,by rw [byteAt_lt h1];exact k3⟩
        have:=rowEnd_ge s 48 57 (i+1)
        omega
       have KR:=Lib.hid (fun W=>row_says (s.extract i s.size) 48 57 W (by rw [hsz.out];omega))
       rw [row_shift s 48 57 i (by omega) _ 0 rfl,Nat.add_zero,hn,Nat.add_sub_cancel_left] at KR
       have hpz:=size_part s i (i+n) hle
       obtain ⟨V,hV⟩:∃ V,digitsV s i (i+n) 0=V:=⟨_,rfl⟩
       have HX:Hid (∀ (v:Nat) (b:Bool),b=decide (1000000 < V ∨ (1 < n∧s[i].toNat=48))→(b=false→v=V)→TokAt s i ⟨i,ByteArray.empty,true,v,false,ByteArray.empty,b⟩ n):=Lib.hid (fun v b hb hv=>by
        have:=tok_digits (v:=v) h1 k3 hn b (by rw [Nat.add_sub_cancel_left,hV];exact hb) (by rw [hV];exact hv)
        rw [Nat.add_sub_cancel_left] at this
        exact this)
       have KN:=Lib.hid (fun W hE=>num_says (s.extract i (i+n)) W (by omega) (by omega) (fun j hj=>by
        have h:=rowEnd_all s 48 57 _ i (Nat.le_refl _) (i+j) (by omega) (by omega)
        rw [← byteAt_part s i (i+n) j hle (by omega),byteAt_lt hj] at h
        exact h) hE)
       have hdv:digitsV (s.extract i (i+n)) 0 (s.extract i (i+n)).size 0=V:=by
        have:=digitsV_part s i (i+n) hle _ 0 0 rfl
        rw [Nat.add_sub_cancel_left,Nat.add_zero,hV] at this
        rw [hpz,Nat.add_sub_cancel_left]
        exact this
       rw [hdv] at KN
       have hEr:=HE.out _ (hI.out.up hB hm hsk.out).below
       have KN:=Lib.hid (KN.out _ hEr)
       have g1:((i:Int)+(n:Int))≤(s.size:Int):=by omega
       have g2:(i:Int)≤(i:Int)+(n:Int):=by omega
       have g3:((i:Int)+(n:Int)).toNat=i+n:=by omega
       have z7:IntKind.i64.wrap ((i:Int)+(n:Int))=(i:Int)+(n:Int):=IntWalk.i64_in _ (by omega)
       clear k1 k3 hn hV hdv hEr hpz
       unfold tokB tokC at KN
       go_wp2_with fail
       refine (KR.out _).mono ?_
       rintro r0 w2 ⟨rfl,rfl⟩
       go_wp2_with fail
       refine KN.out.mono ?_
       rintro r0 w3 ⟨v,ev,rfl,s3,hc3⟩
       have S3:=Lib.hid (wr_since hsk.out s3)
       have T3:Hid (w3.heap[wr.heap.size]?=some (tokB ⟨i,ByteArray.empty,false,0,false,ByteArray.empty,false⟩)):=Lib.hid ((s3.block _ (blk_lt htk.out)).trans htk.out)
       have T4:=Lib.hid ((tok_set ((tok_set T3.out).2.1 true)).2.2.1 v)
       have S4:=Lib.hid (since_set (since_set S3.out 2 (.bool true)) 3 (.int .i64 (v:Nat)))
       obtain ⟨-,-,q2,q3,-,-,q6⟩:=tok_cells T3.out
       have qf:=tok_fz T3.out
       clear s3
       rcases hc3 with ⟨hv1,rfl,rfl⟩ | ⟨hv1,rfl,te,pe,rfl⟩
       ·
        by_cases k4:1000000 < v
        ·
         have e1:(1000000:Int) < (v:Int):=by omega
         have HX:=Lib.hid (HX.out v true (by rw [decide_eq_true (.inl k4)]) (fun h=>by cases h))
         clear k4
         go_wp2_with fail
         go_meet
         exact ⟨_,n,rfl,rfl,by omega,Lib.hid (since_set S4.out 6 _),Lib.hid ((tok_set T4.out).2.2.2.2.2 _),HX⟩
        ·
         have e1:¬ (1000000:Int) < (v:Int):=by omega
         by_cases k5:1 < n
         ·
          have e2:(1:Int) < (n:Int):=by omega
          by_cases k6:s[i].toNat=48
          ·
           have e3:(((s[i].toNat:Nat):Int) == 48)=true:=beq_iff_eq.2 (by omega)
           have HX:=Lib.hid (HX.out v true (by rw [decide_eq_true (.inr ⟨k5,k6⟩)]) (fun h=>by cases h))
           clear k4 k5 k6
           go_wp2_with fail
           go_meet
           exact ⟨_,n,rfl,rfl,by omega,Lib.hid (since_set S4.out 6 _),Lib.hid ((tok_set T4.out).2.2.2.2.2 _),HX⟩
          ·
           have e3:(((s[i].toNat:Nat):Int) == 48)=false:=beq_eq_false_iff_ne.2 (by omega)
           have HX:=Lib.hid (HX.out v false (by rw [decide_eq_false (fun h=>h.elim k4 (fun h=>k6 h.2))]) (fun _=>rfl))
           clear k4 k5 k6
           go_wp2_with fail
           go_meet
           exact ⟨_,n,rfl,rfl,by omega,Lib.hid (since_set S4.out 6 _),Lib.hid ((tok_set T4.out).2.2.2.2.2 _),by rw [decide_eq_false (Int.not_lt.2 e1)];exact HX⟩
         ·
          have e2:¬ (1:Int) < (n:Int):=by omega
          have HX:=Lib.hid (HX.out v false (by rw [decide_eq_false (fun h=>h.elim k4 (fun h=>k5 h.1))]) (fun _=>rfl))
          clear k4 k5
          go_wp2_with fail
          go_meet
          exact ⟨_,n,rfl,rfl,by omega,Lib.hid (since_set S4.out 6 _),Lib.hid ((tok_set T4.out).2.2.2.2.2 _),by rw [decide_eq_false (Int.not_lt.2 e1)];exact HX⟩
       ·
        have HX:=Lib.hid (HX.out 9223372036854775807 true (by rw [decide_eq_true (.inl (by omega))]) (fun h=>by cases h))
        go_wp2_with fail
        go_meet
        exact ⟨_,n,rfl,rfl,by omega,Lib.hid (since_set S4.out 6 _),Lib.hid ((tok_set T4.out).2.2.2.2.2 _),HX⟩
      ·
       by_cases k4:s[i].toNat=34
       ·
        have c1:¬ (97:Int)≤(s[i].toNat:Int):=by omega
        have c2:¬ (48:Int)≤(s[i].toNat:Int):=by omega
        have c3:(((s[i].toNat:Nat):Int) == 34)=true:=beq_iff_eq.2 (by omega)
        obtain ⟨HQ1,HQ2⟩:=tok_quoted h1 k4
        have KQ:=Lib.hid (fun W hT=>pquoted_says (s.extract i s.size) W (by rw [hsz.out];omega) (by rw [hsz.out];omega) hT)
        rw [quoted_shift isT s i (by omega) _ 1 _ (Nat.le_refl _)] at KQ
        have KQ:=Lib.hid (KQ.out _ (HT.out _ (hI.out.up hB hm hsk.out).below))
        have hq2:=fun t e h=>quoted_gt isT s (i+1) ByteArray.empty (t:=t) (e:=e) h
        generalize Fm.quoted isT s (i+1) ByteArray.empty=Q at HQ1 HQ2 KQ hq2
        clear k1 k3 k4
        unfold tokB tokC at KQ
        cases Q with
        | none=>
         have HX:=Lib.hid (HQ2 rfl)
         clear HQ1 HQ2 hq2
         go_wp2_with fail
         refine KQ.out.mono ?_
         rintro r0 w3 ⟨rfl,s3⟩
         have S3:=Lib.hid (wr_since hsk.out s3)
         have T3:Hid (w3.heap[wr.heap.size]?=some (tokB ⟨i,ByteArray.empty,false,0,false,ByteArray.empty,false⟩)):=Lib.hid ((s3.block _ (blk_lt htk.out)).trans htk.out)
         have T4:=Lib.hid ((tok_set ((tok_set T3.out).2.2.2.2.1 ⟨#[]⟩)).2.2.2.1 true)
         have S4:=Lib.hid (since_set (since_set S3.out 5 (.string ⟨#[]⟩)) 4 (.bool true))
         obtain ⟨-,-,-,-,q4,q5,q6⟩:=tok_cells T3.out
         have qf:=tok_fz T3.out
         clear s3
         unfold pquotR
         go_wp2_with fail
         go_meet
         exact ⟨_,0,rfl,rfl,by omega,Lib.hid (since_set S4.out 6 _),Lib.hid ((tok_set T4.out).2.2.2.2.2 _),HX⟩
        | some p=>
         obtain ⟨tx,e⟩:=p
         obtain ⟨he,HX⟩:=HQ1 tx e rfl
         have hq3:=hq2 tx e rfl
         obtain ⟨n,rfl⟩:∃ n,e=i+n:=⟨e - i,by omega⟩
         rw [Nat.add_sub_cancel_left] at HX
         have HX:=Lib.hid HX
         have KQ:Hid (Calls Tryz.prog 88 _ _ fun E w'=>E=.returned (.tuple #[.int .i64 ((i+n - i:Nat):Int),.string tx])∧_):=KQ
         rw [Nat.add_sub_cancel_left] at KQ
         have c5:((n:Int) == 0)=false:=beq_eq_false_iff_ne.2 (by omega)
         clear HQ1 HQ2 hq2
         go_wp2_with fail
         refine KQ.out.mono ?_
         rintro r0 w3 ⟨rfl,s3⟩
         have S3:=Lib.hid (wr_since hsk.out s3)
         have T3:Hid (w3.heap[wr.heap.size]?=some (tokB ⟨i,ByteArray.empty,false,0,false,ByteArray.empty,false⟩)):=Lib.hid ((s3.block _ (blk_lt htk.out)).trans htk.out)
         have T4:=Lib.hid ((tok_set ((tok_set T3.out).2.2.2.2.1 tx)).2.2.2.1 true)
         have S4:=Lib.hid (since_set (since_set S3.out 5 (.string tx)) 4 (.bool true))
         obtain ⟨-,-,-,-,q4,q5,q6⟩:=tok_cells T3.out
         have qf:=tok_fz T3.out
         clear s3
         go_wp2_with fail
         go_meet
         exact ⟨_,n,rfl,rfl,by omega,Lib.hid (since_set S4.out 6 _),Lib.hid ((tok_set T4.out).2.2.2.2.2 _),HX⟩
       ·
        have c3:(((s[i].toNat:Nat):Int) == 34)=false:=beq_eq_false_iff_ne.2 (by omega)
        have HS:=Lib.hid (tok_sign h1 k1 k3 k4)
        have KP:=Lib.hid (fun x W=>prefix_says (s.extract i s.size) x W)
        have hpx:=Lib.hid (fun x=>prefix_sgn s i (by omega) x)
        have key:(¬ (97:Int)≤(s[i].toNat:Int)∧¬ (48:Int)≤(s[i].toNat:Int)) ∨ (¬ (97:Int)≤(s[i].toNat:Int)∧(48:Int)≤(s[i].toNat:Int)∧¬ (s[i].toNat:Int)≤57) ∨ ((97:Int)≤(s[i].toNat:Int)∧¬ (s[i].toNat:Int)≤122∧(48:Int)≤(s[i].toNat:Int)∧¬ (s[i].toNat:Int)≤57):=by omega
        clear k1 k3 k4
        obtain ⟨wo,hwo⟩:∃ wo,wo=wr:=⟨_,rfl⟩
        subst hwo
        have B2:=Lib.hid (heap_alloc_new (wo.alloc (tokB ⟨i,ByteArray.empty,false,0,false,ByteArray.empty,false⟩)) (.cells (signP.map Value.string).toArray 9))
        have B1:Hid (((wo.alloc (tokB ⟨i,ByteArray.empty,false,0,false,ByteArray.empty,false⟩)).alloc (.cells (signP.map Value.string).toArray 9)).heap[wo.heap.size]?=some (tokB ⟨i,ByteArray.empty,false,0,false,ByteArray.empty,false⟩)):=Lib.hid ((Go.Deep.blk_alloc_lt _ _ _ (blk_lt htk.out)).trans htk.out)
        have S1:Hid (wo.Since wo.heap.size ((wo.alloc (tokB ⟨i,ByteArray.empty,false,0,false,ByteArray.empty,false⟩)).alloc (.cells (signP.map Value.string).toArray 9))):=Lib.hid (hsk.out.alloc hsk.out.size _)
        rw [World.size_alloc] at B2
        have N1:Hid (SgIs s i 0 0 ByteArray.empty):=Lib.hid (.inl ⟨rfl,rfl,rfl⟩)
        rcases key with ⟨p1,p2⟩ | ⟨p1,p2,p3⟩ | ⟨p1,p2,p3,p4⟩
        all_goals
         go_wp2_with fail
         go_loopg [5,22] 14 (fun gg o5 o22 wr=>∃ (j n:Nat) (word:ByteArray),gg=14 - j∧j≤14∧o22=.int .i64 (j:Nat)∧o5=.int .i64 (n:Nat)∧Hid (SgIs s i j n word)∧Hid (wo.Since wo.heap.size wr)∧Hid (wr.heap[wo.heap.size]?=some (tokB ⟨i,word,false,0,false,ByteArray.empty,false⟩))∧Hid (wr.heap[wo.heap.size+1]?=some (.cells (signP.map Value.string).toArray 9)))
         case atStart=>exact ⟨0,0,ByteArray.empty,rfl,by omega,rfl,rfl,N1,S1,B1,B2⟩
         case round=>
          obtain ⟨j,n,word,rfl,hj,rfl,rfl,hN,hS2,hB1,hB2⟩:=hrel
          have ctx:wr.cell? ⟨tb,0,none⟩=some (.string s):=(hS2.out.cell (a:=⟨tb,0,none⟩) htl).trans ct
          by_cases q1:j < 14
          ·
           have r1:(j:Int) < 14:=by omega
           obtain ⟨x,hx⟩:∃ x,signP[j]?=some x:=⟨signP[j]'q1,List.getElem?_eq_getElem q1⟩
           have cx:=sign_cell hB2.out j x hx
           have HX:=Lib.hid hx
           have zj:IntKind.i64.wrap ((j:Int)+1)=(j:Int)+1:=IntWalk.i64_in _ (by omega)
           obtain ⟨-,q1',-,-,-,-,-⟩:=tok_cells hB1.out
           have qf:=tok_fz hB1.out 1
           have KX:=Lib.hid (KP.out x wr)
           rw [hpx.out x] at KX
           clear hx
           by_cases q2:n=0
           ·
            subst q2
            cases hsx:sgn s i x with
            | true=>
             rw [hsx] at KX
             have N2:=Lib.hid (hN.out.found HX.out hsx)
             clear hsx
             go_wp2_with fail
             refine KX.out.mono ?_
             rintro r0 w3 ⟨rfl,rfl⟩
             go_wp2_with fail
             go_roundg (14 - (j+1))
             case measure=>omega
             case rel=>exact ⟨j+1,x.size,x,rfl,by omega,by simp,rfl,N2,Lib.hid (since_set hS2.out _ _),Lib.hid ((tok_set hB1.out).1 x),Lib.hid ((Go.Deep.blk_setCell_other _ _ _ _ (by simp)).trans hB2.out)⟩
            | false=>
             rw [hsx] at KX
             have N2:=Lib.hid (hN.out.not HX.out hsx)
             clear hsx
             go_wp2_with fail
             refine KX.out.mono ?_
             rintro r0 w3 ⟨rfl,rfl⟩
             go_wp2_with fail
             go_roundg (14 - (j+1))
             case measure=>omega
             case rel=>exact ⟨j+1,0,word,rfl,by omega,by simp,rfl,N2,hS2,hB1,hB2⟩
           ·
            have r2:((n:Int) == 0)=false:=beq_eq_false_iff_ne.2 (by omega)
            have N2:=Lib.hid (hN.out.kept HX.out q2)
            clear q2
            go_wp2_with fail
            go_roundg (14 - (j+1))
            case measure=>omega
            case rel=>exact ⟨j+1,n,word,rfl,by omega,by simp,rfl,N2,hS2,hB1,hB2⟩
          ·
           have r1:¬ (j:Int) < 14:=by omega
           obtain rfl:j=14:=by omega
           have HX:=Lib.hid (hN.out.tok h1 HS.out)
           have hn2:=hN.out.small
           obtain ⟨-,-,-,-,-,-,q6⟩:=tok_cells hB1.out
           have qf:=tok_fz hB1.out 6
           obtain ⟨bz,hbz⟩:∃ bz,decide (n=0)=bz:=⟨_,rfl⟩
           rw [hbz] at HX
           have r3:((n:Int) == 0)=bz:=by rw [← hbz];by_cases h:n=0 <;> simp [h]
           clear hbz
           go_wp2_with fail
           go_meet
           exact ⟨_,n,rfl,rfl,by omega,Lib.hid (since_set hS2.out 6 _),Lib.hid ((tok_set hB1.out).2.2.2.2.2 _),HX⟩
    case rest=>
     obtain ⟨x,n,rfl,rfl,hn,hS,hB4,hX⟩:=hcut
     have I2:=Lib.hid (hI.out.up hB hm hS.out)
     have J2:=Lib.hid (HJ.out _ _ _ none hJ.out (grown_since hS.out) (fun r e=>by cases e))
     obtain ⟨d0,d1,d2,d3,d4,d5,d6⟩:=tok_cells hB4.out
     obtain ⟨fn,tmps,assign,body,hy,hR⟩:=HY.out _ x wc J2.out (by rw [List.length_map];have:=I2.out.few;omega)
     have hR:=Lib.hid hR
     unfold tokC at hy
     have hpt:Hid (ptrB B wc ≠ some wr.heap.size):=Lib.hid (by
      rw [ptr_up (by have:=blk_lt hI.out.box;omega) hS.out]
      rcases hI.out.ptr with e | ⟨k,e,_,h2⟩
      ·
       rw [e];exact fun h=>by cases h
      ·
       rw [e];exact fun h=>by injection h;omega)
     go_upto_region 27 with fail
     refine (wpIn_wide (n:=nn+1)).1 ?_
     cases hbad:x.bad with
     | false=>
      rw [hbad] at d6 hy
      obtain ⟨wd,hw1,hw2⟩:=hX.out.2.1 hbad
      have hgt:=wordAt_gt _ _ _ _ h1 hw1
      have Hw1:=Lib.hid hw1
      have Hw2:=Lib.hid hw2
      clear hw1 hw2
      have z7:IntKind.i64.wrap ((i:Int)+(n:Int))=(i:Int)+(n:Int):=IntWalk.i64_in _ (by omega)
      have hWN:Hid (wordsFrom isT lang.kept s 0=(wordsFrom isT lang.kept s (i+n)).map ((l0 ++ [wd]) ++ ·)):=Lib.hid (by rw [hI.out.words,wordsFrom_word h1 hc Hw1.out];exact map_map _ l0 [wd])
      gi_wp2
      refine hR.out.mono ?_
      rintro e W3 (⟨rfl,hJ3,hk3⟩ | ⟨rfl,hJx3⟩)
      ·
       have e6:W3.cell? ⟨wr.heap.size,6,none⟩=some (.bool false):=by
        have:=(tok_cells (hk3.keep wr.heap.size _ _ _ (Nat.le_of_lt (blk_lt hI.out.box)) hB4.out hpt.out)).2.2.2.2.2.2
        rw [hbad] at this
        exact this
       have J3:Hid (J ((l0 ++ [wd]).map tokOf) W3):=Lib.hid (by rw [List.map_append,List.map_singleton,← Hw2.out];exact hJ3)
       have I3:Hid (ScIn s m0 tb B W W3 (i+n) (l0 ++ [wd])):=Lib.hid (I2.out.next hk3 hWN.out (by rw [List.length_append];have:=I2.out.few;simp;omega))
       clear hk3
       gi_wp2
       go_wp2_with fail
       go_roundg (s.size - (i+n))
       case measure=>omega
       case rel=>exact ⟨i+n,l0 ++ [wd],rfl,by omega,by simp,I3,J3⟩
      ·
       have HP:Hid (SPart s (l0.map tokOf ++ [x])):=Lib.hid (fun y hy hb=>by
        rw [List.getLast?_concat] at hy
        injection hy with hy
        rw [← hy,hbad] at hb
        cases hb)
       gi_wp2
       go_wp2_with fail
       refine bodyPost_ret (results_none rfl _ _ _) rfl ?_
       exact ⟨⟨_,rfl⟩,.inr ⟨_,HP.out,hJx3⟩⟩
     | true=>
      rw [hbad] at d6 hy
      have hw1:=hX.out.2.2 hbad
      have hWE:Hid (wordsFrom isT lang.kept s 0=.error x.place):=Lib.hid (by rw [hI.out.words,wordsFrom_bad h1 hc hw1,hX.out.1];rfl)
      clear hw1
      gi_wp2
      refine hR.out.mono ?_
      rintro e W3 (⟨rfl,hJ3,hk3⟩ | ⟨rfl,hJx3⟩)
      ·
       have e6:W3.cell? ⟨wr.heap.size,6,none⟩=some (.bool true):=by
        have:=(tok_cells (hk3.keep wr.heap.size _ _ _ (Nat.le_of_lt (blk_lt hI.out.box)) hB4.out hpt.out)).2.2.2.2.2.2
        rw [hbad] at this
        exact this
       have HA:Hid (SAll s (l0.map tokOf ++ [x])):=Lib.hid (fun hall=>by
        have:=hall x (by simp)
        rw [hbad] at this
        cases this)
       clear hk3
       gi_wp2
       go_wp2_with fail
       refine bodyPost_ret (results_none rfl _ _ _) rfl ?_
       exact ⟨⟨_,rfl⟩,.inl ⟨_,HA.out,hJ3⟩⟩
      ·
       have HP:Hid (SPart s (l0.map tokOf ++ [x])):=Lib.hid (fun y hy _=>by
        rw [List.getLast?_concat] at hy
        injection hy with hy
        rw [← hy]
        exact hWE.out)
       gi_wp2
       go_wp2_with fail
       refine bodyPost_ret (results_none rfl _ _ _) rfl ?_
       exact ⟨⟨_,rfl⟩,.inr ⟨_,HP.out,hJx3⟩⟩
  ·
   have i1:¬ (i:Int) < (s.size:Int):=by omega
   have HL:Hid (SAll s (l0.map tokOf)):=Lib.hid (fun _=>⟨l0,hI.out.last h1,rfl⟩)
   go_wp2_with fail
   go_end0
   exact ⟨⟨_,rfl⟩,.inl ⟨_,HL.out,hJ.out⟩⟩
end Go.Proofs.YthbdlnflmfchjaaGreatDoor
