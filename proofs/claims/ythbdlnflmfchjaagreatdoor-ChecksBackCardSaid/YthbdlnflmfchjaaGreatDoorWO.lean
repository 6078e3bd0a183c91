/- The specification's words: small, figure, quoted. -/
import Derived.Test.YthbdlnflmfchjaaGreatDoorRL
import Derived.Test.YthbdlnflmfchjaaGreatDoorV5
set_option linter.unusedVariables false
set_option linter.unusedSimpArgs false
namespace Go.Proofs.YthbdlnflmfchjaaGreatDoor
open Go.RowKit Go.Proofs.Fm Go.Proofs.MapEnt
theorem push_at (acc s:ByteArray) (i:Nat) (h:i < s.size):acc ++ s.extract i (i+1)=acc.push s[i]:=by
 apply ByteArray.ext
 rw [ByteArray.data_append,ByteArray.data_extract,ByteArray.data_push]
 apply Array.toList_inj.1
 rw [Array.toList_append,Array.toList_extract,Array.toList_push,List.extract_eq_take_drop,Nat.add_sub_cancel_left]
 have hl:i < s.data.toList.length:=by rw [Array.length_toList];exact h
 rw [List.drop_eq_getElem_cons hl]
 rfl
end Go.Proofs.YthbdlnflmfchjaaGreatDoor
namespace Go.Proofs.YthbdlnflmfchjaaGreatDoor
open Go.RowKit Go.Proofs.Fm Go.Proofs.MapEnt
def sgn (s:ByteArray) (i:Nat) (x:ByteArray):Bool:=decide (i+x.size≤s.size) && decide (s.extract i (i+x.size)=x)
theorem extract_one {s:ByteArray} {i:Nat} (h:i < s.size):s.extract i (i+1)=⟨#[s[i]]⟩:=by
 have e:=push_at ByteArray.empty s i h
 rw [ByteArray.empty_append] at e
 rw [e]
 rfl
theorem extract_two {s:ByteArray} {i:Nat} (h:i+1 < s.size):s.extract i (i+2)=⟨#[s[i],s[i+1]]⟩:=by
 have e1:=extract_one (s:=s) (i:=i) (by omega)
 have e2:=push_at (s.extract i (i+1)) s (i+1) h
 have e3:s.extract i (i+2)=s.extract i (i+1) ++ s.extract (i+1) (i+2):=by
  apply ByteArray.ext
  rw [ByteArray.data_append,ByteArray.data_extract,ByteArray.data_extract,ByteArray.data_extract,Array.extract_append_extract]
  congr 1 <;> omega
 rw [e3,show i+2=i+1+1 from rfl,e2,e1]
 rfl
theorem sgn_one (s:ByteArray) (i:Nat) (a:UInt8):sgn s i ⟨#[a]⟩=(decide (i < s.size) && decide (byteAt s i=a.toNat)):=by
 unfold sgn
 show (decide (i+1≤s.size) && decide (s.extract i (i+1)=⟨#[a]⟩))=_
 by_cases h:i < s.size
 ·
  rw [extract_one h,byteAt_lt h,decide_eq_true (show i+1≤s.size from h),decide_eq_true h]
  congr 1
  apply decide_eq_decide.2
  constructor
  ·
   intro e;injection e with e;injection e with e;injection e with e;rw [e]
  ·
   intro e;rw [UInt8.toNat_inj.1 e]
 ·
  rw [decide_eq_false (show ¬ i+1≤s.size from h),decide_eq_false h];rfl
theorem sgn_two (s:ByteArray) (i:Nat) (a b:UInt8):sgn s i ⟨#[a,b]⟩=(decide (i+1 < s.size) && (decide (byteAt s i=a.toNat) && decide (byteAt s (i+1)=b.toNat))):=by
 unfold sgn
 show (decide (i+2≤s.size) && decide (s.extract i (i+2)=⟨#[a,b]⟩))=_
 by_cases h:i+1 < s.size
 ·
  rw [extract_two h,byteAt_lt h,byteAt_lt (show i < s.size by omega),decide_eq_true (show i+2≤s.size from h),decide_eq_true h]
  congr 1
  rw [← Bool.decide_and]
  apply decide_eq_decide.2
  constructor
  ·
   intro e;injection e with e;injection e with e;injection e with e e2;injection e2 with e2;exact ⟨by rw [e],by rw [e2]⟩
  ·
   rintro ⟨e,e2⟩;rw [UInt8.toNat_inj.1 e,UInt8.toNat_inj.1 e2]
 ·
  rw [decide_eq_false (show ¬ i+2≤s.size from h),decide_eq_false h];rfl
theorem sign_find (s:ByteArray) (i:Nat) (hi:i < s.size):(∃ x,signL.find? (sgn s i)=some x∧signAt s i=x.size∧s.extract i (i+signAt s i)=x∧0 < x.size) ∨ (signL.find? (sgn s i)=none∧signAt s i=0):=by
 have key:(match signL.find? (sgn s i) with | some x=>signAt s i=x.size∧0 < x.size | none=>signAt s i=0):=by
  unfold signL signAt
  simp only [List.find?_cons,List.find?_nil,sgn_one,sgn_two]
  have hc:=byteAt_lt hi
  have hp:decide (i < s.size)=true:=decide_eq_true hi
  rw [hp]
  simp only [Bool.true_and]
  have u33:UInt8.toNat 33=33:=rfl
  have u40:UInt8.toNat 40=40:=rfl
  have u41:UInt8.toNat 41=41:=rfl
  have u42:UInt8.toNat 42=42:=rfl
  have u43:UInt8.toNat 43=43:=rfl
  have u44:UInt8.toNat 44=44:=rfl
  have u45:UInt8.toNat 45=45:=rfl
  have u58:UInt8.toNat 58=58:=rfl
  have u60:UInt8.toNat 60=60:=rfl
  have u61:UInt8.toNat 61=61:=rfl
  have u62:UInt8.toNat 62=62:=rfl
  have u126:UInt8.toNat 126=126:=rfl
  by_cases hL:i+1 < s.size
  ·
   rw [decide_eq_true hL]
   simp only [Bool.true_and,hL,and_true]
   generalize byteAt s i=a
   generalize byteAt s (i+1)=b
   clear hc hp hL hi
   simp only [u33,u40,u41,u42,u43,u44,u45,u58,u60,u61,u62,u126]
   by_cases hb:b=61
   ·
    subst hb
    by_cases h61:a=61
    ·
     subst h61;exact ⟨rfl,by decide⟩
    by_cases h33:a=33
    ·
     subst h33;exact ⟨rfl,by decide⟩
    by_cases h60:a=60
    ·
     subst h60;exact ⟨rfl,by decide⟩
    by_cases h62:a=62
    ·
     subst h62;exact ⟨rfl,by decide⟩
    by_cases h126:a=126
    ·
     subst h126;exact ⟨rfl,by decide⟩
    by_cases h40:a=40
    ·
     subst h40;exact ⟨rfl,by decide⟩
    by_cases h41:a=41
    ·
     subst h41;exact ⟨rfl,by decide⟩
    by_cases h44:a=44
    ·
     subst h44;exact ⟨rfl,by decide⟩
    by_cases h58:a=58
    ·
     subst h58;exact ⟨rfl,by decide⟩
    by_cases h43:a=43
    ·
     subst h43;exact ⟨rfl,by decide⟩
    by_cases h45:a=45
    ·
     subst h45;exact ⟨rfl,by decide⟩
    by_cases h42:a=42
    ·
     subst h42;exact ⟨rfl,by decide⟩
    simp [h61,h33,h60,h62,h126,h40,h41,h44,h58,h43,h45,h42]
   ·
    simp only [hb,and_false,if_false,decide_false,Bool.and_false]
    by_cases h60:a=60
    ·
     subst h60;exact ⟨rfl,by decide⟩
    by_cases h62:a=62
    ·
     subst h62;exact ⟨rfl,by decide⟩
    by_cases h126:a=126
    ·
     subst h126;exact ⟨rfl,by decide⟩
    by_cases h40:a=40
    ·
     subst h40;exact ⟨rfl,by decide⟩
    by_cases h41:a=41
    ·
     subst h41;exact ⟨rfl,by decide⟩
    by_cases h44:a=44
    ·
     subst h44;exact ⟨rfl,by decide⟩
    by_cases h58:a=58
    ·
     subst h58;exact ⟨rfl,by decide⟩
    by_cases h43:a=43
    ·
     subst h43;exact ⟨rfl,by decide⟩
    by_cases h45:a=45
    ·
     subst h45;exact ⟨rfl,by decide⟩
    by_cases h42:a=42
    ·
     subst h42;exact ⟨rfl,by decide⟩
    simp [h60,h62,h126,h40,h41,h44,h58,h43,h45,h42]
  ·
   rw [decide_eq_false hL]
   simp only [Bool.false_and,hL,and_false,if_false]
   generalize byteAt s i=a
   clear hc hp hL hi
   simp only [u33,u40,u41,u42,u43,u44,u45,u58,u60,u61,u62,u126]
   by_cases h60:a=60
   ·
    subst h60;exact ⟨rfl,by decide⟩
   by_cases h62:a=62
   ·
    subst h62;exact ⟨rfl,by decide⟩
   by_cases h126:a=126
   ·
    subst h126;exact ⟨rfl,by decide⟩
   by_cases h40:a=40
   ·
    subst h40;exact ⟨rfl,by decide⟩
   by_cases h41:a=41
   ·
    subst h41;exact ⟨rfl,by decide⟩
   by_cases h44:a=44
   ·
    subst h44;exact ⟨rfl,by decide⟩
   by_cases h58:a=58
   ·
    subst h58;exact ⟨rfl,by decide⟩
   by_cases h43:a=43
   ·
    subst h43;exact ⟨rfl,by decide⟩
   by_cases h45:a=45
   ·
    subst h45;exact ⟨rfl,by decide⟩
   by_cases h42:a=42
   ·
    subst h42;exact ⟨rfl,by decide⟩
   simp [h60,h62,h126,h40,h41,h44,h58,h43,h45,h42]
 cases hf:signL.find? (sgn s i) with
 | none=>rw [hf] at key;exact .inr ⟨rfl,key⟩
 | some x=>
  rw [hf] at key
  have hx:=List.find?_some hf
  unfold sgn at hx
  rw [Bool.and_eq_true,decide_eq_true_eq,decide_eq_true_eq] at hx
  exact .inl ⟨x,rfl,key.1,by rw [key.1];exact hx.2,key.2⟩
end Go.Proofs.YthbdlnflmfchjaaGreatDoor
namespace Go.Proofs.YthbdlnflmfchjaaGreatDoor
open Go.RowKit Go.Proofs.Fm Go.Proofs.MapEnt
theorem own_up {w w':World} {base:Nat} {e:TypeId} {size n:Nat} {v:Value} {xs:List Value} (h:w.ownsRow base e size v n xs) (hb:∀ k,v.ownBlock=some k→k < w.heap.size→w'.heap[k]?=w.heap[k]?):w'.ownsRow base e size v n xs:=by
 obtain ⟨h1,⟨e1,e2⟩ | ⟨g,cp,cur,rfl,h2,h3,h4⟩⟩:=h
 ·
  exact ⟨h1,.inl ⟨e1,e2⟩⟩
 ·
  exact ⟨h1,.inr ⟨g,cp,cur,rfl,h2,(hb g rfl (blk_lt h3)).trans h3,h4⟩⟩
theorem own_ge {w:World} {base:Nat} {e:TypeId} {size n:Nat} {v:Value} {xs:List Value} (h:w.ownsRow base e size v n xs):∀ k,v.ownBlock=some k→base≤k:=by
 obtain ⟨_,⟨e1,_⟩ | ⟨g,cp,cur,rfl,h2,_⟩⟩:=h
 ·
  intro k hk;rw [e1] at hk;cases hk
 ·
  intro k hk;rw [show (Value.slice (some ⟨g,0,none⟩) n cp).ownBlock=some g from rfl] at hk;rw [← Option.some.inj hk];exact h2
end Go.Proofs.YthbdlnflmfchjaaGreatDoor
namespace Go.Proofs.YthbdlnflmfchjaaGreatDoor
open Go.RowKit Go.Proofs.Fm Go.Proofs.MapEnt
theorem wordsFrom_end {ok kept:ByteArray→Bool} {s:ByteArray} {i:Nat} (h:¬ i < s.size):wordsFrom ok kept s i=.ok []:=by rw [wordsFrom,dif_neg h]
theorem wordsFrom_gap {ok kept:ByteArray→Bool} {s:ByteArray} {i:Nat} (h:i < s.size) (hc:s[i].toNat=32):wordsFrom ok kept s i=wordsFrom ok kept s (i+1):=by rw [wordsFrom,dif_pos h,byteAt_lt h,if_pos hc]
theorem wordsFrom_bad {ok kept:ByteArray→Bool} {s:ByteArray} {i:Nat} (h:i < s.size) (hc:¬ s[i].toNat=32) (hw:wordAt ok kept s i=none):wordsFrom ok kept s i=.error i:=by
 rw [wordsFrom,dif_pos h,byteAt_lt h,if_neg hc]
 split
 ·
  rfl
 ·
  rename_i x e h1;rw [hw] at h1;cases h1
theorem wordsFrom_word {ok kept:ByteArray→Bool} {s:ByteArray} {i:Nat} (h:i < s.size) (hc:¬ s[i].toNat=32) {x:Wd} {e:Nat} (hw:wordAt ok kept s i=some (x,e)):wordsFrom ok kept s i=(wordsFrom ok kept s e).map (x :: ·):=by
 rw [wordsFrom,dif_pos h,byteAt_lt h,if_neg hc]
 split
 ·
  rename_i h1;rw [hw] at h1;cases h1
 ·
  rename_i x' e' h1;rw [hw] at h1;injection h1 with h1;injection h1 with h1 h2;subst h1;subst h2;rfl
theorem wordsFrom_last {ok kept:ByteArray→Bool} {s:ByteArray} {i:Nat} {r:Except Nat (List Wd)} {l0:List Wd} (h:r=(wordsFrom ok kept s i).map (l0 ++ ·)) (h1:¬ i < s.size):r=.ok l0:=by
 rw [h,wordsFrom_end h1]
 exact congrArg Except.ok (List.append_nil l0)
theorem map_map {α:Type} (r:Except Nat (List α)) (a b:List α):(r.map (b ++ ·)).map (a ++ ·)=r.map ((a ++ b) ++ ·):=by
 cases r with
 | error p=>rfl
 | ok l=>show Except.ok (a ++ (b ++ l))=_;rw [← List.append_assoc];rfl
end Go.Proofs.YthbdlnflmfchjaaGreatDoor
namespace Go.Proofs.YthbdlnflmfchjaaGreatDoor
open Go.RowKit Go.Proofs.Fm Go.Proofs.MapEnt
theorem size_part (s:ByteArray) (i e:Nat) (he:e≤s.size):(s.extract i e).size=e - i:=by rw [ByteArray.size_extract];omega
theorem byteAt_part (s:ByteArray) (i e j:Nat) (he:e≤s.size) (hj:i+j < e):byteAt (s.extract i e) j=byteAt s (i+j):=by
 have h1:j < (s.extract i e).size:=by rw [size_part s i e he];omega
 rw [byteAt_lt h1,byteAt_lt (show i+j < s.size by omega)]
 congr 1
 exact ByteArray.getElem_extract h1
theorem rowEnd_all (s:ByteArray) (lo hi:Nat):∀ (k n:Nat),s.size - n≤k→∀ j,n≤j→j < rowEnd s lo hi n→lo≤byteAt s j∧byteAt s j≤hi
 | k,n,hk,j,h1,h2=>by
  by_cases hc:n < s.size∧lo≤byteAt s n∧byteAt s n≤hi
  ·
   rw [rowEnd_go hc] at h2
   by_cases e:j=n
   ·
    rw [e];exact hc.2
   ·
    cases k with
    | zero=>omega
    | succ k=>exact rowEnd_all s lo hi k (n+1) (by omega) j (by omega) h2
  ·
   rw [rowEnd_end hc] at h2;omega
theorem digitsV_part (s:ByteArray) (i e:Nat) (he:e≤s.size):∀ (k j v:Nat),e - i - j=k→digitsV (s.extract i e) j (e - i) v=digitsV s (i+j) e v
 | 0,j,v,hk=>by rw [digitsV,dif_neg (by omega),digitsV,dif_neg (by omega)]
 | k+1,j,v,hk=>by
  rw [digitsV,dif_pos (by omega),byteAt_part s i e j he (by omega),digitsV_part s i e he k (j+1) _ (by omega)]
  conv=>rhs;rw [digitsV,dif_pos (by omega)]
  rfl
theorem quoted_size (ok:ByteArray→Bool) (s:ByteArray):∀ (k i:Nat) (acc t:ByteArray) (e:Nat),s.size - i≤k→Fm.quoted ok s i acc=some (t,e)→t.size≤acc.size+(s.size - i)
 | k,i,acc,t,e,hk,h=>by
  rw [Fm.quoted] at h
  split at h
  ·
   rename_i hi
   cases k with
   | zero=>omega
   | succ k=>
    split at h
    ·
     split at h
     ·
      injection h with h;injection h with h _;rw [← h];omega
     ·
      cases h
    ·
     split at h
     ·
      split at h
      ·
       split at h
       ·
        have:=quoted_size ok s k (i+2) _ _ _ (by omega) h;rw [ByteArray.size_push] at this;omega
       ·
        cases h
      ·
       cases h
     ·
      have:=quoted_size ok s k (i+1) _ _ _ (by omega) h;rw [ByteArray.size_push] at this;omega
  ·
   cases h
def WdFine (x:Wd):Prop:=WdOk x∧(x.kind=.number→(∀ i (h:i < x.text.size),48≤x.text[i].toNat)∧digitsV x.text 0 x.text.size 0≤1000000∧x.text.size≤100000)
theorem wordAt_fine {ok kept:ByteArray→Bool} {s:ByteArray} {i:Nat} (hs:s.size≤100000) (hi:i < s.size) {x:Wd} {e:Nat} (h:wordAt ok kept s i=some (x,e)):WdFine x:=by
 unfold wordAt at h
 simp only at h
 split at h
 ·
  rename_i hc
  split at h
  ·
   cases h
  ·
   injection h with h;injection h with h _;subst h
   have hle:=rowEnd_le s 97 122 i (by omega)
   have hgt:i < rowEnd s 97 122 i:=by rw [rowEnd_go ⟨hi,hc⟩];exact rowEnd_ge s 97 122 (i+1)
   have hz:=size_part s i _ hle
   refine ⟨⟨fun _=>⟨?_,?_⟩,fun h=>(by cases h),?_⟩,fun h=>(by cases h)⟩
   ·
    show 0 < (s.extract i (rowEnd s 97 122 i)).size;omega
   ·
    show 97≤byteAt (s.extract i (rowEnd s 97 122 i)) 0∧byteAt (s.extract i (rowEnd s 97 122 i)) 0≤122
    rw [byteAt_part s i _ 0 hle (by omega)];exact hc
   ·
    show (s.extract i (rowEnd s 97 122 i)).size≤maxLen
    simp only [maxLen];omega
 ·
  rename_i hnl
  split at h
  ·
   rename_i hc
   split at h
   ·
    cases h
   ·
    rename_i hg
    injection h with h;injection h with h _;subst h
    have hle:=rowEnd_le s 48 57 i (by omega)
    have hz:=size_part s i _ hle
    refine ⟨⟨fun h=>(by cases h),fun h=>(by cases h),?_⟩,fun _=>⟨fun j hj=>?_,?_,?_⟩⟩
    ·
     show (s.extract i (rowEnd s 48 57 i)).size≤maxLen
     simp only [maxLen];omega
    ·
     have hj2:j < (s.extract i (rowEnd s 48 57 i)).size:=hj
     have e1:=byteAt_part s i _ j hle (by omega)
     have e2:=(rowEnd_all s 48 57 _ i (Nat.le_refl _) (i+j) (by omega) (by omega)).1
     rw [← e1,byteAt_lt hj2] at e2
     exact e2
    ·
     show digitsV (s.extract i (rowEnd s 48 57 i)) 0 (s.extract i (rowEnd s 48 57 i)).size 0≤1000000
     rw [hz,digitsV_part s i _ hle _ 0 0 rfl]
     exact Nat.le_of_not_lt (fun hh=>hg (.inl hh))
    ·
     show (s.extract i (rowEnd s 48 57 i)).size≤100000;omega
  ·
   split at h
   ·
    split at h
    ·
     rename_i t e' hq
     injection h with h;injection h with h _;subst h
     have hz:=quoted_size ok s _ (i+1) _ _ _ (Nat.le_refl _) hq
     refine ⟨⟨fun h=>(by cases h),fun h=>(by cases h),?_⟩,fun h=>(by cases h)⟩
     show t.size≤maxLen
     rw [show (ByteArray.empty).size=0 from rfl] at hz
     simp only [maxLen];omega
    ·
     cases h
   ·
    split at h
    ·
     cases h
    ·
     rename_i hn
     injection h with h;injection h with h _;subst h
     rcases sign_find s i hi with ⟨y,_,h2,h3,h4⟩ | ⟨_,h2⟩
     ·
      rw [h3]
      have hy:y.size≤s.size:=by rw [← h3,ByteArray.size_extract];omega
      have hb:byteAt y 0=byteAt s i:=by
       have hl:i+signAt s i≤s.size:=by
        have h5:=congrArg ByteArray.size h3
        rw [ByteArray.size_extract] at h5
        omega
       rw [← h3,byteAt_part s i _ 0 hl (by omega)];rfl
      exact ⟨⟨fun h=>(by cases h),fun _=>⟨h4,by show ¬ (97≤byteAt y 0∧byteAt y 0≤122);rw [hb];exact hnl⟩,by show y.size≤maxLen;simp only [maxLen];omega⟩,fun h=>(by cases h)⟩
     ·
      exact absurd h2 hn
theorem words_fine {ok kept:ByteArray→Bool} {s:ByteArray} (hs:s.size≤100000):∀ (k i:Nat),s.size - i≤k→∀ l,wordsFrom ok kept s i=.ok l→(∀ x ∈ l,WdFine x)∧l.length≤s.size - i
 | k,i,hk,l,h=>by
  by_cases hi:i < s.size
  ·
   cases k with
   | zero=>omega
   | succ k=>
    by_cases hc:s[i].toNat=32
    ·
     rw [wordsFrom_gap hi hc] at h
     have:=words_fine hs k (i+1) (by omega) l h
     exact ⟨this.1,by omega⟩
    ·
     cases hw:wordAt ok kept s i with
     | none=>rw [wordsFrom_bad hi hc hw] at h;cases h
     | some xe=>
      obtain ⟨x,e⟩:=xe
      rw [wordsFrom_word hi hc hw] at h
      have hgt:=wordAt_gt ok kept s i hi hw
      cases hr:wordsFrom ok kept s e with
      | error p=>rw [hr] at h;cases h
      | ok l2=>
       rw [hr] at h
       injection h with h
       subst h
       have h2:=words_fine hs k e (by omega) l2 hr
       refine ⟨fun y hy=>?_,by rw [List.length_cons];omega⟩
       rcases List.mem_cons.1 hy with rfl | hy
       ·
        exact wordAt_fine hs hi hw
       ·
        exact h2.1 y hy
  ·
   rw [wordsFrom_end hi] at h
   injection h with h
   subst h
   exact ⟨fun x hx=>(by cases hx),Nat.zero_le _⟩
theorem words_wsOk {ok kept:ByteArray→Bool} {s:ByteArray} (hs:s.size≤100000) {l:List Wd} (h:wordsFrom ok kept s 0=.ok l):WsOk l∧NumsOk l:=by
 have h1:=words_fine hs _ 0 (Nat.le_refl _) l h
 exact ⟨⟨fun x hx=>(h1.1 x hx).1,by omega⟩,fun x hx hk=>(h1.1 x hx).2 hk⟩
end Go.Proofs.YthbdlnflmfchjaaGreatDoor
