/- Formulas, plain: the words of a text, and the tree of words. -/
import Derived.Lib.Hide
import Derived.Deep.Heap
import Derived.Tactics
import Derived.Laws.Rows
import Derived.IntWalk
import Derived.Deep.OwnRows
namespace Go
theorem RowKit.Hid.o{p:Prop}(h:RowKit.Hid p):p:=h
abbrev BA:=ByteArray
theorem aa{p:Prop}(h:p):RowKit.Hid p:=h
theorem ae{α:Type}[BEq α][LawfulBEq α]{a b:α}(h:a≠b):(a==b)=false:=beq_eq_false_iff_ne.2 h
theorem ag{α:Type}[BEq α][LawfulBEq α]{a b:α}(h:a=b):(a==b)=true:=beq_iff_eq.2 h
abbrev ah:=@World.Since.refl
abbrev ai:=@Nat.le_refl
abbrev aj:=@Go.Deep.blk_alloc_lt
abbrev ak:=@Go.Deep.blk_setCell_other
abbrev aq:=@heap_alloc_new
abbrev au:=@bodyPost_ret
abbrev av:=@World.cell?_alloc_lt
abbrev aw:=@Nat.lt_of_lt_of_le
abbrev ax:=@IntWalk.i64_in
abbrev ay:=@Nat.le_trans
abbrev az:=@World.cell?_of_block
abbrev aA:=@decide_eq_false
abbrev aB:=@decide_eq_true
abbrev aC:=@Bool.eq_false_iff
abbrev aD:=@List.getElem?_eq_getElem
abbrev aE:=@Array.getElem?_eq_some_iff
abbrev aF:=@And.intro
abbrev aG:=@Nat.lt_succ_self
abbrev aH:=@Nat.not_lt_zero
abbrev aI:=@Nat.zero_le
abbrev aJ:=@Nat.succ_le_of_lt
abbrev aK:=@List.mem_singleton
abbrev aL:=@World.frozen?_of_block
abbrev aM:=@World.cell?_setCell_other
abbrev aO:=@List.drop_eq_getElem_cons
abbrev aP:=@Nat.le_of_lt
abbrev aQ:=@List.getElem?_eq_some_iff
abbrev aR:=@IntWalk.wrap64_in
abbrev aS:=@List.not_mem_nil
abbrev aT:=@Array.getElem?_eq_none
abbrev aU:=@List.getElem?_eq_none
end Go
namespace Go.Proofs.Fm
def bc(s:BA)(i:Nat):Nat:=if h:i<s.size then s[i].toNat else 0
theorem bm{s:BA}{i:Nat}(h:i<s.size):bc s i=s[i].toNat:=dif_pos h
def bC(s:BA)(lo hi n:Nat):Nat:=if n<s.size∧lo≤bc s n∧bc s n≤hi then bC s lo hi (n+1)else n termination_by s.size-n
theorem ec{s:BA}{lo hi n:Nat}(h:n<s.size∧lo≤bc s n∧bc s n≤hi):bC s lo hi n=bC s lo hi (n+1):=by rw[bC,if_pos h]
theorem dg{s:BA}{lo hi n:Nat}(h:¬(n<s.size∧lo≤bc s n∧bc s n≤hi)):bC s lo hi n=n:=by rw[bC,if_neg h]
theorem dD(s:BA)(lo hi n:Nat):n≤bC s lo hi n:=by
 rw[bC];split;·exact ay (Nat.le_succ n) (dD s lo hi (n+1))
 ·exact ai _ termination_by s.size-n
theorem d_(s:BA)(lo hi n:Nat)(h:n≤s.size):bC s lo hi n≤s.size:=by
 rw[bC];split;·exact d_ s lo hi (n+1) (by omega)
 ·exact h termination_by s.size-n
def quoted(ok:BA→Bool)(s:BA)(i:Nat)(acc:BA):Option (BA×Nat):=if h:i<s.size then if bc s i=34 then(if ok acc then some (acc,i+1)else none)else if bc s i=92 then if h2:i+1<s.size then if bc s (i+1)=34∨bc s (i+1)=92 then quoted ok s (i+2) (acc.push s[i+1])else none else none else quoted ok s (i+1) (acc.push s[i])else none termination_by s.size-i
def eW(s:BA)(i:Nat):Nat:=let a:=bc s i;let b:=bc s (i+1);if(a=61∨a=33∨a=60∨a=62)∧b=61∧i+1<s.size then 2 else if a=60∨a=62∨a=126∨a=43∨a=45∨a=42∨a=40∨a=41∨a=44∨a=58 then 1 else 0
inductive Kd where|letters|sign|number|string deriving DecidableEq,Inhabited
structure Wd where
 kind:Kd
 text:BA
 place:Nat
instance:Inhabited Wd:=⟨⟨.letters,ByteArray.empty,0⟩⟩
def bh(s:BA)(i e:Nat)(v:Nat):Nat:=if h:i<e then bh s (i+1) e (10*v+(bc s i-48))else v termination_by e-i
def bN(ok kept:BA→Bool)(s:BA)(i:Nat):Option (Wd×Nat):=let c:=bc s i;if 97≤c∧c≤122 then let e:=bC s 97 122 i;if 12<e-i∧kept (s.extract i e)=false then none else some (⟨.letters,s.extract i e,i⟩,e)else if 48≤c∧c≤57 then let e:=bC s 48 57 i;if 1000000<bh s i e 0∨1<e-i∧c=48 then none else some (⟨.number,s.extract i e,i⟩,e)else if c=34 then match quoted ok s (i+1) ByteArray.empty with
 |some (t,e)=>some (⟨.string,t,i⟩,e)
 |none=>none else let n:=eW s i;if n=0 then none else some (⟨.sign,s.extract i (i+n),i⟩,i+n)
theorem jl(ok:BA→Bool)(s:BA)(i:Nat)(acc:BA){t:BA}{e:Nat}(h:quoted ok s i acc=some (t,e)):i<e∧e≤s.size:=by
 rw[quoted]at h;split at h;·
  rename_i hi;split at h;·
   split at h;·injection h with h;injection h with _ h;omega
   ·cases h
  ·
   split at h;·
    split at h;·
     split at h;·have:=jl ok s (i+2) _ h;omega
     ·cases h
    ·cases h
   ·have:=jl ok s (i+1) _ h;omega
 ·cases h termination_by s.size-i
theorem gZ(ok kept:BA→Bool)(s:BA)(i:Nat)(hi:i<s.size){x:Wd}{e:Nat}(h:bN ok kept s i=some (x,e)):i<e∧e≤s.size:=by
 unfold bN at h;simp only at h;split at h;·
  rename_i hc;split at h;·cases h
  ·injection h with h;injection h with _ h;subst h;rw[ec ⟨hi,hc⟩];exact⟨dD s 97 122 (i+1),d_ _ _ _ _ (by omega)⟩
 ·
  split at h;·
   rename_i hc;split at h;·cases h
   ·injection h with h;injection h with _ h;subst h;rw[ec ⟨hi,hc⟩];exact⟨dD s 48 57 (i+1),d_ _ _ _ _ (by omega)⟩
  ·
   split at h;·
    split at h;·rename_i t e' hq;injection h with h;injection h with _ h;subst h;have:=jl ok s (i+1) _ hq;omega
    ·cases h
   ·
    split at h;·cases h
    ·
     rename_i hn;injection h with h;injection h with _ h;subst h;unfold eW at hn⊢;simp only at hn⊢;split;·omega
     ·
      split;·omega
      ·rename_i h1 h2;rw[if_neg h1,if_neg h2]at hn;exact absurd rfl hn
def a_(ok kept:BA→Bool)(s:BA)(i:Nat):Except Nat (List Wd):=if h:i<s.size then if bc s i=32 then a_ ok kept s (i+1)else match hw:bN ok kept s i with
 |none=> .error i
 |some (x,e)=>have:s.size-e<s.size-i:=by have:=gZ ok kept s i h hw;omega
  (a_ ok kept s e).map (x::·)else .ok []termination_by s.size-i
inductive Tm where|mk(kind:Nat)(text:BA)(num:Nat)(subs:List Tm)
instance:Inhabited Tm:=⟨.mk 0 ByteArray.empty 0 []⟩
inductive Gl where|several(or:Bool)|more(or:Bool)(acc:List Tm)|unit|args|moreArgs(acc:List Tm)|term|moreTerm(t:Tm)|product|moreProduct(t:Tm)|atom
inductive Re where|ok(l:List Tm)(n:Nat)|bad(p:Nat)
structure dL where
 kept:BA→Bool
 test:BA→Bool
 func:BA→Bool
 oper:BA→Bool
def JI:BA:=⟨#[111,114]⟩
def v_:BA:=⟨#[97,110,100]⟩
def sNot:BA:=⟨#[110,111,116]⟩
def sAll:BA:=⟨#[97,108,108]⟩
def i_:BA:=⟨#[97,110,121]⟩
def qp:BA:=⟨#[105,110]⟩
def dU:BA:=⟨#[115,111,117,114,99,101]⟩
def dV:BA:=⟨#[116,97,114,103,101,116]⟩
def fB:BA:=⟨#[58]⟩
def dS:BA:=⟨#[40]⟩
def fS:BA:=⟨#[41]⟩
def ou:BA:=⟨#[44]⟩
def mi:BA:=⟨#[43]⟩
def qF:BA:=⟨#[45]⟩
def we:BA:=⟨#[42]⟩
def isW(l:List Wd)(n:Nat)(s:BA):Bool:=match l[n]? with
 |some x=>(decide (x.kind=.letters)||decide (x.kind=.sign))&&decide (x.text=s)
 |none=>false
def aW(l:List Wd)(e n:Nat):Nat:=match l[n]? with
 |some x=>x.place
 |none=>e
def nameAt(K:dL)(l:List Wd)(n:Nat):Option BA:=match l[n]? with
 |some x=>if x.kind=.letters∧K.kept x.text=false then some x.text else none
 |none=>none
def ik(K:dL)(l:List Wd)(n:Nat):Option BA:=match l[n]? with
 |some x=>if x.kind=.letters∧K.test x.text=true then some x.text else none
 |none=>none
def fo(K:dL)(l:List Wd)(n:Nat):Option BA:=match l[n]? with
 |some x=>if(x.kind=.letters∨x.kind=.sign)∧K.oper x.text=true then some x.text else none
 |none=>none
theorem du{l:List Wd}{n:Nat}{s:BA}(h:isW l n s=true):n<l.length:=by
 unfold isW at h;split at h;·rename_i x hx;exact(aQ.1 hx).1
 ·cases h
theorem CA{K:dL}{l:List Wd}{n:Nat}{s:BA}(h:nameAt K l n=some s):n<l.length:=by
 unfold nameAt at h;split at h;·rename_i x hx;exact(aQ.1 hx).1
 ·cases h
theorem tu{K:dL}{l:List Wd}{n:Nat}{s:BA}(h:ik K l n=some s):n<l.length:=by
 unfold ik at h;split at h;·rename_i x hx;exact(aQ.1 hx).1
 ·cases h
theorem CB{K:dL}{l:List Wd}{n:Nat}{s:BA}(h:fo K l n=some s):n<l.length:=by
 unfold fo at h;split at h;·rename_i x hx;exact(aQ.1 hx).1
 ·cases h
def andThen(o:Option Re)(k:List Tm→Nat→Option Re):Option Re:=match o with
 |some (.ok ts n)=>k ts n
 |r=>r
@[simp]theorem andThen_ok(ts:List Tm)(n:Nat)(k:List Tm→Nat→Option Re):andThen (some (.ok ts n)) k=k ts n:=rfl
@[simp]theorem JJ(p:Nat)(k:List Tm→Nat→Option Re):andThen (some (.bad p)) k=some (.bad p):=rfl
@[simp]theorem Hf(k:List Tm→Nat→Option Re):andThen none k=none:=rfl
def step(K:dL)(l:List Wd)(e:Nat)(rec:Gl→Nat→Option Re):Gl→Nat→Option Re
 |.several o,n=>andThen (rec (if o then .several false else .unit) n) fun ts n1=>rec (.more o ts) n1
 |.more o acc,n=>if isW l n (if o then JI else v_)then andThen (rec (if o then .several false else .unit) (n+1)) fun ts n1=>rec (.more o (acc++ts)) n1 else some (.ok [if acc.length=1 then acc.headD default else .mk (if o then 14 else 13) ByteArray.empty 0 acc] n)
 |.unit,n=>if isW l n sNot then andThen (rec .unit (n+1)) fun ts n1=>some (.ok [.mk 12 ByteArray.empty 0 ts] n1)else if isW l n sAll||isW l n i_ then match nameAt K l (n+1)with
  |none=>some (.bad (aW l e (n+1)))
  |some x=>if isW l (n+2) qp then andThen (rec .term (n+3)) fun ts n1=>if isW l n1 fB then andThen (rec .unit (n1+1)) fun us n2=>some (.ok [.mk (if isW l n sAll then 15 else 16) x 0 (ts++us)] n2)else some (.bad (aW l e n1))else some (.bad (aW l e (n+2)))else if isW l n dS then andThen (rec (.several true) (n+1)) fun ts n1=>if isW l n1 fS then some (.ok ts (n1+1))else some (.bad (aW l e n1))else match ik K l n with
  |some x=>andThen (rec .args (n+1)) fun ts n1=>some (.ok [.mk 11 x 0 ts] n1)
  |none=>andThen (rec .term n) fun ts n1=>match fo K l n1 with
   |some x=>andThen (rec .term (n1+1)) fun us n2=>some (.ok [.mk 10 x 0 (ts++us)] n2)
   |none=>some (.bad (aW l e n1))
 |.args,n=>if isW l n dS then andThen (rec .term (n+1)) fun ts n1=>rec (.moreArgs ts) n1 else some (.bad (aW l e n))
 |.moreArgs acc,n=>if isW l n ou then andThen (rec .term (n+1)) fun ts n1=>rec (.moreArgs (acc++ts)) n1 else if isW l n fS then some (.ok acc (n+1))else some (.bad (aW l e n))
 |.term,n=>andThen (rec .product n) fun ts n1=>rec (.moreTerm (ts.headD default)) n1
 |.moreTerm t,n=>if isW l n mi||isW l n qF then andThen (rec .product (n+1)) fun ts n1=>rec (.moreTerm (.mk (if isW l n mi then 7 else 8) ByteArray.empty 0 (t::ts))) n1 else some (.ok [t] n)
 |.product,n=>andThen (rec .atom n) fun ts n1=>rec (.moreProduct (ts.headD default)) n1
 |.moreProduct t,n=>if isW l n we then andThen (rec .atom (n+1)) fun ts n1=>rec (.moreProduct (.mk 9 ByteArray.empty 0 (t::ts))) n1 else some (.ok [t] n)
 |.atom,n=>match l[n]? with
  |none=>some (.bad e)
  |some x=>match x.kind with
   |.number=>some (.ok [.mk 1 ByteArray.empty (bh x.text 0 x.text.size 0) []] (n+1))
   |.string=>some (.ok [.mk 2 x.text 0 []] (n+1))
   |.sign=>some (.bad x.place)
   |.letters=>if x.text=dU then some (.ok [.mk 4 ByteArray.empty 0 []] (n+1))else if x.text=dV then some (.ok [.mk 5 ByteArray.empty 0 []] (n+1))else if K.func x.text=true then andThen (rec .args (n+1)) fun ts n1=>some (.ok [.mk 6 x.text 0 ts] n1)else if K.kept x.text=false then some (.ok [.mk 3 x.text 0 []] (n+1))else some (.bad x.place)
def parse(K:dL)(l:List Wd)(e:Nat):Nat→Gl→Nat→Option Re
 |0=>fun _ _=>none
 |f+1=>step K l e (parse K l e f)
variable{K:dL}{l:List Wd}{e:Nat}
theorem ck{o o':Option Re}{k k':List Tm→Nat→Option Re}{r:Re}(h1:∀r,o=some r→o'=some r)(h2:∀ts n r,k ts n=some r→k' ts n=some r)(h:andThen o k=some r):andThen o' k'=some r:=by
 cases o with
 |none=>cases h
 |some x=>
   rw[h1 x rfl];cases x with
   |ok ts n=>exact h2 ts n r h
   |bad p=>exact h
theorem Eb{P:Prop}(h:P:=by
 split at h;·rename_i c;rw[if_pos c];exact ck (hr _ _) (fun _ _ _ h=>h) h
 ·rename_i c;rw[if_neg c];exact h):P:=h
theorem uE{P:Prop}(h:P:=by
 simp only[step]at h⊢;split at h;·rename_i c;rw[if_pos c];exact ck (hr _ _) (fun ts n1 r=>hr _ _ r) h
 ·rename_i c;rw[if_neg c];exact h):P:=h
theorem CC{rec rec':Gl→Nat→Option Re}(hr:∀g n r,rec g n=some r→rec' g n=some r)(g:Gl)(n:Nat)(r:Re)(h:step K l e rec g n=some r):step K l e rec' g n=some r:=by
 cases g with
 |several o=>exact ck (hr _ _) (fun ts n1 r=>hr _ _ r) h
 |more o acc=>
  by_cases c:isW l n (if o then JI else v_)=true;·rw[step,if_pos c]at h⊢;exact ck (hr _ _) (fun ts n1 r=>hr _ _ r) h
  ·rw[step,if_neg c]at h⊢;exact h
 |unit=>
  simp only[step]at h⊢;split at h;·rename_i c;rw[if_pos c];exact ck (hr _ _) (fun _ _ _ h=>h) h
  ·
   rename_i c;rw[if_neg c];split at h;·
    rename_i c;rw[if_pos c];split at h;·exact h
    ·
     split at h;·rename_i c;rw[if_pos c];refine ck (hr _ _) (fun ts n1 r h=>?_) h;exact Eb
     ·rename_i c;rw[if_neg c];exact h
   ·
    rename_i c;rw[if_neg c];split at h;·rename_i c;rw[if_pos c];exact ck (hr _ _) (fun _ _ _ h=>h) h
    ·
     rename_i c;rw[if_neg c];split at h;·exact ck (hr _ _) (fun _ _ _ h=>h) h
     ·
      refine ck (hr _ _) (fun ts n1 r h=>?_) h;split at h;·exact ck (hr _ _) (fun _ _ _ h=>h) h
      ·exact h
 |args=> exact uE
 |moreArgs acc=> exact uE
 |term=>exact ck (hr _ _) (fun ts n1 r=>hr _ _ r) h
 |moreTerm t=> exact uE
 |product=>exact ck (hr _ _) (fun ts n1 r=>hr _ _ r) h
 |moreProduct t=> exact uE
 |atom=>
  simp only[step]at h⊢;split at h;·exact h
  ·
   split at h;·exact h
   ·exact h
   ·exact h
   ·
    split at h;·rename_i c;rw[if_pos c];exact h
    ·
     rename_i c;rw[if_neg c];split at h;·rename_i c;rw[if_pos c];exact h
     ·rename_i c;rw[if_neg c];exact Eb
theorem qG:∀(f:Nat)(g:Gl)(n:Nat)(r:Re),parse K l e f g n=some r→parse K l e (f+1) g n=some r
 |0,_,_,_,h=>by cases h
 |f+1,g,n,r,h=>CC (qG f) g n r h
theorem ee{f f':Nat}(h:f≤f'){g:Gl}{n:Nat}{r:Re}(hp:parse K l e f g n=some r):parse K l e f' g n=some r:=by
 induction h with
 |refl=>exact hp
 |step _ ih=>exact qG _ _ _ _ ih
theorem CD{f f':Nat}{g:Gl}{n:Nat}{r r':Re}(h:parse K l e f g n=some r)(h':parse K l e f' g n=some r'):r=r':=by have h1:=ee (Nat.le_max_left f f') h;rw[ee (Nat.le_max_right f f') h']at h1;injection h1 with h1;exact h1.symm
theorem fC{o:Option Re}{k:List Tm→Nat→Option Re}{ts:List Tm}{n:Nat}(h:andThen o k=some (.ok ts n)):∃us m,o=some (.ok us m)∧k us m=some (.ok ts n):=by
 cases o with
 |none=>cases h
 |some x=>
   cases x with
   |ok us m=>exact⟨us,m,rfl,h⟩
   |bad p=>cases h
theorem mA{P:Prop}(h:P:=by obtain⟨us,k,h1,h2⟩:=fC h;have:=hr _ _ _ _ h1;have:=hr _ _ _ _ h2;omega):P:=h
theorem yJ{P:Prop}(h:P:=by obtain⟨us,k,h1,h2⟩:=fC h;have:=hr _ _ _ _ h1;injection h2 with h2;injection h2 with _ h2;omega):P:=h
theorem Ec{P:Prop}(h:P:=by
 obtain⟨us,k,h1,h2⟩:=fC h;have:=hr _ _ _ _ h1;split at h2;·obtain⟨us,k,h3,h4⟩:=fC h2;have:=hr _ _ _ _ h3;injection h4 with h4;injection h4 with _ h4;omega
 ·cases h2):P:=h
theorem Ed{P:Prop}(h:P:=by
 simp only[step]at h;split at h;· exact mA
 ·injection h with h;injection h with _ h;omega):P:=h
theorem Hg{rec:Gl→Nat→Option Re}(hr:∀g n ts m,rec g n=some (.ok ts m)→n≤m)(g:Gl)(n:Nat)(ts:List Tm)(m:Nat)(h:step K l e rec g n=some (.ok ts m)):n≤m:=by
 cases g with
 |several o=> exact mA
 |more o acc=>
  by_cases c:isW l n (if o then JI else v_)=true;·rw[step,if_pos c]at h;exact mA
  ·rw[step,if_neg c]at h;injection h with h;injection h with _ h;omega
 |unit=>
  simp only[step]at h;split at h;· exact yJ
  ·
   split at h;·
    split at h;·cases h
    ·
     split at h;· exact Ec
     ·cases h
   ·
    split at h;·
     obtain⟨us,k,h1,h2⟩:=fC h;have:=hr _ _ _ _ h1;split at h2;·injection h2 with h2;injection h2 with _ h2;omega
     ·cases h2
    ·
     split at h;· exact yJ
     · exact Ec
 |args=>
  simp only[step]at h;split at h;· exact mA
  ·cases h
 |moreArgs acc=>
  simp only[step]at h;split at h;· exact mA
  ·
   split at h;·injection h with h;injection h with _ h;omega
   ·cases h
 |term=> exact mA
 |moreTerm t=> exact Ed
 |product=> exact mA
 |moreProduct t=> exact Ed
 |atom=>
  simp only[step]at h;split at h;·cases h
  ·
   split at h;·injection h with h;injection h with _ h;omega
   ·injection h with h;injection h with _ h;omega
   ·cases h
   ·
    split at h;·injection h with h;injection h with _ h;omega
    ·
     split at h;·injection h with h;injection h with _ h;omega
     ·
      split at h;· exact yJ
      ·
       split at h;·injection h with h;injection h with _ h;omega
       ·cases h
theorem ey:∀(f:Nat)(g:Gl)(n:Nat)(ts:List Tm)(m:Nat),parse K l e f g n=some (.ok ts m)→n≤m
 |0,_,_,_,_,h=>by cases h
 |f+1,g,n,ts,m,h=>Hg (ey f) g n ts m h
def Ee(K:dL)(l:List Wd)(e:Nat)(g:Gl)(n:Nat):Prop:=∃f r,parse K l e f g n=some r
theorem cT{g:Gl}{n:Nat}{k:Nat→List Tm→Nat→Option Re}(h:Ee K l e g n)(hm:∀f f' ts m r,f≤f'→k f ts m=some r→k f' ts m=some r)(hk:∀ts m,n≤m→∃f r,k f ts m=some r):∃f r,andThen (parse K l e f g n) (k f)=some r:=by
 obtain⟨f,r,h1⟩:=h;cases r with
 |bad p=>
  exact⟨f,.bad p,by rw[h1];rfl⟩
 |ok ts m=>
  obtain⟨f2,r2,h2⟩:=hk ts m (ey _ _ _ _ _ h1);exact⟨max f f2,r2,by rw[ee (Nat.le_max_left f f2) h1];exact hm _ _ _ _ _ (Nat.le_max_right f f2) h2⟩
def fD:Gl→Nat
 |.several true=>7
 |.several false=>6
 |.unit=>5
 |.term=>4
 |.product=>3
 |.atom=>2
 |.args=>1
 |_=>0
theorem Ef{g:Gl}{n:Nat}(h:∃f r,step K l e (parse K l e f) g n=some r):Ee K l e g n:=by obtain⟨f,r,h⟩:=h;exact⟨f+1,r,h⟩
theorem Ol:∀(R:Nat)(g:Gl)(n:Nat),(l.length-n)*8+fD g<R→Ee K l e g n:=by
 intro R;induction R with
 |zero=>intro g n h;exact absurd h (aH _)
 |succ R ih=>
   intro g n h;refine Ef ?_;cases g with
   |several o=>
    refine cT (k:=fun f ts n1=>parse K l e f (.more o ts) n1) (ih _ _ ?_) (fun _ _ _ _ _ h=>ee h) (fun ts m hm=>ih _ _ ?_);·
     cases o;·show _+5<_;have:fD (.several false)=6:=rfl;omega
     ·show _+6<_;have:fD (.several true)=7:=rfl;omega
    ·
     have h2:fD (.more o ts)=0:=rfl;have h3:6≤fD (.several o):=by cases o<;>decide
     omega
   |more o acc=>
    by_cases c:isW l n (if o then JI else v_)=true;·
     have hl:=du c;have hz:fD (.more o acc)=0:=rfl;have:=cT (K:=K) (l:=l) (e:=e) (g:=if o then .several false else .unit) (n:=n+1) (k:=fun f ts n1=>parse K l e f (.more o (acc++ts)) n1) (ih _ _ (by
      have:fD (if o then Gl.several false else Gl.unit)≤6:=by cases o<;>decide
      omega)) (fun _ _ _ _ _ h=>ee h) (fun ts m hm=>ih _ _ (by have:fD (.more o (acc++ts))=0:=rfl;omega));obtain⟨f,r,h1⟩:=this;exact⟨f,r,by rw[step,if_pos c];exact h1⟩
    ·exact⟨0,_,by rw[step,if_neg c]⟩
   |unit=>
     have hu:fD .unit=5:=rfl;have ht:fD .term=4:=rfl;have ha:fD .args=1:=rfl;have hs:fD (.several true)=7:=rfl;by_cases c1:isW l n sNot=true;·
      have hl:=du c1;obtain⟨f,r,h1⟩:=cT (K:=K) (l:=l) (e:=e) (g:=.unit) (n:=n+1) (k:=fun _ ts n1=>some (.ok [.mk 12 ByteArray.empty 0 ts] n1)) (ih _ _ (by omega)) (fun _ _ _ _ _ _ h=>h) (fun ts m hm=>⟨0,_,rfl⟩);exact⟨f,r,by rw[step,if_pos c1];exact h1⟩
     by_cases c2:(isW l n sAll||isW l n i_)=true;·
      cases hx:nameAt K l (n+1)with
      |none=>exact⟨0,_,by rw[step,if_neg c1,if_pos c2,hx]⟩
      |some x=>
       by_cases c3:isW l (n+2) qp=true;·
        have hl:=du c3;obtain⟨f,r,h1⟩:=cT (K:=K) (l:=l) (e:=e) (g:=.term) (n:=n+3) (k:=fun f ts n1=>if isW l n1 fB then andThen (parse K l e f .unit (n1+1)) fun us n2=>some (.ok [.mk (if isW l n sAll then 15 else 16) x 0 (ts++us)] n2)else some (.bad (aW l e n1))) (ih _ _ (by omega)) (fun f f' ts m r hf h=>by
         split at h;·rename_i c;rw[if_pos c];exact ck (fun _=>ee hf) (fun _ _ _ h=>h) h
         ·rename_i c;rw[if_neg c];exact h) (fun ts m hm=>by
         by_cases c:isW l m fB=true;·
          have hl2:=du c;obtain⟨f,r,h1⟩:=cT (K:=K) (l:=l) (e:=e) (g:=.unit) (n:=m+1) (k:=fun _ us n2=>some (.ok [.mk (if isW l n sAll then 15 else 16) x 0 (ts++us)] n2)) (ih _ _ (by omega)) (fun _ _ _ _ _ _ h=>h) (fun ts m hm=>⟨0,_,rfl⟩);exact⟨f,r,by rw[if_pos c];exact h1⟩
         ·exact⟨0,_,by rw[if_neg c]⟩);exact⟨f,r,by rw[step,if_neg c1,if_pos c2,hx];dsimp only;rw[if_pos c3];exact h1⟩
       ·exact⟨0,_,by rw[step,if_neg c1,if_pos c2,hx];dsimp only;rw[if_neg c3]⟩
     by_cases c3:isW l n dS=true;·
      have hl:=du c3;obtain⟨f,r,h1⟩:=cT (K:=K) (l:=l) (e:=e) (g:=.several true) (n:=n+1) (k:=fun _ ts n1=>if isW l n1 fS then some (.ok ts (n1+1))else some (.bad (aW l e n1))) (ih _ _ (by omega)) (fun _ _ _ _ _ _ h=>h) (fun ts m hm=>by
       by_cases c:isW l m fS=true;·exact⟨0,_,by rw[if_pos c]⟩
       ·exact⟨0,_,by rw[if_neg c]⟩);exact⟨f,r,by rw[step,if_neg c1,if_neg c2,if_pos c3];exact h1⟩
     cases hx:ik K l n with
     |some x=>
      have hl:=tu hx;obtain⟨f,r,h1⟩:=cT (K:=K) (l:=l) (e:=e) (g:=.args) (n:=n+1) (k:=fun _ ts n1=>some (.ok [.mk 11 x 0 ts] n1)) (ih _ _ (by omega)) (fun _ _ _ _ _ _ h=>h) (fun ts m hm=>⟨0,_,rfl⟩);exact⟨f,r,by rw[step,if_neg c1,if_neg c2,if_neg c3,hx];exact h1⟩
     |none=>obtain⟨f,r,h1⟩:=cT (K:=K) (l:=l) (e:=e) (g:=.term) (n:=n) (k:=fun f ts n1=>match fo K l n1 with
             |some x=>andThen (parse K l e f .term (n1+1)) fun us n2=>some (.ok [.mk 10 x 0 (ts++us)] n2)
             |none=>some (.bad (aW l e n1))) (ih _ _ (by omega)) (fun f f' ts m r hf h=>by
              split at h;·exact ck (fun _=>ee hf) (fun _ _ _ h=>h) h
              ·exact h) (fun ts m hm=>by
              cases hy:fo K l m with
              |none=>exact⟨0,_,rfl⟩
              |some y=>have hl2:=CB hy;exact cT (K:=K) (l:=l) (e:=e) (g:=.term) (n:=m+1) (k:=fun _ us n2=>some (.ok [.mk 10 y 0 (ts++us)] n2)) (ih _ _ (by omega)) (fun _ _ _ _ _ _ h=>h) (fun ts m hm=>⟨0,_,rfl⟩));exact⟨f,r,by rw[step,if_neg c1,if_neg c2,if_neg c3,hx];exact h1⟩
   |args=>
    by_cases c:isW l n dS=true;·
     have hl:=du c;have ht:fD .term=4:=rfl;have ha:fD .args=1:=rfl;obtain⟨f,r,h1⟩:=cT (K:=K) (l:=l) (e:=e) (g:=.term) (n:=n+1) (k:=fun f ts n1=>parse K l e f (.moreArgs ts) n1) (ih _ _ (by omega)) (fun _ _ _ _ _ h=>ee h) (fun ts m hm=>ih _ _ (by have:fD (.moreArgs ts)=0:=rfl;omega));exact⟨f,r,by rw[step,if_pos c];exact h1⟩
    ·exact⟨0,_,by rw[step,if_neg c]⟩
   |moreArgs acc=>
    by_cases c:isW l n ou=true;·
     have hl:=du c;have ht:fD .term=4:=rfl;obtain⟨f,r,h1⟩:=cT (K:=K) (l:=l) (e:=e) (g:=.term) (n:=n+1) (k:=fun f ts n1=>parse K l e f (.moreArgs (acc++ts)) n1) (ih _ _ (by omega)) (fun _ _ _ _ _ h=>ee h) (fun ts m hm=>ih _ _ (by have:fD (.moreArgs (acc++ts))=0:=rfl;omega));exact⟨f,r,by rw[step,if_pos c];exact h1⟩
    ·
     by_cases c2:isW l n fS=true;·exact⟨0,_,by rw[step,if_neg c,if_pos c2]⟩
     ·exact⟨0,_,by rw[step,if_neg c,if_neg c2]⟩
   |term=>have ht:fD .term=4:=rfl;have hp:fD .product=3:=rfl;exact cT (k:=fun f ts n1=>parse K l e f (.moreTerm (ts.headD default)) n1) (ih _ _ (by omega)) (fun _ _ _ _ _ h=>ee h) (fun ts m hm=>ih _ _ (by have:fD (.moreTerm (ts.headD default))=0:=rfl;omega))
   |moreTerm t=>
    by_cases c:(isW l n mi||isW l n qF)=true;·
     have hl:n<l.length:=by
      rcases Bool.or_eq_true_iff.1 c with c|c;·exact du c
      ·exact du c
     have hp:fD .product=3:=rfl;obtain⟨f,r,h1⟩:=cT (K:=K) (l:=l) (e:=e) (g:=.product) (n:=n+1) (k:=fun f ts n1=>parse K l e f (.moreTerm (.mk (if isW l n mi then 7 else 8) ByteArray.empty 0 (t::ts))) n1) (ih _ _ (by omega)) (fun _ _ _ _ _ h=>ee h) (fun ts m hm=>ih _ _ (by have:fD (.moreTerm (.mk (if isW l n mi then 7 else 8) ByteArray.empty 0 (t::ts)))=0:=rfl;omega));exact⟨f,r,by rw[step,if_pos c];exact h1⟩
    ·exact⟨0,_,by rw[step,if_neg c]⟩
   |product=>
    have ht:fD .atom=2:=rfl;have hp:fD .product=3:=rfl;exact cT (k:=fun f ts n1=>parse K l e f (.moreProduct (ts.headD default)) n1) (ih _ _ (by omega)) (fun _ _ _ _ _ h=>ee h) (fun ts m hm=>ih _ _ (by have:fD (.moreProduct (ts.headD default))=0:=rfl;omega))
   |moreProduct t=>
    by_cases c:isW l n we=true;·
     have hl:=du c;have hp:fD .atom=2:=rfl;obtain⟨f,r,h1⟩:=cT (K:=K) (l:=l) (e:=e) (g:=.atom) (n:=n+1) (k:=fun f ts n1=>parse K l e f (.moreProduct (.mk 9 ByteArray.empty 0 (t::ts))) n1) (ih _ _ (by omega)) (fun _ _ _ _ _ h=>ee h) (fun ts m hm=>ih _ _ (by have:fD (.moreProduct (.mk 9 ByteArray.empty 0 (t::ts)))=0:=rfl;omega));exact⟨f,r,by rw[step,if_pos c];exact h1⟩
    ·exact⟨0,_,by rw[step,if_neg c]⟩
   |atom=>have hz:fD .atom=2:=rfl;have ha:fD .args=1:=rfl;cases hx:l[n]? with
           |none=>exact⟨0,_,by rw[step,hx]⟩
           |some x=>
             have hl:n<l.length:=(aQ.1 hx).1;cases hk:x.kind with
             |number=>
              exact⟨0,_,by rw[step,hx];dsimp only;rw[hk]⟩
             |string=>
              exact⟨0,_,by rw[step,hx];dsimp only;rw[hk]⟩
             |sign=>exact⟨0,_,by rw[step,hx];dsimp only;rw[hk]⟩
             |letters=>
              by_cases c1:x.text=dU;·
               exact⟨0,_,by rw[step,hx];dsimp only;rw[hk];dsimp only;rw[if_pos c1]⟩
              by_cases c2:x.text=dV;·
               exact⟨0,_,by rw[step,hx];dsimp only;rw[hk];dsimp only;rw[if_neg c1,if_pos c2]⟩
              by_cases c3:K.func x.text=true;·
               obtain⟨f,r,h1⟩:=cT (K:=K) (l:=l) (e:=e) (g:=.args) (n:=n+1) (k:=fun _ ts n1=>some (.ok [.mk 6 x.text 0 ts] n1)) (ih _ _ (by omega)) (fun _ _ _ _ _ _ h=>h) (fun ts m hm=>⟨0,_,rfl⟩);exact⟨f,r,by rw[step,hx];dsimp only;rw[hk];dsimp only;rw[if_neg c1,if_neg c2,if_pos c3];exact h1⟩
              by_cases c4:K.kept x.text=false;·
               exact⟨0,_,by rw[step,hx];dsimp only;rw[hk];dsimp only;rw[if_neg c1,if_neg c2,if_neg c3,if_pos c4]⟩
              ·exact⟨0,_,by rw[step,hx];dsimp only;rw[hk];dsimp only;rw[if_neg c1,if_neg c2,if_neg c3,if_neg c4]⟩
theorem wg(K:dL)(l:List Wd)(e:Nat)(g:Gl)(n:Nat):∃f r,parse K l e f g n=some r:=Ol _ g n (aG _)
