/- Formulas, plain: the words of a text, and the tree of words. -/
namespace Go.Proofs.Fm
def byteAt (s:ByteArray) (i:Nat):Nat:=if h:i < s.size then s[i].toNat else 0
theorem byteAt_lt {s:ByteArray} {i:Nat} (h:i < s.size):byteAt s i=s[i].toNat:=dif_pos h
def rowEnd (s:ByteArray) (lo hi n:Nat):Nat:=
 if n < s.size∧lo≤byteAt s n∧byteAt s n≤hi then rowEnd s lo hi (n+1) else n
termination_by s.size - n
theorem rowEnd_go {s:ByteArray} {lo hi n:Nat} (h:n < s.size∧lo≤byteAt s n∧byteAt s n≤hi):rowEnd s lo hi n=rowEnd s lo hi (n+1):=by rw [rowEnd,if_pos h]
theorem rowEnd_end {s:ByteArray} {lo hi n:Nat} (h:¬ (n < s.size∧lo≤byteAt s n∧byteAt s n≤hi)):rowEnd s lo hi n=n:=by rw [rowEnd,if_neg h]
theorem rowEnd_ge (s:ByteArray) (lo hi n:Nat):n≤rowEnd s lo hi n:=by
 rw [rowEnd]
 split
 ·
  exact Nat.le_trans (Nat.le_succ n) (rowEnd_ge s lo hi (n+1))
 ·
  exact Nat.le_refl _
termination_by s.size - n
theorem rowEnd_le (s:ByteArray) (lo hi n:Nat) (h:n≤s.size):rowEnd s lo hi n≤s.size:=by
 rw [rowEnd]
 split
 ·
  exact rowEnd_le s lo hi (n+1) (by omega)
 ·
  exact h
termination_by s.size - n
def quoted (ok:ByteArray→Bool) (s:ByteArray) (i:Nat) (acc:ByteArray):Option (ByteArray × Nat):=
 if h:i < s.size then
  if byteAt s i=34 then (if ok acc then some (acc,i+1) else none)
  else if byteAt s i=92 then
   if h2:i+1 < s.size then
    if byteAt s (i+1)=34 ∨ byteAt s (i+1)=92 then quoted ok s (i+2) (acc.push s[i+1]) else none
   else none
  else quoted ok s (i+1) (acc.push s[i])
 else none
termination_by s.size - i
def signAt (s:ByteArray) (i:Nat):Nat:=
 let a:=byteAt s i
 let b:=byteAt s (i+1)
 if (a=61 ∨ a=33 ∨ a=60 ∨ a=62)∧b=61∧i+1 < s.size then 2
 else if a=60 ∨ a=62 ∨ a=126 ∨ a=43 ∨ a=45 ∨ a=42 ∨ a=40 ∨ a=41 ∨ a=44 ∨ a=58 then 1
 else 0
inductive Kd where
 | letters | sign | number | string
 deriving DecidableEq,Inhabited
structure Wd where
 kind:Kd
 text:ByteArray
 place:Nat
instance:Inhabited Wd:=⟨⟨.letters,ByteArray.empty,0⟩⟩
def digitsV (s:ByteArray) (i e:Nat) (v:Nat):Nat:=if h:i < e then digitsV s (i+1) e (10 * v+(byteAt s i - 48)) else v
termination_by e - i
def wordAt (ok kept:ByteArray→Bool) (s:ByteArray) (i:Nat):Option (Wd × Nat):=
 let c:=byteAt s i
 if 97≤c∧c≤122 then
  let e:=rowEnd s 97 122 i
  if 12 < e - i∧kept (s.extract i e)=false then none else some (⟨.letters,s.extract i e,i⟩,e)
 else if 48≤c∧c≤57 then
  let e:=rowEnd s 48 57 i
  if 1000000 < digitsV s i e 0 ∨ 1 < e - i∧c=48 then none else some (⟨.number,s.extract i e,i⟩,e)
 else if c=34 then
  match quoted ok s (i+1) ByteArray.empty with
  | some (t,e)=>some (⟨.string,t,i⟩,e)
  | none=>none
 else
  let n:=signAt s i
  if n=0 then none else some (⟨.sign,s.extract i (i+n),i⟩,i+n)
theorem quoted_gt (ok:ByteArray→Bool) (s:ByteArray) (i:Nat) (acc:ByteArray) {t:ByteArray} {e:Nat} (h:quoted ok s i acc=some (t,e)):i < e∧e≤s.size:=by
 rw [quoted] at h
 split at h
 ·
  rename_i hi
  split at h
  ·
   split at h
   ·
    injection h with h;injection h with _ h;omega
   ·
    cases h
  ·
   split at h
   ·
    split at h
    ·
     split at h
     ·
      have:=quoted_gt ok s (i+2) _ h;omega
     ·
      cases h
    ·
     cases h
   ·
    have:=quoted_gt ok s (i+1) _ h;omega
 ·
  cases h
termination_by s.size - i
theorem wordAt_gt (ok kept:ByteArray→Bool) (s:ByteArray) (i:Nat) (hi:i < s.size) {x:Wd} {e:Nat} (h:wordAt ok kept s i=some (x,e)):i < e∧e≤s.size:=by
 unfold wordAt at h
 simp only at h
 split at h
 ·
  rename_i hc
  split at h
  ·
   cases h
  ·
   injection h with h;injection h with _ h
   subst h
   rw [rowEnd_go ⟨hi,hc⟩]
   exact ⟨rowEnd_ge s 97 122 (i+1),rowEnd_le _ _ _ _ (by omega)⟩
 ·
  split at h
  ·
   rename_i hc
   split at h
   ·
    cases h
   ·
    injection h with h;injection h with _ h
    subst h
    rw [rowEnd_go ⟨hi,hc⟩]
    exact ⟨rowEnd_ge s 48 57 (i+1),rowEnd_le _ _ _ _ (by omega)⟩
  ·
   split at h
   ·
    split at h
    ·
     rename_i t e' hq
     injection h with h;injection h with _ h
     subst h
     have:=quoted_gt ok s (i+1) _ hq
     omega
    ·
     cases h
   ·
    split at h
    ·
     cases h
    ·
     rename_i hn
     injection h with h;injection h with _ h
     subst h
     unfold signAt at hn ⊢
     simp only at hn ⊢
     split
     ·
      omega
     ·
      split
      ·
       omega
      ·
       rename_i h1 h2;rw [if_neg h1,if_neg h2] at hn;exact absurd rfl hn
def wordsFrom (ok kept:ByteArray→Bool) (s:ByteArray) (i:Nat):Except Nat (List Wd):=
 if h:i < s.size then
  if byteAt s i=32 then wordsFrom ok kept s (i+1)
  else match hw:wordAt ok kept s i with
   | none=>.error i
   | some (x,e)=>
    have:s.size - e < s.size - i:=by have:=wordAt_gt ok kept s i h hw;omega
    (wordsFrom ok kept s e).map (x :: ·)
 else .ok []
termination_by s.size - i
inductive Tm where
 | mk (kind:Nat) (text:ByteArray) (num:Nat) (subs:List Tm)
instance:Inhabited Tm:=⟨.mk 0 ByteArray.empty 0 []⟩
inductive Gl where
 | several (or:Bool) | more (or:Bool) (acc:List Tm) | unit | args | moreArgs (acc:List Tm) | term | moreTerm (t:Tm) | product | moreProduct (t:Tm) | atom
inductive Re where
 | ok (l:List Tm) (n:Nat)
 | bad (p:Nat)
structure Lang where
 kept:ByteArray→Bool
 test:ByteArray→Bool
 func:ByteArray→Bool
 oper:ByteArray→Bool
def sOr:ByteArray:=⟨#[111,114]⟩
def sAnd:ByteArray:=⟨#[97,110,100]⟩
def sNot:ByteArray:=⟨#[110,111,116]⟩
def sAll:ByteArray:=⟨#[97,108,108]⟩
def sAny:ByteArray:=⟨#[97,110,121]⟩
def sIn:ByteArray:=⟨#[105,110]⟩
def sSource:ByteArray:=⟨#[115,111,117,114,99,101]⟩
def sTarget:ByteArray:=⟨#[116,97,114,103,101,116]⟩
def sColon:ByteArray:=⟨#[58]⟩
def sOpen:ByteArray:=⟨#[40]⟩
def sShut:ByteArray:=⟨#[41]⟩
def sComma:ByteArray:=⟨#[44]⟩
def sPlus:ByteArray:=⟨#[43]⟩
def sMinus:ByteArray:=⟨#[45]⟩
def sStar:ByteArray:=⟨#[42]⟩
def isW (l:List Wd) (n:Nat) (s:ByteArray):Bool:=match l[n]? with
 | some x=>(decide (x.kind=.letters) || decide (x.kind=.sign)) && decide (x.text=s)
 | none=>false
def placeOf (l:List Wd) (e n:Nat):Nat:=match l[n]? with
 | some x=>x.place
 | none=>e
def nameAt (K:Lang) (l:List Wd) (n:Nat):Option ByteArray:=match l[n]? with
 | some x=>if x.kind=.letters∧K.kept x.text=false then some x.text else none
 | none=>none
def testAt (K:Lang) (l:List Wd) (n:Nat):Option ByteArray:=match l[n]? with
 | some x=>if x.kind=.letters∧K.test x.text=true then some x.text else none
 | none=>none
def operAt (K:Lang) (l:List Wd) (n:Nat):Option ByteArray:=match l[n]? with
 | some x=>if (x.kind=.letters ∨ x.kind=.sign)∧K.oper x.text=true then some x.text else none
 | none=>none
theorem isW_lt {l:List Wd} {n:Nat} {s:ByteArray} (h:isW l n s=true):n < l.length:=by
 unfold isW at h
 split at h
 ·
  rename_i x hx
  exact (List.getElem?_eq_some_iff.1 hx).1
 ·
  cases h
theorem nameAt_lt {K:Lang} {l:List Wd} {n:Nat} {s:ByteArray} (h:nameAt K l n=some s):n < l.length:=by
 unfold nameAt at h
 split at h
 ·
  rename_i x hx
  exact (List.getElem?_eq_some_iff.1 hx).1
 ·
  cases h
theorem testAt_lt {K:Lang} {l:List Wd} {n:Nat} {s:ByteArray} (h:testAt K l n=some s):n < l.length:=by
 unfold testAt at h
 split at h
 ·
  rename_i x hx
  exact (List.getElem?_eq_some_iff.1 hx).1
 ·
  cases h
theorem operAt_lt {K:Lang} {l:List Wd} {n:Nat} {s:ByteArray} (h:operAt K l n=some s):n < l.length:=by
 unfold operAt at h
 split at h
 ·
  rename_i x hx
  exact (List.getElem?_eq_some_iff.1 hx).1
 ·
  cases h
def andThen (o:Option Re) (k:List Tm→Nat→Option Re):Option Re:=match o with
 | some (.ok ts n)=>k ts n
 | r=>r
@[simp] theorem andThen_ok (ts:List Tm) (n:Nat) (k:List Tm→Nat→Option Re):andThen (some (.ok ts n)) k=k ts n:=rfl
@[simp] theorem andThen_bad (p:Nat) (k:List Tm→Nat→Option Re):andThen (some (.bad p)) k=some (.bad p):=rfl
@[simp] theorem andThen_none (k:List Tm→Nat→Option Re):andThen none k=none:=rfl
def step (K:Lang) (l:List Wd) (e:Nat) (rec:Gl→Nat→Option Re):Gl→Nat→Option Re
 | .several o,n=>andThen (rec (if o then .several false else .unit) n) fun ts n1=>rec (.more o ts) n1
 | .more o acc,n=>
  if isW l n (if o then sOr else sAnd) then andThen (rec (if o then .several false else .unit) (n+1)) fun ts n1=>rec (.more o (acc ++ ts)) n1
  else some (.ok [if acc.length=1 then acc.headD default else .mk (if o then 14 else 13) ByteArray.empty 0 acc] n)
 | .unit,n=>
  if isW l n sNot then andThen (rec .unit (n+1)) fun ts n1=>some (.ok [.mk 12 ByteArray.empty 0 ts] n1)
  else if isW l n sAll || isW l n sAny then
   match nameAt K l (n+1) with
   | none=>some (.bad (placeOf l e (n+1)))
   | some x=>
    if isW l (n+2) sIn then andThen (rec .term (n+3)) fun ts n1=>
     if isW l n1 sColon then andThen (rec .unit (n1+1)) fun us n2=>some (.ok [.mk (if isW l n sAll then 15 else 16) x 0 (ts ++ us)] n2)
     else some (.bad (placeOf l e n1))
    else some (.bad (placeOf l e (n+2)))
  else if isW l n sOpen then andThen (rec (.several true) (n+1)) fun ts n1=>if isW l n1 sShut then some (.ok ts (n1+1)) else some (.bad (placeOf l e n1))
  else match testAt K l n with
   | some x=>andThen (rec .args (n+1)) fun ts n1=>some (.ok [.mk 11 x 0 ts] n1)
   | none=>andThen (rec .term n) fun ts n1=>
    match operAt K l n1 with
    | some x=>andThen (rec .term (n1+1)) fun us n2=>some (.ok [.mk 10 x 0 (ts ++ us)] n2)
    | none=>some (.bad (placeOf l e n1))
 | .args,n=>if isW l n sOpen then andThen (rec .term (n+1)) fun ts n1=>rec (.moreArgs ts) n1 else some (.bad (placeOf l e n))
 | .moreArgs acc,n=>
  if isW l n sComma then andThen (rec .term (n+1)) fun ts n1=>rec (.moreArgs (acc ++ ts)) n1
  else if isW l n sShut then some (.ok acc (n+1)) else some (.bad (placeOf l e n))
 | .term,n=>andThen (rec .product n) fun ts n1=>rec (.moreTerm (ts.headD default)) n1
 | .moreTerm t,n=>
  if isW l n sPlus || isW l n sMinus then andThen (rec .product (n+1)) fun ts n1=>rec (.moreTerm (.mk (if isW l n sPlus then 7 else 8) ByteArray.empty 0 (t :: ts))) n1
  else some (.ok [t] n)
 | .product,n=>andThen (rec .atom n) fun ts n1=>rec (.moreProduct (ts.headD default)) n1
 | .moreProduct t,n=>
  if isW l n sStar then andThen (rec .atom (n+1)) fun ts n1=>rec (.moreProduct (.mk 9 ByteArray.empty 0 (t :: ts))) n1
  else some (.ok [t] n)
 | .atom,n=>
  match l[n]? with
  | none=>some (.bad e)
  | some x=>
   match x.kind with
   | .number=>some (.ok [.mk 1 ByteArray.empty (digitsV x.text 0 x.text.size 0) []] (n+1))
   | .string=>some (.ok [.mk 2 x.text 0 []] (n+1))
   | .sign=>some (.bad x.place)
   | .letters=>
    if x.text=sSource then some (.ok [.mk 4 ByteArray.empty 0 []] (n+1))
    else if x.text=sTarget then some (.ok [.mk 5 ByteArray.empty 0 []] (n+1))
    else if K.func x.text=true then andThen (rec .args (n+1)) fun ts n1=>some (.ok [.mk 6 x.text 0 ts] n1)
    else if K.kept x.text=false then some (.ok [.mk 3 x.text 0 []] (n+1))
    else some (.bad x.place)
def parse (K:Lang) (l:List Wd) (e:Nat):Nat→Gl→Nat→Option Re
 | 0=>fun _ _=>none
 | f+1=>step K l e (parse K l e f)
variable {K:Lang} {l:List Wd} {e:Nat}
theorem andThen_mono {o o':Option Re} {k k':List Tm→Nat→Option Re} {r:Re} (h1:∀ r,o=some r→o'=some r) (h2:∀ ts n r,k ts n=some r→k' ts n=some r) (h:andThen o k=some r):andThen o' k'=some r:=by
 cases o with
 | none=>cases h
 | some x=>
  rw [h1 x rfl]
  cases x with
  | ok ts n=>exact h2 ts n r h
  | bad p=>exact h
theorem step_mono {rec rec':Gl→Nat→Option Re} (hr:∀ g n r,rec g n=some r→rec' g n=some r) (g:Gl) (n:Nat) (r:Re) (h:step K l e rec g n=some r):step K l e rec' g n=some r:=by
 cases g with
 | several o=>exact andThen_mono (hr _ _) (fun ts n1 r=>hr _ _ r) h
 | more o acc=>
  by_cases c:isW l n (if o then sOr else sAnd)=true
  ·
   rw [step,if_pos c] at h ⊢;exact andThen_mono (hr _ _) (fun ts n1 r=>hr _ _ r) h
  ·
   rw [step,if_neg c] at h ⊢;exact h
 | unit=>
  simp only [step] at h ⊢
  split at h
  ·
   rename_i c;rw [if_pos c];exact andThen_mono (hr _ _) (fun _ _ _ h=>h) h
  ·
   rename_i c;rw [if_neg c]
   split at h
   ·
    rename_i c;rw [if_pos c]
    split at h
    ·
     exact h
    ·
     split at h
     ·
      rename_i c;rw [if_pos c]
      refine andThen_mono (hr _ _) (fun ts n1 r h=>?_) h
      split at h
      ·
       rename_i c;rw [if_pos c];exact andThen_mono (hr _ _) (fun _ _ _ h=>h) h
      ·
       rename_i c;rw [if_neg c];exact h
     ·
      rename_i c;rw [if_neg c];exact h
   ·
    rename_i c;rw [if_neg c]
    split at h
    ·
     rename_i c;rw [if_pos c];exact andThen_mono (hr _ _) (fun _ _ _ h=>h) h
    ·
     rename_i c;rw [if_neg c]
     split at h
     ·
      exact andThen_mono (hr _ _) (fun _ _ _ h=>h) h
     ·
      refine andThen_mono (hr _ _) (fun ts n1 r h=>?_) h
      split at h
      ·
       exact andThen_mono (hr _ _) (fun _ _ _ h=>h) h
      ·
       exact h
 | args=>
  simp only [step] at h ⊢
  split at h
  ·
   rename_i c;rw [if_pos c];exact andThen_mono (hr _ _) (fun ts n1 r=>hr _ _ r) h
  ·
   rename_i c;rw [if_neg c];exact h
 | moreArgs acc=>
  simp only [step] at h ⊢
  split at h
  ·
   rename_i c;rw [if_pos c];exact andThen_mono (hr _ _) (fun ts n1 r=>hr _ _ r) h
  ·
   rename_i c;rw [if_neg c];exact h
 | term=>exact andThen_mono (hr _ _) (fun ts n1 r=>hr _ _ r) h
 | moreTerm t=>
  simp only [step] at h ⊢
  split at h
  ·
   rename_i c;rw [if_pos c];exact andThen_mono (hr _ _) (fun ts n1 r=>hr _ _ r) h
  ·
   rename_i c;rw [if_neg c];exact h
 | product=>exact andThen_mono (hr _ _) (fun ts n1 r=>hr _ _ r) h
 | moreProduct t=>
  simp only [step] at h ⊢
  split at h
  ·
   rename_i c;rw [if_pos c];exact andThen_mono (hr _ _) (fun ts n1 r=>hr _ _ r) h
  ·
   rename_i c;rw [if_neg c];exact h
 | atom=>
  simp only [step] at h ⊢
  split at h
  ·
   exact h
  ·
   split at h
   ·
    exact h
   ·
    exact h
   ·
    exact h
   ·
    split at h
    ·
     rename_i c;rw [if_pos c];exact h
    ·
     rename_i c;rw [if_neg c]
     split at h
     ·
      rename_i c;rw [if_pos c];exact h
     ·
      rename_i c;rw [if_neg c]
      split at h
      ·
       rename_i c;rw [if_pos c];exact andThen_mono (hr _ _) (fun _ _ _ h=>h) h
      ·
       rename_i c;rw [if_neg c];exact h
theorem parse_more:∀ (f:Nat) (g:Gl) (n:Nat) (r:Re),parse K l e f g n=some r→parse K l e (f+1) g n=some r
 | 0,_,_,_,h=>by cases h
 | f+1,g,n,r,h=>step_mono (parse_more f) g n r h
theorem parse_le {f f':Nat} (h:f≤f') {g:Gl} {n:Nat} {r:Re} (hp:parse K l e f g n=some r):parse K l e f' g n=some r:=by
 induction h with
 | refl=>exact hp
 | step _ ih=>exact parse_more _ _ _ _ ih
theorem andThen_some {o:Option Re} {k:List Tm→Nat→Option Re} {ts:List Tm} {n:Nat} (h:andThen o k=some (.ok ts n)):∃ us m,o=some (.ok us m)∧k us m=some (.ok ts n):=by
 cases o with
 | none=>cases h
 | some x=>
  cases x with
  | ok us m=>exact ⟨us,m,rfl,h⟩
  | bad p=>cases h
theorem step_ge {rec:Gl→Nat→Option Re} (hr:∀ g n ts m,rec g n=some (.ok ts m)→n≤m) (g:Gl) (n:Nat) (ts:List Tm) (m:Nat) (h:step K l e rec g n=some (.ok ts m)):n≤m:=by
 cases g with
 | several o=>
  obtain ⟨us,k,h1,h2⟩:=andThen_some h
  have:=hr _ _ _ _ h1
  have:=hr _ _ _ _ h2
  omega
 | more o acc=>
  by_cases c:isW l n (if o then sOr else sAnd)=true
  ·
   rw [step,if_pos c] at h
   obtain ⟨us,k,h1,h2⟩:=andThen_some h
   have:=hr _ _ _ _ h1
   have:=hr _ _ _ _ h2
   omega
  ·
   rw [step,if_neg c] at h
   injection h with h;injection h with _ h;omega
 | unit=>
  simp only [step] at h
  split at h
  ·
   obtain ⟨us,k,h1,h2⟩:=andThen_some h
   have:=hr _ _ _ _ h1
   injection h2 with h2;injection h2 with _ h2;omega
  ·
   split at h
   ·
    split at h
    ·
     cases h
    ·
     split at h
     ·
      obtain ⟨us,k,h1,h2⟩:=andThen_some h
      have:=hr _ _ _ _ h1
      split at h2
      ·
       obtain ⟨us,k,h3,h4⟩:=andThen_some h2
       have:=hr _ _ _ _ h3
       injection h4 with h4;injection h4 with _ h4;omega
      ·
       cases h2
     ·
      cases h
   ·
    split at h
    ·
     obtain ⟨us,k,h1,h2⟩:=andThen_some h
     have:=hr _ _ _ _ h1
     split at h2
     ·
      injection h2 with h2;injection h2 with _ h2;omega
     ·
      cases h2
    ·
     split at h
     ·
      obtain ⟨us,k,h1,h2⟩:=andThen_some h
      have:=hr _ _ _ _ h1
      injection h2 with h2;injection h2 with _ h2;omega
     ·
      obtain ⟨us,k,h1,h2⟩:=andThen_some h
      have:=hr _ _ _ _ h1
      split at h2
      ·
       obtain ⟨us,k,h3,h4⟩:=andThen_some h2
       have:=hr _ _ _ _ h3
       injection h4 with h4;injection h4 with _ h4;omega
      ·
       cases h2
 | args=>
  simp only [step] at h
  split at h
  ·
   obtain ⟨us,k,h1,h2⟩:=andThen_some h
   have:=hr _ _ _ _ h1
   have:=hr _ _ _ _ h2
   omega
  ·
   cases h
 | moreArgs acc=>
  simp only [step] at h
  split at h
  ·
   obtain ⟨us,k,h1,h2⟩:=andThen_some h
   have:=hr _ _ _ _ h1
   have:=hr _ _ _ _ h2
   omega
  ·
   split at h
   ·
    injection h with h;injection h with _ h;omega
   ·
    cases h
 | term=>
  obtain ⟨us,k,h1,h2⟩:=andThen_some h
  have:=hr _ _ _ _ h1
  have:=hr _ _ _ _ h2
  omega
 | moreTerm t=>
  simp only [step] at h
  split at h
  ·
   obtain ⟨us,k,h1,h2⟩:=andThen_some h
   have:=hr _ _ _ _ h1
   have:=hr _ _ _ _ h2
   omega
  ·
   injection h with h;injection h with _ h;omega
 | product=>
  obtain ⟨us,k,h1,h2⟩:=andThen_some h
  have:=hr _ _ _ _ h1
  have:=hr _ _ _ _ h2
  omega
 | moreProduct t=>
  simp only [step] at h
  split at h
  ·
   obtain ⟨us,k,h1,h2⟩:=andThen_some h
   have:=hr _ _ _ _ h1
   have:=hr _ _ _ _ h2
   omega
  ·
   injection h with h;injection h with _ h;omega
 | atom=>
  simp only [step] at h
  split at h
  ·
   cases h
  ·
   split at h
   ·
    injection h with h;injection h with _ h;omega
   ·
    injection h with h;injection h with _ h;omega
   ·
    cases h
   ·
    split at h
    ·
     injection h with h;injection h with _ h;omega
    ·
     split at h
     ·
      injection h with h;injection h with _ h;omega
     ·
      split at h
      ·
       obtain ⟨us,k,h1,h2⟩:=andThen_some h
       have:=hr _ _ _ _ h1
       injection h2 with h2;injection h2 with _ h2;omega
      ·
       split at h
       ·
        injection h with h;injection h with _ h;omega
       ·
        cases h
theorem parse_ge:∀ (f:Nat) (g:Gl) (n:Nat) (ts:List Tm) (m:Nat),parse K l e f g n=some (.ok ts m)→n≤m
 | 0,_,_,_,_,h=>by cases h
 | f+1,g,n,ts,m,h=>step_ge (parse_ge f) g n ts m h
def Halts (K:Lang) (l:List Wd) (e:Nat) (g:Gl) (n:Nat):Prop:=∃ f r,parse K l e f g n=some r
theorem halts_and {g:Gl} {n:Nat} {k:Nat→List Tm→Nat→Option Re} (h:Halts K l e g n) (hm:∀ f f' ts m r,f≤f'→k f ts m=some r→k f' ts m=some r) (hk:∀ ts m,n≤m→∃ f r,k f ts m=some r):
  ∃ f r,andThen (parse K l e f g n) (k f)=some r:=by
 obtain ⟨f,r,h1⟩:=h
 cases r with
 | bad p=>exact ⟨f,.bad p,by rw [h1];rfl⟩
 | ok ts m=>
  obtain ⟨f2,r2,h2⟩:=hk ts m (parse_ge _ _ _ _ _ h1)
  exact ⟨max f f2,r2,by rw [parse_le (Nat.le_max_left f f2) h1];exact hm _ _ _ _ _ (Nat.le_max_right f f2) h2⟩
def rank:Gl→Nat
 | .several true=>7
 | .several false=>6
 | .unit=>5
 | .term=>4
 | .product=>3
 | .atom=>2
 | .args=>1
 | _=>0
theorem halts_up {g:Gl} {n:Nat} (h:∃ f r,step K l e (parse K l e f) g n=some r):Halts K l e g n:=by
 obtain ⟨f,r,h⟩:=h
 exact ⟨f+1,r,h⟩
theorem halts:∀ (R:Nat) (g:Gl) (n:Nat),(l.length - n) * 8+rank g < R→Halts K l e g n:=by
 intro R
 induction R with
 | zero=>intro g n h;exact absurd h (Nat.not_lt_zero _)
 | succ R ih=>
  intro g n h
  refine halts_up ?_
  cases g with
  | several o=>
   refine halts_and (k:=fun f ts n1=>parse K l e f (.more o ts) n1) (ih _ _ ?_) (fun _ _ _ _ _ h=>parse_le h) (fun ts m hm=>ih _ _ ?_)
   ·
    cases o
    ·
     show _+5 < _;have:rank (.several false)=6:=rfl;omega
    ·
     show _+6 < _;have:rank (.several true)=7:=rfl;omega
   ·
    have h2:rank (.more o ts)=0:=rfl
    have h3:6≤rank (.several o):=by cases o <;> decide
    omega
  | more o acc=>
   by_cases c:isW l n (if o then sOr else sAnd)=true
   ·
    have hl:=isW_lt c
    have hz:rank (.more o acc)=0:=rfl
    have:=halts_and (K:=K) (l:=l) (e:=e) (g:=if o then .several false else .unit) (n:=n+1) (k:=fun f ts n1=>parse K l e f (.more o (acc ++ ts)) n1) (ih _ _ (by
     have:rank (if o then Gl.several false else Gl.unit)≤6:=by cases o <;> decide
     omega)) (fun _ _ _ _ _ h=>parse_le h) (fun ts m hm=>ih _ _ (by have:rank (.more o (acc ++ ts))=0:=rfl;omega))
    obtain ⟨f,r,h1⟩:=this
    exact ⟨f,r,by rw [step,if_pos c];exact h1⟩
   ·
    exact ⟨0,_,by rw [step,if_neg c]⟩
  | unit=>
   have hu:rank .unit=5:=rfl
   have ht:rank .term=4:=rfl
   have ha:rank .args=1:=rfl
   have hs:rank (.several true)=7:=rfl
   by_cases c1:isW l n sNot=true
   ·
    have hl:=isW_lt c1
    obtain ⟨f,r,h1⟩:=halts_and (K:=K) (l:=l) (e:=e) (g:=.unit) (n:=n+1) (k:=fun _ ts n1=>some (.ok [.mk 12 ByteArray.empty 0 ts] n1)) (ih _ _ (by omega)) (fun _ _ _ _ _ _ h=>h) (fun ts m hm=>⟨0,_,rfl⟩)
    exact ⟨f,r,by rw [step,if_pos c1];exact h1⟩
   by_cases c2:(isW l n sAll || isW l n sAny)=true
   ·
    cases hx:nameAt K l (n+1) with
    | none=>exact ⟨0,_,by rw [step,if_neg c1,if_pos c2,hx]⟩
    | some x=>
     by_cases c3:isW l (n+2) sIn=true
     ·
      have hl:=isW_lt c3
      obtain ⟨f,r,h1⟩:=halts_and (K:=K) (l:=l) (e:=e) (g:=.term) (n:=n+3) (k:=fun f ts n1=>if isW l n1 sColon then andThen (parse K l e f .unit (n1+1)) fun us n2=>some (.ok [.mk (if isW l n sAll then 15 else 16) x 0 (ts ++ us)] n2) else some (.bad (placeOf l e n1))) (ih _ _ (by omega))
       (fun f f' ts m r hf h=>by
        split at h
        ·
         rename_i c;rw [if_pos c];exact andThen_mono (fun _=>parse_le hf) (fun _ _ _ h=>h) h
        ·
         rename_i c;rw [if_neg c];exact h)
       (fun ts m hm=>by
        by_cases c:isW l m sColon=true
        ·
         have hl2:=isW_lt c
         obtain ⟨f,r,h1⟩:=halts_and (K:=K) (l:=l) (e:=e) (g:=.unit) (n:=m+1) (k:=fun _ us n2=>some (.ok [.mk (if isW l n sAll then 15 else 16) x 0 (ts ++ us)] n2)) (ih _ _ (by omega)) (fun _ _ _ _ _ _ h=>h) (fun ts m hm=>⟨0,_,rfl⟩)
         exact ⟨f,r,by rw [if_pos c];exact h1⟩
        ·
         exact ⟨0,_,by rw [if_neg c]⟩)
      exact ⟨f,r,by rw [step,if_neg c1,if_pos c2,hx];dsimp only;rw [if_pos c3];exact h1⟩
     ·
      exact ⟨0,_,by rw [step,if_neg c1,if_pos c2,hx];dsimp only;rw [if_neg c3]⟩
   by_cases c3:isW l n sOpen=true
   ·
    have hl:=isW_lt c3
    obtain ⟨f,r,h1⟩:=halts_and (K:=K) (l:=l) (e:=e) (g:=.several true) (n:=n+1) (k:=fun _ ts n1=>if isW l n1 sShut then some (.ok ts (n1+1)) else some (.bad (placeOf l e n1))) (ih _ _ (by omega)) (fun _ _ _ _ _ _ h=>h) (fun ts m hm=>by
     by_cases c:isW l m sShut=true
     ·
      exact ⟨0,_,by rw [if_pos c]⟩
     ·
      exact ⟨0,_,by rw [if_neg c]⟩)
    exact ⟨f,r,by rw [step,if_neg c1,if_neg c2,if_pos c3];exact h1⟩
   cases hx:testAt K l n with
   | some x=>
    have hl:=testAt_lt hx
    obtain ⟨f,r,h1⟩:=halts_and (K:=K) (l:=l) (e:=e) (g:=.args) (n:=n+1) (k:=fun _ ts n1=>some (.ok [.mk 11 x 0 ts] n1)) (ih _ _ (by omega)) (fun _ _ _ _ _ _ h=>h) (fun ts m hm=>⟨0,_,rfl⟩)
    exact ⟨f,r,by rw [step,if_neg c1,if_neg c2,if_neg c3,hx];exact h1⟩
   | none=>
    obtain ⟨f,r,h1⟩:=halts_and (K:=K) (l:=l) (e:=e) (g:=.term) (n:=n) (k:=fun f ts n1=>match operAt K l n1 with
      | some x=>andThen (parse K l e f .term (n1+1)) fun us n2=>some (.ok [.mk 10 x 0 (ts ++ us)] n2)
      | none=>some (.bad (placeOf l e n1))) (ih _ _ (by omega))
     (fun f f' ts m r hf h=>by
      split at h
      ·
       exact andThen_mono (fun _=>parse_le hf) (fun _ _ _ h=>h) h
      ·
       exact h)
     (fun ts m hm=>by
      cases hy:operAt K l m with
      | none=>exact ⟨0,_,rfl⟩
      | some y=>
       have hl2:=operAt_lt hy
       exact halts_and (K:=K) (l:=l) (e:=e) (g:=.term) (n:=m+1) (k:=fun _ us n2=>some (.ok [.mk 10 y 0 (ts ++ us)] n2)) (ih _ _ (by omega)) (fun _ _ _ _ _ _ h=>h) (fun ts m hm=>⟨0,_,rfl⟩))
    exact ⟨f,r,by rw [step,if_neg c1,if_neg c2,if_neg c3,hx];exact h1⟩
  | args=>
   by_cases c:isW l n sOpen=true
   ·
    have hl:=isW_lt c
    have ht:rank .term=4:=rfl
    have ha:rank .args=1:=rfl
    obtain ⟨f,r,h1⟩:=halts_and (K:=K) (l:=l) (e:=e) (g:=.term) (n:=n+1) (k:=fun f ts n1=>parse K l e f (.moreArgs ts) n1) (ih _ _ (by omega)) (fun _ _ _ _ _ h=>parse_le h) (fun ts m hm=>ih _ _ (by have:rank (.moreArgs ts)=0:=rfl;omega))
    exact ⟨f,r,by rw [step,if_pos c];exact h1⟩
   ·
    exact ⟨0,_,by rw [step,if_neg c]⟩
  | moreArgs acc=>
   by_cases c:isW l n sComma=true
   ·
    have hl:=isW_lt c
    have ht:rank .term=4:=rfl
    obtain ⟨f,r,h1⟩:=halts_and (K:=K) (l:=l) (e:=e) (g:=.term) (n:=n+1) (k:=fun f ts n1=>parse K l e f (.moreArgs (acc ++ ts)) n1) (ih _ _ (by omega)) (fun _ _ _ _ _ h=>parse_le h) (fun ts m hm=>ih _ _ (by have:rank (.moreArgs (acc ++ ts))=0:=rfl;omega))
    exact ⟨f,r,by rw [step,if_pos c];exact h1⟩
   ·
    by_cases c2:isW l n sShut=true
    ·
     exact ⟨0,_,by rw [step,if_neg c,if_pos c2]⟩
    ·
     exact ⟨0,_,by rw [step,if_neg c,if_neg c2]⟩
  | term=>
   have ht:rank .term=4:=rfl
   have hp:rank .product=3:=rfl
   exact halts_and (k:=fun f ts n1=>parse K l e f (.moreTerm (ts.headD default)) n1) (ih _ _ (by omega)) (fun _ _ _ _ _ h=>parse_le h) (fun ts m hm=>ih _ _ (by have:rank (.moreTerm (ts.headD default))=0:=rfl;omega))
  | moreTerm t=>
   by_cases c:(isW l n sPlus || isW l n sMinus)=true
   ·
    have hl:n < l.length:=by
     rcases Bool.or_eq_true_iff.1 c with c | c
     ·
      exact isW_lt c
     ·
      exact isW_lt c
    have hp:rank .product=3:=rfl
    obtain ⟨f,r,h1⟩:=halts_and (K:=K) (l:=l) (e:=e) (g:=.product) (n:=n+1) (k:=fun f ts n1=>parse K l e f (.moreTerm (.mk (if isW l n sPlus then 7 else 8) ByteArray.empty 0 (t :: ts))) n1) (ih _ _ (by omega)) (fun _ _ _ _ _ h=>parse_le h) (fun ts m hm=>ih _ _ (by have:rank (.moreTerm (.mk (if isW l n sPlus then 7 else 8) ByteArray.empty 0 (t :: ts)))=0:=rfl;omega))
    exact ⟨f,r,by rw [step,if_pos c];exact h1⟩
   ·
    exact ⟨0,_,by rw [step,if_neg c]⟩
  | product=>
   have ht:rank .atom=2:=rfl
   have hp:rank .product=3:=rfl
   exact halts_and (k:=fun f ts n1=>parse K l e f (.moreProduct (ts.headD default)) n1) (ih _ _ (by omega)) (fun _ _ _ _ _ h=>parse_le h) (fun ts m hm=>ih _ _ (by have:rank (.moreProduct (ts.headD default))=0:=rfl;omega))
  | moreProduct t=>
   by_cases c:isW l n sStar=true
   ·
    have hl:=isW_lt c
    have hp:rank .atom=2:=rfl
    obtain ⟨f,r,h1⟩:=halts_and (K:=K) (l:=l) (e:=e) (g:=.atom) (n:=n+1) (k:=fun f ts n1=>parse K l e f (.moreProduct (.mk 9 ByteArray.empty 0 (t :: ts))) n1) (ih _ _ (by omega)) (fun _ _ _ _ _ h=>parse_le h) (fun ts m hm=>ih _ _ (by have:rank (.moreProduct (.mk 9 ByteArray.empty 0 (t :: ts)))=0:=rfl;omega))
    exact ⟨f,r,by rw [step,if_pos c];exact h1⟩
   ·
    exact ⟨0,_,by rw [step,if_neg c]⟩
  | atom=>
   have hz:rank .atom=2:=rfl
   have ha:rank .args=1:=rfl
   cases hx:l[n]? with
   | none=>exact ⟨0,_,by rw [step,hx]⟩
   | some x=>
    have hl:n < l.length:=(List.getElem?_eq_some_iff.1 hx).1
    cases hk:x.kind with
    | number=>exact ⟨0,_,by rw [step,hx];dsimp only;rw [hk]⟩
    | string=>exact ⟨0,_,by rw [step,hx];dsimp only;rw [hk]⟩
    | sign=>exact ⟨0,_,by rw [step,hx];dsimp only;rw [hk]⟩
    | letters=>
     by_cases c1:x.text=sSource
     ·
      exact ⟨0,_,by rw [step,hx];dsimp only;rw [hk];dsimp only;rw [if_pos c1]⟩
     by_cases c2:x.text=sTarget
     ·
      exact ⟨0,_,by rw [step,hx];dsimp only;rw [hk];dsimp only;rw [if_neg c1,if_pos c2]⟩
     by_cases c3:K.func x.text=true
     ·
      obtain ⟨f,r,h1⟩:=halts_and (K:=K) (l:=l) (e:=e) (g:=.args) (n:=n+1) (k:=fun _ ts n1=>some (.ok [.mk 6 x.text 0 ts] n1)) (ih _ _ (by omega)) (fun _ _ _ _ _ _ h=>h) (fun ts m hm=>⟨0,_,rfl⟩)
      exact ⟨f,r,by rw [step,hx];dsimp only;rw [hk];dsimp only;rw [if_neg c1,if_neg c2,if_pos c3];exact h1⟩
     by_cases c4:K.kept x.text=false
     ·
      exact ⟨0,_,by rw [step,hx];dsimp only;rw [hk];dsimp only;rw [if_neg c1,if_neg c2,if_neg c3,if_pos c4]⟩
     ·
      exact ⟨0,_,by rw [step,hx];dsimp only;rw [hk];dsimp only;rw [if_neg c1,if_neg c2,if_neg c3,if_neg c4]⟩
theorem parse_halts (K:Lang) (l:List Wd) (e:Nat) (g:Gl) (n:Nat):∃ f r,parse K l e f g n=some r:=halts _ g n (Nat.lt_succ_self _)
end Go.Proofs.Fm
