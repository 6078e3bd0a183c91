/- Formulas, plain: the written form of a tree, as pieces; its words are parsed as that tree. -/
import Derived.Test.YthbdlnflmfchjaaGreatDoorFM1
namespace Go.Proofs.Fm
abbrev Tk:=Kd × ByteArray
def tk (w:Wd):Tk:=(w.kind,w.text)
def digs (n:Nat):List UInt8:=if n < 10 then [UInt8.ofNat (48+n)] else digs (n / 10) ++ [UInt8.ofNat (48+n % 10)]
termination_by n
decreasing_by omega
inductive Pc where
 | blank
 | word (k:Kd) (x:ByteArray)
def Pc.tk?:Pc→Option Tk
 | .blank=>none
 | .word k x=>some (k,x)
def tksOf (l:List Pc):List Tk:=l.filterMap Pc.tk?
@[simp] theorem tksOf_nil:tksOf []=[]:=rfl
@[simp] theorem tksOf_blank (l:List Pc):tksOf (.blank :: l)=tksOf l:=rfl
@[simp] theorem tksOf_word (k:Kd) (x:ByteArray) (l:List Pc):tksOf (.word k x :: l)=(k,x) :: tksOf l:=rfl
@[simp] theorem tksOf_append (a b:List Pc):tksOf (a ++ b)=tksOf a ++ tksOf b:=by unfold tksOf;rw [List.filterMap_append]
def lt (x:ByteArray):Pc:=.word .letters x
def sg (x:ByteArray):Pc:=.word .sign x
def kindOf:Tm→Nat
 | .mk k _ _ _=>k
def parens (b k:Nat):Bool:=k=14 || (k=13 && b ≠ 1)
def opKind (x:ByteArray):Kd:=if x=sIn then .letters else .sign
def sepOf (k:Nat) (x:ByteArray):List Pc:=
 if k=6 ∨ k=11 then [sg sComma,.blank]
 else if k=7 then [.blank,sg sPlus,.blank]
 else if k=8 then [.blank,sg sMinus,.blank]
 else if k=9 then [.blank,sg sStar,.blank]
 else if k=10 then [.blank,.word (opKind x) x,.blank]
 else if k=12 then []
 else if k=13 then [.blank,lt sAnd,.blank]
 else if k=14 then [.blank,lt sOr,.blank]
 else [sg sColon,.blank]
def headOf (k:Nat) (x:ByteArray) (n:Nat):List Pc:=
 if k=1 then [.word .number ⟨(digs n).toArray⟩]
 else if k=2 then [.word .string x]
 else if k=3 then [lt x]
 else if k=4 then [lt sSource]
 else if k=5 then [lt sTarget]
 else if k=6 ∨ k=11 then [lt x,sg sOpen]
 else if k=12 then [lt sNot,.blank]
 else if k=15 then [lt sAll,.blank,lt x,.blank,lt sIn,.blank]
 else if k=7 ∨ k=8 ∨ k=9 ∨ k=10 ∨ k=13 ∨ k=14 then []
 else [lt sAny,.blank,lt x,.blank,lt sIn,.blank]
def tailOf (k:Nat):List Pc:=if k=6 ∨ k=11 then [sg sShut] else []
mutual
def pcs:Tm→List Pc
 | .mk k x n subs=>headOf k x n ++ (pcsJoin (if k=14 then 1 else 2) (sepOf k x) subs ++ tailOf k)
def pcsJoin (b:Nat) (sep:List Pc):List Tm→List Pc
 | []=>[]
 | t :: ts=>(if parens b (kindOf t) then sg sOpen :: (pcs t ++ [sg sShut]) else pcs t) ++ pcsMore b sep ts
def pcsMore (b:Nat) (sep:List Pc):List Tm→List Pc
 | []=>[]
 | t :: ts=>sep ++ ((if parens b (kindOf t) then sg sOpen :: (pcs t ++ [sg sShut]) else pcs t) ++ pcsMore b sep ts)
end
def within (b:Nat) (t:Tm):List Pc:=if parens b (kindOf t) then sg sOpen :: (pcs t ++ [sg sShut]) else pcs t
theorem pcs_mk (k:Nat) (x:ByteArray) (n:Nat) (subs:List Tm):pcs (.mk k x n subs)=headOf k x n ++ (pcsJoin (if k=14 then 1 else 2) (sepOf k x) subs ++ tailOf k):=by rw [pcs]
theorem pcsJoin_nil (b:Nat) (sep:List Pc):pcsJoin b sep []=[]:=by rw [pcsJoin]
theorem pcsJoin_cons (b:Nat) (sep:List Pc) (t:Tm) (ts:List Tm):pcsJoin b sep (t :: ts)=within b t ++ pcsMore b sep ts:=by rw [pcsJoin,within]
theorem pcsMore_nil (b:Nat) (sep:List Pc):pcsMore b sep []=[]:=by rw [pcsMore]
theorem pcsMore_cons (b:Nat) (sep:List Pc) (t:Tm) (ts:List Tm):pcsMore b sep (t :: ts)=sep ++ (within b t ++ pcsMore b sep ts):=by rw [pcsMore,within]
def toks (t:Tm):List Tk:=tksOf (pcs t)
structure LangOk (K:Lang):Prop where
 not_:K.kept sNot=true
 all_:K.kept sAll=true
 any_:K.kept sAny=true
 in_:K.kept sIn=true
 or_:K.kept sOr=true
 and_:K.kept sAnd=true
 src:K.kept sSource=true
 tgt:K.kept sTarget=true
 test:∀ x,K.test x=true→K.kept x=true
 func:∀ x,K.func x=true→K.kept x=true
 apart:∀ x,K.func x=true→K.test x=true→False
 testW:∀ x,K.test x=true→x ≠ sNot∧x ≠ sAll∧x ≠ sAny∧x ≠ sOpen∧x ≠ sSource∧x ≠ sTarget
 funcW:∀ x,K.func x=true→x ≠ sNot∧x ≠ sAll∧x ≠ sAny∧x ≠ sOpen
 oper:∀ x,K.oper x=true→x ≠ sStar∧x ≠ sPlus∧x ≠ sMinus
mutual
inductive AtSh (K:Lang) (okN:Nat→Prop) (okT:ByteArray→Prop) (okV:Kd→ByteArray→Prop):Tm→Prop
 | num (n:Nat):okN n→AtSh K okN okT okV (.mk 1 ByteArray.empty n [])
 | text (x:ByteArray):okT x→AtSh K okN okT okV (.mk 2 x 0 [])
 | name (x:ByteArray):K.kept x=false→okV .letters x→AtSh K okN okT okV (.mk 3 x 0 [])
 | src:AtSh K okN okT okV (.mk 4 ByteArray.empty 0 [])
 | tgt:AtSh K okN okT okV (.mk 5 ByteArray.empty 0 [])
 | call (x:ByteArray) (t:Tm) (ts:List Tm):K.func x=true→okV .letters x→x ≠ sSource→x ≠ sTarget→TeSh K okN okT okV t→(∀ a,a ∈ ts→TeSh K okN okT okV a)→AtSh K okN okT okV (.mk 6 x 0 (t :: ts))
inductive PrSh (K:Lang) (okN:Nat→Prop) (okT:ByteArray→Prop) (okV:Kd→ByteArray→Prop):Tm→Prop
 | atom (t:Tm):AtSh K okN okT okV t→PrSh K okN okT okV t
 | mul (p a:Tm):PrSh K okN okT okV p→AtSh K okN okT okV a→PrSh K okN okT okV (.mk 9 ByteArray.empty 0 [p,a])
inductive TeSh (K:Lang) (okN:Nat→Prop) (okT:ByteArray→Prop) (okV:Kd→ByteArray→Prop):Tm→Prop
 | prod (t:Tm):PrSh K okN okT okV t→TeSh K okN okT okV t
 | add (t p:Tm):TeSh K okN okT okV t→PrSh K okN okT okV p→TeSh K okN okT okV (.mk 7 ByteArray.empty 0 [t,p])
 | sub (t p:Tm):TeSh K okN okT okV t→PrSh K okN okT okV p→TeSh K okN okT okV (.mk 8 ByteArray.empty 0 [t,p])
end
inductive FoSh (K:Lang) (okN:Nat→Prop) (okT:ByteArray→Prop) (okV:Kd→ByteArray→Prop):Tm→Prop
 | cmp (x:ByteArray) (a b:Tm):K.oper x=true→okV (opKind x) x→TeSh K okN okT okV a→TeSh K okN okT okV b→FoSh K okN okT okV (.mk 10 x 0 [a,b])
 | test (x:ByteArray) (t:Tm) (ts:List Tm):K.test x=true→okV .letters x→TeSh K okN okT okV t→(∀ a,a ∈ ts→TeSh K okN okT okV a)→FoSh K okN okT okV (.mk 11 x 0 (t :: ts))
 | not (t:Tm):FoSh K okN okT okV t→FoSh K okN okT okV (.mk 12 ByteArray.empty 0 [t])
 | and (t u:Tm) (ts:List Tm):FoSh K okN okT okV t→FoSh K okN okT okV u→(∀ a,a ∈ ts→FoSh K okN okT okV a)→FoSh K okN okT okV (.mk 13 ByteArray.empty 0 (t :: u :: ts))
 | or (t u:Tm) (ts:List Tm):FoSh K okN okT okV t→FoSh K okN okT okV u→(∀ a,a ∈ ts→FoSh K okN okT okV a)→FoSh K okN okT okV (.mk 14 ByteArray.empty 0 (t :: u :: ts))
 | each (k:Nat) (x:ByteArray) (a b:Tm):k=15 ∨ k=16→K.kept x=false→okV .letters x→TeSh K okN okT okV a→FoSh K okN okT okV b→FoSh K okN okT okV (.mk k x 0 [a,b])
section
variable {K:Lang} {okN:Nat→Prop} {okT:ByteArray→Prop} {okV:Kd→ByteArray→Prop} {l:List Wd} {e:Nat}
def Sg (l:List Wd) (n:Nat) (ts:List Tk):Prop:=(l.drop n).map tk=ts
def nx (ts:List Tk) (s:ByteArray):Bool:=match ts with
 | []=>false
 | (k,x) :: _=>(decide (k=.letters) || decide (k=.sign)) && decide (x=s)
theorem Sg.cons {n:Nat} {a:Tk} {ts:List Tk} (h:Sg l n (a :: ts)):∃ w,l[n]?=some w∧tk w=a∧Sg l (n+1) ts:=by
 unfold Sg at h ⊢
 cases hd:l.drop n with
 | nil=>rw [hd] at h;cases h
 | cons w r=>
  rw [hd] at h
  injection h with h1 h2
  have hl:l[n]?=some w:=by
   have:=congrArg (fun x=>x[0]?) hd
   simpa using this
  refine ⟨w,hl,h1,?_⟩
  rw [← h2]
  have:l.drop (n+1)=r:=by rw [← List.drop_drop,hd];rfl
  rw [this]
theorem Sg.app {n:Nat}:∀ {a b:List Tk},Sg l n (a ++ b)→Sg l (n+a.length) b:=by
 intro a b
 induction a generalizing n with
 | nil=>intro h;exact h
 | cons x a ih=>
  intro h
  obtain ⟨_,_,_,h2⟩:=Sg.cons (a:=x) (ts:=a ++ b) h
  have:=ih h2
  rw [List.length_cons,show n+(a.length+1)=n+1+a.length by omega]
  exact this
theorem isW_eq {n:Nat} {ts:List Tk} (h:Sg l n ts) (s:ByteArray):isW l n s=nx ts s:=by
 unfold isW nx
 cases ts with
 | nil=>
  unfold Sg at h
  have:l.length≤n:=by
   have h:=congrArg List.length h
   simp at h
   omega
  rw [List.getElem?_eq_none this]
 | cons a ts=>
  obtain ⟨w,h1,h2,_⟩:=h.cons
  rw [h1]
  obtain ⟨k,x⟩:=a
  injection h2 with h2 h3
  subst h2;subst h3
  rfl
def Yes (K:Lang) (l:List Wd) (e:Nat) (g:Gl) (n:Nat) (ts:List Tm) (m:Nat):Prop:=∃ f,parse K l e f g n=some (.ok ts m)
def Via (K:Lang) (l:List Wd) (e:Nat) (g:Gl) (n:Nat) (g':Gl) (n':Nat):Prop:=∀ ts m,Yes K l e g' n' ts m→Yes K l e g n ts m
theorem via_then {g g1:Gl} {n n1 m:Nat} {ts us:List Tm} {g2:List Tm→Gl}
  (hs:∀ f,step K l e (parse K l e f) g n=andThen (parse K l e f g1 n1) fun ts m=>parse K l e f (g2 ts) m)
  (h1:Yes K l e g1 n1 ts m) {k:Nat} (h2:Yes K l e (g2 ts) m us k):Yes K l e g n us k:=by
 obtain ⟨f1,h1⟩:=h1
 obtain ⟨f2,h2⟩:=h2
 refine ⟨max f1 f2+1,?_⟩
 show step K l e (parse K l e (max f1 f2)) g n=_
 rw [hs,parse_le (Nat.le_max_left f1 f2) h1,andThen_ok]
 exact parse_le (Nat.le_max_right f1 f2) h2
theorem yes_then {g g1:Gl} {n n1 m k:Nat} {ts us:List Tm} {c:List Tm→Nat→Option Re}
  (hs:∀ f,step K l e (parse K l e f) g n=andThen (parse K l e f g1 n1) c)
  (h1:Yes K l e g1 n1 ts m) (h2:c ts m=some (.ok us k)):Yes K l e g n us k:=by
 obtain ⟨f1,h1⟩:=h1
 refine ⟨f1+1,?_⟩
 show step K l e (parse K l e f1) g n=_
 rw [hs,h1,andThen_ok]
 exact h2
theorem yes_step {g:Gl} {n k:Nat} {us:List Tm} (hs:∀ f,step K l e (parse K l e f) g n=some (.ok us k)):Yes K l e g n us k:=⟨1,hs 0⟩
def endsT (ts:List Tk):Prop:=nx ts sStar=false∧nx ts sPlus=false∧nx ts sMinus=false
end
end Go.Proofs.Fm
namespace Go.Proofs.Fm
section
variable {K:Lang} {okN:Nat→Prop} {okT:ByteArray→Prop} {okV:Kd→ByteArray→Prop} {l:List Wd} {e:Nat}
def NumOk (okN:Nat→Prop):Prop:=∀ n,okN n→digitsV ⟨(digs n).toArray⟩ 0 (ByteArray.size ⟨(digs n).toArray⟩) 0=n
theorem nx_cons (k:Kd) (x:ByteArray) (ts:List Tk) (s:ByteArray):nx ((k,x) :: ts) s=((decide (k=.letters) || decide (k=.sign)) && decide (x=s)):=rfl
theorem nx_ne {k:Kd} {x:ByteArray} {ts:List Tk} {s:ByteArray} (h:x ≠ s):nx ((k,x) :: ts) s=false:=by rw [nx_cons,decide_eq_false h,Bool.and_false]
theorem nx_lt (s:ByteArray) (ts:List Tk):nx ((.letters,s) :: ts) s=true:=by rw [nx_cons];simp
theorem nx_sg (s:ByteArray) (ts:List Tk):nx ((.sign,s) :: ts) s=true:=by rw [nx_cons];simp
def AtP (K:Lang) (l:List Wd) (e:Nat) (t:Tm):Prop:=∀ n rest,Sg l n (toks t ++ rest)→Yes K l e .atom n [t] (n+(toks t).length)
def PrP (K:Lang) (l:List Wd) (e:Nat) (t:Tm):Prop:=∀ n rest,Sg l n (toks t ++ rest)→Via K l e .product n (.moreProduct t) (n+(toks t).length)
def TeP (K:Lang) (l:List Wd) (e:Nat) (t:Tm):Prop:=∀ n rest,Sg l n (toks t ++ rest)→nx rest sStar=false→Via K l e .term n (.moreTerm t) (n+(toks t).length)
theorem moreProduct_end {n:Nat} {t:Tm} {rest:List Tk} (h:Sg l n rest) (hr:nx rest sStar=false):Yes K l e (.moreProduct t) n [t] n:=
 yes_step fun f=>by simp only [step];rw [isW_eq h,hr,if_neg Bool.false_ne_true]
theorem moreTerm_end {n:Nat} {t:Tm} {rest:List Tk} (h:Sg l n rest) (h1:nx rest sPlus=false) (h2:nx rest sMinus=false):Yes K l e (.moreTerm t) n [t] n:=
 yes_step fun f=>by simp only [step];rw [isW_eq h,isW_eq h,h1,h2];rfl
theorem pr_of_at {t:Tm} (h:AtP K l e t):PrP K l e t:=fun n rest hs us m hy=>by
 refine via_then (g1:=.atom) (n1:=n) (g2:=fun ts=>.moreProduct (ts.headD default)) (fun f=>rfl) (h n rest hs) ?_
 exact hy
theorem te_of_pr {t:Tm} (h:PrP K l e t):TeP K l e t:=fun n rest hs hr us m hy=>by
 refine via_then (g1:=.product) (n1:=n) (g2:=fun ts=>.moreTerm (ts.headD default)) (fun f=>rfl) (h n rest hs _ _ (moreProduct_end hs.app hr)) ?_
 exact hy
theorem term_whole {t:Tm} (h:TeP K l e t) {n:Nat} {rest:List Tk} (hs:Sg l n (toks t ++ rest)) (hr:endsT rest):Yes K l e .term n [t] (n+(toks t).length):=
 h n rest hs hr.1 _ _ (moreTerm_end hs.app hr.2.1 hr.2.2)
theorem toks_two (k:Nat) (x:ByteArray) (a b:Tm) (hk:headOf k x 0=[]) (ht:tailOf k=[]) (h1:within (if k=14 then 1 else 2) a=pcs a) (h2:within (if k=14 then 1 else 2) b=pcs b):toks (.mk k x 0 [a,b])=toks a ++ (tksOf (sepOf k x) ++ toks b):=by
 unfold toks
 rw [pcs_mk,hk,ht,pcsJoin_cons,pcsMore_cons,pcsMore_nil,h1,h2]
 simp
theorem within_term {b:Nat} {t:Tm} (h:kindOf t ≠ 13∧kindOf t ≠ 14):within b t=pcs t:=by
 unfold within parens
 rw [decide_eq_false h.2,decide_eq_false h.1]
 simp
theorem kind_ne {k:Nat} {x:ByteArray} {n:Nat} {subs:List Tm} (h:k ≠ 13∧k ≠ 14):kindOf (.mk k x n subs) ≠ 13∧kindOf (.mk k x n subs) ≠ 14:=h
theorem at_kind {t:Tm} (h:AtSh K okN okT okV t):kindOf t ≠ 13∧kindOf t ≠ 14:=by cases h <;> exact kind_ne (by decide)
theorem pr_kind {t:Tm} (h:PrSh K okN okT okV t):kindOf t ≠ 13∧kindOf t ≠ 14:=by
 cases h with
 | atom _ h=>exact at_kind h
 | mul=>exact kind_ne (by decide)
theorem te_kind {t:Tm} (h:TeSh K okN okT okV t):kindOf t ≠ 13∧kindOf t ≠ 14:=by
 cases h with
 | prod _ h=>exact pr_kind h
 | add=>exact kind_ne (by decide)
 | sub=>exact kind_ne (by decide)
theorem pr_of_mul {p a:Tm} (hp:PrP K l e p) (ha:AtP K l e a) (h1:kindOf p ≠ 13∧kindOf p ≠ 14) (h2:kindOf a ≠ 13∧kindOf a ≠ 14):PrP K l e (.mk 9 ByteArray.empty 0 [p,a]):=fun n rest hs us m hy=>by
 rw [toks_two 9 _ p a rfl rfl (within_term h1) (within_term h2)] at hs hy
 have e9:tksOf (sepOf 9 ByteArray.empty)=[(.sign,sStar)]:=rfl
 rw [e9] at hs hy
 have hs':Sg l n (toks p ++ ((.sign,sStar) :: (toks a ++ rest))):=by simpa using hs
 refine hp n _ hs' _ _ ?_
 have hs2:=hs'.app
 obtain ⟨_,_,_,hs3⟩:=hs2.cons
 refine via_then (g1:=.atom) (n1:=n+(toks p).length+1) (g2:=fun ts=>.moreProduct (.mk 9 ByteArray.empty 0 (p :: ts))) (fun f=>?_) (ha _ rest hs3) ?_
 ·
  simp only [step]
  rw [isW_eq hs2,nx_sg,if_pos rfl]
 ·
  simp only [List.length_append,List.length_cons,List.length_nil] at hy
  rw [show n+(toks p).length+1+(toks a).length=n+((toks p).length+(0+1+(toks a).length)) by omega]
  exact hy
theorem te_of_add {k:Nat} (hk:k=7 ∨ k=8) {t p:Tm} (ht:TeP K l e t) (hp:PrP K l e p) (h1:kindOf t ≠ 13∧kindOf t ≠ 14) (h2:kindOf p ≠ 13∧kindOf p ≠ 14):TeP K l e (.mk k ByteArray.empty 0 [t,p]):=fun n rest hs hr us m hy=>by
 have hk1:headOf k ByteArray.empty 0=[]:=by rcases hk with rfl | rfl <;> rfl
 have hk2:tailOf k=[]:=by rcases hk with rfl | rfl <;> rfl
 rw [toks_two k _ t p hk1 hk2 (within_term h1) (within_term h2)] at hs hy
 have e9:tksOf (sepOf k ByteArray.empty)=[(.sign,if k=7 then sPlus else sMinus)]:=by rcases hk with rfl | rfl <;> rfl
 rw [e9] at hs hy
 have hs':Sg l n (toks t ++ ((.sign,if k=7 then sPlus else sMinus) :: (toks p ++ rest))):=by simpa using hs
 refine ht n _ hs' ?_ _ _ ?_
 ·
  rcases hk with rfl | rfl
  ·
   exact nx_ne (by decide)
  ·
   exact nx_ne (by decide)
 have hs2:=hs'.app
 obtain ⟨_,_,_,hs3⟩:=hs2.cons
 refine via_then (g1:=.product) (n1:=n+(toks t).length+1) (g2:=fun ts=>.moreTerm (.mk k ByteArray.empty 0 (t :: ts))) (fun f=>?_) (hp _ rest hs3 _ _ (moreProduct_end hs3.app hr)) ?_
 ·
  simp only [step]
  rw [isW_eq hs2,isW_eq hs2]
  rcases hk with rfl | rfl
  ·
   rw [show nx ((Kd.sign,if 7=7 then sPlus else sMinus) :: (toks p ++ rest)) sPlus=true from nx_sg _ _];rfl
  ·
   rw [show nx ((Kd.sign,if 8=7 then sPlus else sMinus) :: (toks p ++ rest)) sPlus=false from nx_ne (by decide),show nx ((Kd.sign,if 8=7 then sPlus else sMinus) :: (toks p ++ rest)) sMinus=true from nx_sg _ _];rfl
 ·
  simp only [List.length_append,List.length_cons,List.length_nil] at hy
  rw [show n+(toks t).length+1+(toks p).length=n+((toks t).length+(0+1+(toks p).length)) by omega]
  exact hy
theorem moreArgs_yes {x:ByteArray}:∀ (ts:List Tm),(∀ t,t ∈ ts→TeP K l e t∧kindOf t ≠ 13∧kindOf t ≠ 14)→∀ (acc:List Tm) n rest,Sg l n (tksOf (pcsMore 2 (sepOf 6 x) ts) ++ ((.sign,sShut) :: rest)) →
  Yes K l e (.moreArgs acc) n (acc ++ ts) (n+(tksOf (pcsMore 2 (sepOf 6 x) ts)).length+1)
 | [],_,acc,n,rest,hs=>by
  rw [pcsMore_nil] at hs ⊢
  refine yes_step fun f=>?_
  simp only [step]
  have hs':Sg l n ((.sign,sShut) :: rest):=hs
  rw [isW_eq hs',isW_eq hs',nx_ne (by decide),nx_sg,List.append_nil]
  rfl
 | t :: ts,h,acc,n,rest,hs=>by
  rw [pcsMore_cons,within_term (h t (List.mem_cons_self ..)).2] at hs ⊢
  have e6:tksOf (sepOf 6 x)=[(.sign,sComma)]:=rfl
  rw [tksOf_append,tksOf_append,e6] at hs ⊢
  have hs':Sg l n ((.sign,sComma) :: (toks t ++ (tksOf (pcsMore 2 (sepOf 6 x) ts) ++ ((.sign,sShut) :: rest)))):=by simpa [toks] using hs
  obtain ⟨_,_,_,hs2⟩:=hs'.cons
  have hend:endsT (tksOf (pcsMore 2 (sepOf 6 x) ts) ++ ((.sign,sShut) :: rest)):=by
   cases ts with
   | nil=>rw [pcsMore_nil];exact ⟨nx_ne (by decide),nx_ne (by decide),nx_ne (by decide)⟩
   | cons u us=>
    rw [pcsMore_cons,tksOf_append,e6]
    exact ⟨nx_ne (by decide),nx_ne (by decide),nx_ne (by decide)⟩
  have h1:=term_whole (h t (List.mem_cons_self ..)).1 hs2 hend
  have h2:=moreArgs_yes ts (fun a ha=>h a (List.mem_cons_of_mem _ ha)) (acc ++ [t]) _ rest hs2.app
  refine via_then (g1:=.term) (n1:=n+1) (g2:=fun ts=>.moreArgs (acc ++ ts)) (fun f=>?_) h1 ?_
  ·
   simp only [step];rw [isW_eq hs',nx_sg,if_pos rfl]
  ·
   rw [List.append_assoc] at h2
   simp only [List.length_append,List.length_cons,List.length_nil]
   rw [show n+(0+1+((tksOf (pcs t)).length+(tksOf (pcsMore 2 (sepOf 6 x) ts)).length))+1=n+1+(toks t).length+(tksOf (pcsMore 2 (sepOf 6 x) ts)).length+1 by unfold toks;omega]
   exact h2
theorem args_yes {x:ByteArray} (t:Tm) (ts:List Tm) (h0:TeP K l e t∧kindOf t ≠ 13∧kindOf t ≠ 14) (h:∀ t,t ∈ ts→TeP K l e t∧kindOf t ≠ 13∧kindOf t ≠ 14) (n:Nat) (rest:List Tk)
  (hs:Sg l n ((.sign,sOpen) :: (tksOf (pcsJoin 2 (sepOf 6 x) (t :: ts)) ++ ((.sign,sShut) :: rest)))):Yes K l e .args n (t :: ts) (n+1+(tksOf (pcsJoin 2 (sepOf 6 x) (t :: ts))).length+1):=by
 rw [pcsJoin_cons,within_term h0.2,tksOf_append] at hs ⊢
 obtain ⟨_,_,_,hs2⟩:=hs.cons
 rw [List.append_assoc] at hs2
 have hend:endsT (tksOf (pcsMore 2 (sepOf 6 x) ts) ++ ((.sign,sShut) :: rest)):=by
  cases ts with
  | nil=>rw [pcsMore_nil];exact ⟨nx_ne (by decide),nx_ne (by decide),nx_ne (by decide)⟩
  | cons u us=>
   rw [pcsMore_cons,tksOf_append]
   exact ⟨nx_ne (by decide),nx_ne (by decide),nx_ne (by decide)⟩
 have h1:=term_whole (t:=t) h0.1 hs2 hend
 refine via_then (g1:=.term) (n1:=n+1) (g2:=fun ts=>.moreArgs ts) (fun f=>?_) h1 ?_
 ·
  simp only [step];rw [isW_eq hs,nx_sg,if_pos rfl]
 ·
  have h2:=moreArgs_yes (x:=x) ts h [t] _ rest (Sg.app (a:=toks t) hs2)
  rw [List.length_append,show n+1+((tksOf (pcs t)).length+(tksOf (pcsMore 2 (sepOf 6 x) ts)).length)+1=n+1+(toks t).length+(tksOf (pcsMore 2 (sepOf 6 x) ts)).length+1 by unfold toks;omega]
  exact h2
theorem sep_call (x:ByteArray):sepOf 11 x=sepOf 6 x:=rfl
theorem toks_call {k:Nat} (hk:k=6 ∨ k=11) (x:ByteArray) (subs:List Tm):toks (.mk k x 0 subs)=(.letters,x) :: (.sign,sOpen) :: (tksOf (pcsJoin 2 (sepOf 6 x) subs) ++ [(.sign,sShut)]):=by
 unfold toks
 rw [pcs_mk]
 rcases hk with rfl | rfl
 ·
  simp [headOf,tailOf,lt,sg]
 ·
  rw [sep_call];simp [headOf,tailOf,lt,sg]
theorem terms_yes (hK:LangOk K) (hN:NumOk okN):∀ (N:Nat) (t:Tm),sizeOf t < N→(AtSh K okN okT okV t→AtP K l e t)∧(PrSh K okN okT okV t→PrP K l e t)∧(TeSh K okN okT okV t→TeP K l e t)
 | 0,t,h=>absurd h (Nat.not_lt_zero _)
 | N+1,t,hN'=>by
  have ih:=terms_yes hK hN N
  have hA:AtSh K okN okT okV t→AtP K l e t:=by
   intro h n rest hs
   cases h with
   | num v hv=>
    have hs':Sg l n ((.number,⟨(digs v).toArray⟩) :: rest):=hs
    obtain ⟨w,h1,h2,_⟩:=hs'.cons
    injection h2 with h2 h3
    refine yes_step fun f=>?_
    simp only [step]
    rw [h1]
    dsimp only
    rw [h2,h3]
    dsimp only
    rw [hN v hv]
    rfl
   | text x hx=>
    have hs':Sg l n ((.string,x) :: rest):=hs
    obtain ⟨w,h1,h2,_⟩:=hs'.cons
    injection h2 with h2 h3
    refine yes_step fun f=>?_
    simp only [step]
    rw [h1]
    dsimp only
    rw [h2,h3]
    rfl
   | name x hx hv=>
    have hs':Sg l n ((.letters,x) :: rest):=hs
    obtain ⟨w,h1,h2,_⟩:=hs'.cons
    injection h2 with h2 h3
    refine yes_step fun f=>?_
    simp only [step]
    rw [h1]
    dsimp only
    rw [h2,h3]
    dsimp only
    rw [if_neg (fun e=>by rw [e,hK.src] at hx;cases hx),if_neg (fun e=>by rw [e,hK.tgt] at hx;cases hx),if_neg (fun e=>by rw [hK.func x e] at hx;cases hx),if_pos hx]
    rfl
   | src=>
    have hs':Sg l n ((.letters,sSource) :: rest):=hs
    obtain ⟨w,h1,h2,_⟩:=hs'.cons
    injection h2 with h2 h3
    refine yes_step fun f=>?_
    simp only [step]
    rw [h1]
    dsimp only
    rw [h2,h3]
    rfl
   | tgt=>
    have hs':Sg l n ((.letters,sTarget) :: rest):=hs
    obtain ⟨w,h1,h2,_⟩:=hs'.cons
    injection h2 with h2 h3
    refine yes_step fun f=>?_
    simp only [step]
    rw [h1]
    dsimp only
    rw [h2,h3]
    rfl
   | call x a ts hx hv n1 n2 ha hts=>
    rw [toks_call (.inl rfl)] at hs ⊢
    have hs':Sg l n ((.letters,x) :: ((.sign,sOpen) :: (tksOf (pcsJoin 2 (sepOf 6 x) (a :: ts)) ++ ((.sign,sShut) :: rest)))):=by simpa using hs
    obtain ⟨w,h1,h2,hs2⟩:=hs'.cons
    injection h2 with h2 h3
    have hsz:∀ b,b ∈ a :: ts→sizeOf b < N:=fun b hb=>by
     have h1:=List.sizeOf_lt_of_mem hb
     have h2:=Tm.mk.sizeOf_spec 6 x 0 (a :: ts)
     omega
    have hy:=args_yes (x:=x) a ts ⟨(ih a (hsz a (List.mem_cons_self ..))).2.2 ha,te_kind ha⟩ (fun b hb=>⟨(ih b (hsz b (List.mem_cons_of_mem _ hb))).2.2 (hts b hb),te_kind (hts b hb)⟩) (n+1) rest hs2
    refine yes_then (g1:=.args) (n1:=n+1) (c:=fun ts n1=>some (.ok [.mk 6 x 0 ts] n1)) (fun f=>?_) hy ?_
    ·
     simp only [step]
     rw [h1]
     dsimp only
     rw [h2,h3]
     dsimp only
     rw [if_neg n1,if_neg n2,if_pos hx]
    ·
     simp only [List.length_append,List.length_cons,List.length_nil]
     rw [show n+((tksOf (pcsJoin 2 (sepOf 6 x) (a :: ts))).length+(0+1)+1+1)=n+1+1+(tksOf (pcsJoin 2 (sepOf 6 x) (a :: ts))).length+1 by omega]
  have hP:PrSh K okN okT okV t→PrP K l e t:=by
   intro h
   cases h with
   | atom _ h=>exact pr_of_at (hA h)
   | mul p a hp ha=>
    have h2:sizeOf (Tm.mk 9 ByteArray.empty 0 [p,a])=1+sizeOf 9+sizeOf ByteArray.empty+sizeOf 0+sizeOf [p,a]:=rfl
    have h3:=List.sizeOf_lt_of_mem (a:=p) (as:=[p,a]) (by simp)
    have h4:=List.sizeOf_lt_of_mem (a:=a) (as:=[p,a]) (by simp)
    exact pr_of_mul ((ih p (by omega)).2.1 hp) ((ih a (by omega)).1 ha) (pr_kind hp) (at_kind ha)
  refine ⟨hA,hP,fun h=>?_⟩
  cases h with
  | prod _ h=>exact te_of_pr (hP h)
  | add t p ht hp=>
   have h2:sizeOf (Tm.mk 7 ByteArray.empty 0 [t,p])=1+sizeOf 7+sizeOf ByteArray.empty+sizeOf 0+sizeOf [t,p]:=rfl
   have h3:=List.sizeOf_lt_of_mem (a:=t) (as:=[t,p]) (by simp)
   have h4:=List.sizeOf_lt_of_mem (a:=p) (as:=[t,p]) (by simp)
   exact te_of_add (.inl rfl) ((ih t (by omega)).2.2 ht) ((ih p (by omega)).2.1 hp) (te_kind ht) (pr_kind hp)
  | sub t p ht hp=>
   have h2:sizeOf (Tm.mk 8 ByteArray.empty 0 [t,p])=1+sizeOf 8+sizeOf ByteArray.empty+sizeOf 0+sizeOf [t,p]:=rfl
   have h3:=List.sizeOf_lt_of_mem (a:=t) (as:=[t,p]) (by simp)
   have h4:=List.sizeOf_lt_of_mem (a:=p) (as:=[t,p]) (by simp)
   exact te_of_add (.inr rfl) ((ih t (by omega)).2.2 ht) ((ih p (by omega)).2.1 hp) (te_kind ht) (pr_kind hp)
theorem term_yes (hK:LangOk K) (hN:NumOk okN) {t:Tm} (h:TeSh K okN okT okV t):TeP K l e t:=(terms_yes hK hN _ t (Nat.lt_succ_self _)).2.2 h
end
end Go.Proofs.Fm
