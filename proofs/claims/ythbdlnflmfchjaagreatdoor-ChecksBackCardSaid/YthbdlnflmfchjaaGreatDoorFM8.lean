/- Formulas, plain: the written form of a formula can be read. -/
import Derived.Test.YthbdlnflmfchjaaGreatDoorFM6
namespace Go.Proofs.Fm
section
variable {K:Lang} {X:Lex} {okN:Nat→Prop} {okT:ByteArray→Prop} {okV:Kd→ByteArray→Prop}
structure WordsOk (X:Lex) (okN:Nat→Prop) (okT:ByteArray→Prop) (okV:Kd→ByteArray→Prop):Prop where
 num:∀ n,okN n→n≤1000000
 text:∀ x,okT x→X.ok x=true
 word:∀ k x,okV k x→TokOk X k x
def HeadOk (ps:List Pc):Prop:=∃ k x r,ps=.word k x :: r∧(k ≠ .sign ∨ (k=.sign∧softS x))
theorem HeadOk.app {a b:List Pc} (h:HeadOk a):HeadOk (a ++ b):=by
 obtain ⟨k,x,r,rfl,h2⟩:=h
 exact ⟨k,x,r ++ b,rfl,h2⟩
theorem HeadOk.next {a:List Pc} (h:HeadOk a):nextP .sign a:=by
 obtain ⟨k,x,r,rfl,h2⟩:=h
 rcases h2 with h2 | h2
 ·
  exact .inr ⟨rfl,h2⟩
 ·
  exact .inl h2
theorem at_head {t:Tm} (h:AtSh K okN okT okV t):HeadOk (pcs t):=by
 cases h with
 | num n=>exact ⟨_,_,_,by rw [pcs_mk];rfl,.inl (by decide)⟩
 | text x=>exact ⟨_,_,_,by rw [pcs_mk];rfl,.inl (by decide)⟩
 | name x=>exact ⟨_,_,_,by rw [pcs_mk];rfl,.inl (by decide)⟩
 | src=>exact ⟨_,_,_,by rw [pcs_mk];rfl,.inl (by decide)⟩
 | tgt=>exact ⟨_,_,_,by rw [pcs_mk];rfl,.inl (by decide)⟩
 | call=>exact ⟨_,_,_,by rw [pcs_mk];rfl,.inl (by decide)⟩
theorem pcs_two (k:Nat) (x:ByteArray) (a b:Tm) (hk:headOf k x 0=[]) (ht:tailOf k=[]) (h1:within (if k=14 then 1 else 2) a=pcs a) (h2:within (if k=14 then 1 else 2) b=pcs b):pcs (.mk k x 0 [a,b])=pcs a ++ (sepOf k x ++ pcs b):=by
 rw [pcs_mk,hk,ht,pcsJoin_cons,pcsMore_cons,pcsMore_nil,h1,h2]
 simp
theorem pr_head:∀ {t:Tm},PrSh K okN okT okV t→HeadOk (pcs t)
 | _,.atom _ h=>at_head h
 | _,.mul p a hp ha=>by
  rw [pcs_two 9 _ p a rfl rfl (within_term (pr_kind hp)) (within_term (at_kind ha))]
  exact (pr_head hp).app
theorem te_head:∀ {t:Tm},TeSh K okN okT okV t→HeadOk (pcs t)
 | _,.prod _ h=>pr_head h
 | _,.add t p ht hp=>by
  rw [pcs_two 7 _ t p rfl rfl (within_term (te_kind ht)) (within_term (pr_kind hp))]
  exact (te_head ht).app
 | _,.sub t p ht hp=>by
  rw [pcs_two 8 _ t p rfl rfl (within_term (te_kind ht)) (within_term (pr_kind hp))]
  exact (te_head ht).app
theorem within_head {b:Nat} {t:Tm} (h:HeadOk (pcs t)):HeadOk (within b t):=by
 unfold within
 split
 ·
  exact ⟨_,_,_,rfl,.inr ⟨rfl,.inl rfl⟩⟩
 ·
  exact h
theorem fo_head:∀ {t:Tm},FoSh K okN okT okV t→HeadOk (pcs t)
 | _,.cmp x a b ho hv ha hb=>by
  rw [pcs_two 10 _ a b rfl rfl (within_term (te_kind ha)) (within_term (te_kind hb))]
  exact (te_head ha).app
 | _,.test ..=>⟨_,_,_,by rw [pcs_mk];rfl,.inl (by decide)⟩
 | _,.not ..=>⟨_,_,_,by rw [pcs_mk];rfl,.inl (by decide)⟩
 | _,.and t u ts ht _ _=>by
  rw [pcs_mk,pcsJoin_cons]
  exact ((within_head (fo_head ht)).app).app
 | _,.or t u ts ht _ _=>by
  rw [pcs_mk,pcsJoin_cons]
  exact ((within_head (fo_head ht)).app).app
 | _,.each k x a b hk _ _ _ _=>by
  rw [pcs_mk]
  rcases hk with rfl | rfl
  ·
   exact ⟨_,_,_,rfl,.inl (by decide)⟩
  ·
   exact ⟨_,_,_,rfl,.inl (by decide)⟩
def LxB (X:Lex) (ps:List Pc):Prop:=∀ b,Soft b→Lx X b→Lx X (ps ++ b)
theorem soft_shut (r:List Pc):Soft (sg sShut :: r):=⟨rfl,.inr (.inl rfl)⟩
theorem tok_lt {x:ByteArray} (h1:x.size ≠ 0) (h2:∀ c ∈ bytesOf x,97≤c.toNat∧c.toNat≤122) (h3:¬ 12 < x.size):TokOk X .letters x:=⟨h1,h2,fun h=>absurd h h3⟩
theorem tok_open:TokOk X .sign sOpen:=.inl ⟨40,by unfold oneSign;decide,rfl⟩
theorem tok_shut:TokOk X .sign sShut:=.inl ⟨41,by unfold oneSign;decide,rfl⟩
theorem tok_comma:TokOk X .sign sComma:=.inl ⟨44,by unfold oneSign;decide,rfl⟩
theorem tok_colon:TokOk X .sign sColon:=.inl ⟨58,by unfold oneSign;decide,rfl⟩
theorem tok_plus:TokOk X .sign sPlus:=.inl ⟨43,by unfold oneSign;decide,rfl⟩
theorem tok_minus:TokOk X .sign sMinus:=.inl ⟨45,by unfold oneSign;decide,rfl⟩
theorem tok_star:TokOk X .sign sStar:=.inl ⟨42,by unfold oneSign;decide,rfl⟩
theorem lx_shut {b:List Pc} (hb:Soft b) (h:Lx X b):Lx X (sg sShut :: b):=.word _ _ _ tok_shut (hb.next _) h
theorem lx_mid {k:Kd} {x:ByteArray} {r:List Pc} (h:TokOk X k x) (hr:Lx X r):Lx X (.blank :: .word k x :: .blank :: r):=.blank _ (.word _ _ _ h trivial (.blank _ hr))
theorem lx_two {k:Nat} {x:ByteArray} {a b:Tm} {kd:Kd} {y:ByteArray} (he:pcs (.mk k x 0 [a,b])=pcs a ++ ([.blank,.word kd y,.blank] ++ pcs b)) (hw:TokOk X kd y) (ha:LxB X (pcs a)) (hb:LxB X (pcs b)):LxB X (pcs (.mk k x 0 [a,b])):=fun c hc hl=>by
 rw [he,List.append_assoc,List.append_assoc]
 exact ha _ trivial (lx_mid hw (hb c hc hl))
theorem lx_more {k:Nat} {x:ByteArray} (hk:k=6 ∨ k=11):∀ (ts:List Tm),(∀ t ∈ ts,LxB X (pcs t)∧kindOf t ≠ 13∧kindOf t ≠ 14)→∀ b,Soft b→Lx X b→Soft (pcsMore 2 (sepOf k x) ts ++ b)∧Lx X (pcsMore 2 (sepOf k x) ts ++ b)
 | [],_,b,hs,hb=>by rw [pcsMore_nil];exact ⟨hs,hb⟩
 | t :: ts,h,b,hs,hb=>by
  have hsep:sepOf k x=[sg sComma,.blank]:=by rcases hk with rfl | rfl <;> rfl
  have ih:=lx_more hk (x:=x) ts (fun a ha=>h a (List.mem_cons_of_mem _ ha)) b hs hb
  have ht:=h t (List.mem_cons_self ..)
  rw [pcsMore_cons,within_term ht.2,List.append_assoc,List.append_assoc]
  rw [hsep] at ih ⊢
  exact ⟨⟨rfl,.inr (.inr (.inl rfl))⟩,.word _ _ _ tok_comma trivial (.blank _ (ht.1 _ ih.1 ih.2))⟩
theorem lx_call {k:Nat} {x:ByteArray} (hk:k=6 ∨ k=11) (hx:TokOk X .letters x) (t:Tm) (ts:List Tm) (h0:HeadOk (pcs t)) (h1:LxB X (pcs t)∧kindOf t ≠ 13∧kindOf t ≠ 14) (h:∀ t ∈ ts,LxB X (pcs t)∧kindOf t ≠ 13∧kindOf t ≠ 14):LxB X (pcs (.mk k x 0 (t :: ts))):=fun b hs hb=>by
 have e:pcs (.mk k x 0 (t :: ts))=lt x :: sg sOpen :: (pcs t ++ (pcsMore 2 (sepOf k x) ts ++ [sg sShut])):=by
  rw [pcs_mk,pcsJoin_cons]
  rcases hk with rfl | rfl
  ·
   rw [show (if 6=14 then 1 else 2)=2 from rfl,within_term h1.2];simp [headOf,tailOf]
  ·
   rw [show (if 11=14 then 1 else 2)=2 from rfl,within_term h1.2];simp [headOf,tailOf]
 have h2:=lx_more hk (x:=x) ts h (sg sShut :: b) (soft_shut b) (lx_shut hs hb)
 have h3:=h1.1 _ h2.1 h2.2
 rw [e]
 have e2:lt x :: sg sOpen :: (pcs t ++ (pcsMore 2 (sepOf k x) ts ++ [sg sShut])) ++ b=lt x :: sg sOpen :: (pcs t ++ (pcsMore 2 (sepOf k x) ts ++ (sg sShut :: b))):=by simp
 rw [e2]
 exact .word _ _ _ hx (.inl ⟨rfl,.inl rfl⟩) (.word _ _ _ tok_open (h0.app.next) h3)
theorem lx_terms (hW:WordsOk X okN okT okV):∀ (N:Nat) (t:Tm),sizeOf t < N→(AtSh K okN okT okV t→LxB X (pcs t))∧(PrSh K okN okT okV t→LxB X (pcs t))∧(TeSh K okN okT okV t→LxB X (pcs t))
 | 0,t,h=>absurd h (Nat.not_lt_zero _)
 | N+1,t,hN=>by
  have ih:=lx_terms hW N
  have one:∀ (k:Nat) (x:ByteArray) (n:Nat) (kd:Kd) (y:ByteArray),pcs (.mk k x n [])=[.word kd y]→TokOk X kd y→LxB X (pcs (.mk k x n [])):=fun k x n kd y he hw b hs hb=>by
   rw [he]
   exact .word _ _ _ hw (hs.next _) hb
  have hA:AtSh K okN okT okV t→LxB X (pcs t):=by
   intro h
   cases h with
   | num n hn=>exact one 1 _ n .number _ (by rw [pcs_mk];rfl) ⟨n,hW.num n hn,rfl⟩
   | text x hx=>exact one 2 x 0 .string x (by rw [pcs_mk];rfl) (hW.text x hx)
   | name x _ hv=>exact one 3 x 0 .letters x (by rw [pcs_mk];rfl) (hW.word _ x hv)
   | src=>exact one 4 _ 0 .letters sSource (by rw [pcs_mk];rfl) (tok_lt (by decide) (by decide) (by decide))
   | tgt=>exact one 5 _ 0 .letters sTarget (by rw [pcs_mk];rfl) (tok_lt (by decide) (by decide) (by decide))
   | call x a ts hx hv n1 n2 ha hts=>
    have hsz:∀ b,b ∈ a :: ts→sizeOf b < N:=fun b hb=>by
     have h1:=List.sizeOf_lt_of_mem hb
     have h2:=Tm.mk.sizeOf_spec 6 x 0 (a :: ts)
     omega
    exact lx_call (.inl rfl) (hW.word _ x hv) a ts (te_head ha) ⟨(ih a (hsz a (List.mem_cons_self ..))).2.2 ha,te_kind ha⟩ (fun b hb=>⟨(ih b (hsz b (List.mem_cons_of_mem _ hb))).2.2 (hts b hb),te_kind (hts b hb)⟩)
  have hP:PrSh K okN okT okV t→LxB X (pcs t):=by
   intro h
   cases h with
   | atom _ h=>exact hA h
   | mul p a hp ha=>
    have h2:=Tm.mk.sizeOf_spec 9 ByteArray.empty 0 [p,a]
    have h3:=List.sizeOf_lt_of_mem (a:=p) (as:=[p,a]) (by simp)
    have h4:=List.sizeOf_lt_of_mem (a:=a) (as:=[p,a]) (by simp)
    exact lx_two (pcs_two 9 _ p a rfl rfl (within_term (pr_kind hp)) (within_term (at_kind ha))) tok_star ((ih p (by omega)).2.1 hp) ((ih a (by omega)).1 ha)
  refine ⟨hA,hP,fun h=>?_⟩
  cases h with
  | prod _ h=>exact hP h
  | add t p ht hp=>
   have h2:=Tm.mk.sizeOf_spec 7 ByteArray.empty 0 [t,p]
   have h3:=List.sizeOf_lt_of_mem (a:=t) (as:=[t,p]) (by simp)
   have h4:=List.sizeOf_lt_of_mem (a:=p) (as:=[t,p]) (by simp)
   exact lx_two (pcs_two 7 _ t p rfl rfl (within_term (te_kind ht)) (within_term (pr_kind hp))) tok_plus ((ih t (by omega)).2.2 ht) ((ih p (by omega)).2.1 hp)
  | sub t p ht hp=>
   have h2:=Tm.mk.sizeOf_spec 8 ByteArray.empty 0 [t,p]
   have h3:=List.sizeOf_lt_of_mem (a:=t) (as:=[t,p]) (by simp)
   have h4:=List.sizeOf_lt_of_mem (a:=p) (as:=[t,p]) (by simp)
   exact lx_two (pcs_two 8 _ t p rfl rfl (within_term (te_kind ht)) (within_term (pr_kind hp))) tok_minus ((ih t (by omega)).2.2 ht) ((ih p (by omega)).2.1 hp)
theorem lx_term (hW:WordsOk X okN okT okV) {t:Tm} (h:TeSh K okN okT okV t):LxB X (pcs t):=(lx_terms hW _ t (Nat.lt_succ_self _)).2.2 h
theorem lx_within {b:Nat} {t:Tm} (h0:HeadOk (pcs t)) (h:LxB X (pcs t)):LxB X (within b t):=fun c hc hl=>by
 unfold within
 split
 ·
  have e:sg sOpen :: (pcs t ++ [sg sShut]) ++ c=sg sOpen :: (pcs t ++ (sg sShut :: c)):=by simp
  rw [e]
  exact .word _ _ _ tok_open h0.app.next (h _ (soft_shut c) (lx_shut hc hl))
 ·
  exact h c hc hl
theorem lx_joined {b:Nat} {x:ByteArray} (hx:TokOk X .letters x):∀ (ts:List Tm),(∀ t ∈ ts,LxB X (within b t))→∀ c,Soft c→Lx X c→Soft (pcsMore b [.blank,lt x,.blank] ts ++ c)∧Lx X (pcsMore b [.blank,lt x,.blank] ts ++ c)
 | [],_,c,hs,hb=>by rw [pcsMore_nil];exact ⟨hs,hb⟩
 | t :: ts,h,c,hs,hb=>by
  have ih:=lx_joined hx ts (fun a ha=>h a (List.mem_cons_of_mem _ ha)) c hs hb
  rw [pcsMore_cons,List.append_assoc,List.append_assoc]
  exact ⟨trivial,lx_mid hx (h t (List.mem_cons_self ..) _ ih.1 ih.2)⟩
theorem lx_form (hW:WordsOk X okN okT okV):∀ (N:Nat) (t:Tm),sizeOf t < N→FoSh K okN okT okV t→LxB X (pcs t)
 | 0,t,h,_=>absurd h (Nat.not_lt_zero _)
 | N+1,t,hN,h=>by
  have ih:=lx_form hW N
  cases h with
  | cmp x a b ho hv ha hb=>exact lx_two (pcs_two 10 _ a b rfl rfl (within_term (te_kind ha)) (within_term (te_kind hb))) (hW.word _ x hv) (lx_term hW ha) (lx_term hW hb)
  | test x a ts ht hv ha hts=>exact lx_call (.inr rfl) (hW.word _ x hv) a ts (te_head ha) ⟨lx_term hW ha,te_kind ha⟩ (fun b hb=>⟨lx_term hW (hts b hb),te_kind (hts b hb)⟩)
  | not a ha=>
   have h2:=Tm.mk.sizeOf_spec 12 ByteArray.empty 0 [a]
   have h3:=List.sizeOf_lt_of_mem (a:=a) (as:=[a]) (by simp)
   intro c hc hl
   have e:pcs (.mk 12 ByteArray.empty 0 [a])=lt sNot :: .blank :: within 2 a:=by
    rw [pcs_mk,pcsJoin_cons,pcsMore_nil]
    simp [headOf,tailOf]
   rw [e]
   exact .word _ _ _ (tok_lt (by decide) (by decide) (by decide)) trivial (.blank _ (lx_within (fo_head ha) (ih a (by omega) ha) c hc hl))
  | and a u ts ha hu hts=>
   have hall:∀ b,b ∈ a :: u :: ts→LxB X (within 2 b):=fun b hb=>by
    have h1:=List.sizeOf_lt_of_mem hb
    have h2:=Tm.mk.sizeOf_spec 13 ByteArray.empty 0 (a :: u :: ts)
    have h3:FoSh K okN okT okV b:=by
     rcases List.mem_cons.1 hb with rfl | hb
     ·
      exact ha
     ·
      rcases List.mem_cons.1 hb with rfl | hb
      ·
       exact hu
      ·
       exact hts b hb
    exact lx_within (fo_head h3) (ih b (by omega) h3)
   intro c hc hl
   have e:pcs (.mk 13 ByteArray.empty 0 (a :: u :: ts))=within 2 a ++ pcsMore 2 [.blank,lt sAnd,.blank] (u :: ts):=by
    rw [pcs_mk,pcsJoin_cons]
    simp [headOf,tailOf,sepOf]
   have h4:=lx_joined (X:=X) (b:=2) (x:=sAnd) (tok_lt (by decide) (by decide) (by decide)) (u :: ts) (fun b hb=>hall b (List.mem_cons_of_mem _ hb)) c hc hl
   rw [e,List.append_assoc]
   exact hall a (List.mem_cons_self ..) _ h4.1 h4.2
  | or a u ts ha hu hts=>
   have hall:∀ b,b ∈ a :: u :: ts→LxB X (within 1 b):=fun b hb=>by
    have h1:=List.sizeOf_lt_of_mem hb
    have h2:=Tm.mk.sizeOf_spec 14 ByteArray.empty 0 (a :: u :: ts)
    have h3:FoSh K okN okT okV b:=by
     rcases List.mem_cons.1 hb with rfl | hb
     ·
      exact ha
     ·
      rcases List.mem_cons.1 hb with rfl | hb
      ·
       exact hu
      ·
       exact hts b hb
    exact lx_within (fo_head h3) (ih b (by omega) h3)
   intro c hc hl
   have e:pcs (.mk 14 ByteArray.empty 0 (a :: u :: ts))=within 1 a ++ pcsMore 1 [.blank,lt sOr,.blank] (u :: ts):=by
    rw [pcs_mk,pcsJoin_cons]
    simp [headOf,tailOf,sepOf]
   have h4:=lx_joined (X:=X) (b:=1) (x:=sOr) (tok_lt (by decide) (by decide) (by decide)) (u :: ts) (fun b hb=>hall b (List.mem_cons_of_mem _ hb)) c hc hl
   rw [e,List.append_assoc]
   exact hall a (List.mem_cons_self ..) _ h4.1 h4.2
  | each k x a b hk hx hv ha hb=>
   have h2:=Tm.mk.sizeOf_spec k x 0 [a,b]
   have h3:=List.sizeOf_lt_of_mem (a:=b) (as:=[a,b]) (by simp)
   intro c hc hl
   have e:pcs (.mk k x 0 [a,b])=lt (if k=15 then sAll else sAny) :: .blank :: lt x :: .blank :: lt sIn :: .blank :: (pcs a ++ (sg sColon :: .blank :: within 2 b)):=by
    rw [pcs_mk,pcsJoin_cons,pcsMore_cons,pcsMore_nil]
    rcases hk with rfl | rfl
    ·
     rw [show (if 15=14 then 1 else 2)=2 from rfl,within_term (te_kind ha)];simp [headOf,tailOf,sepOf]
    ·
     rw [show (if 16=14 then 1 else 2)=2 from rfl,within_term (te_kind ha)];simp [headOf,tailOf,sepOf]
   have h4:Lx X (sg sColon :: .blank :: (within 2 b ++ c)):=.word _ _ _ tok_colon trivial (.blank _ (lx_within (fo_head hb) (ih b (by omega) hb) c hc hl))
   have hsoft:Soft (sg sColon :: .blank :: (within 2 b ++ c)):=by unfold Soft sg;exact ⟨rfl,.inr (.inr (.inr rfl))⟩
   have h5:=lx_term hW ha _ hsoft h4
   have e2:pcs (.mk k x 0 [a,b]) ++ c=lt (if k=15 then sAll else sAny) :: .blank :: lt x :: .blank :: lt sIn :: .blank :: (pcs a ++ (sg sColon :: .blank :: (within 2 b ++ c))):=by rw [e];simp
   rw [e2]
   refine .word _ _ _ ?_ trivial (.blank _ (.word _ _ _ (hW.word _ x hv) trivial (.blank _ (.word _ _ _ (tok_lt (by decide) (by decide) (by decide)) trivial (.blank _ h5)))))
   split
   ·
    exact tok_lt (by decide) (by decide) (by decide)
   ·
    exact tok_lt (by decide) (by decide) (by decide)
theorem form_reads (hK:LangOk K) (hW:WordsOk X okN okT okV) {t:Tm} (h:FoSh K okN okT okV t) (e:Nat):
  ∃ l,wordsFrom X.ok X.kept (form t) 0=.ok l∧∃ f,parse K l e f (.several true) 0=some (.ok [t] l.length):=by
 have h1:=lx_form hW _ t (Nat.lt_succ_self _) h [] trivial .nil
 rw [List.append_nil] at h1
 obtain ⟨l,h2,h3⟩:=lex_all (s:=form t) e (pcs t) h1 [] (by unfold form;rfl)
 exact ⟨l,h2,form_parses hK (numOk _) (fun x hx=>by
  rintro rfl
  have:=(hW.word _ _ hx).2.1
  revert this
  decide) h h3⟩
end
end Go.Proofs.Fm
namespace Go.Proofs.Fm
section
variable {K:Lang} {X:Lex} {l:List Wd} {e:Nat}
def sumTo (l:List Wd) (n:Nat):Nat:=((l.take n).map fun w=>(spell w.kind w.text).length+1).sum
theorem sumTo_succ {n:Nat} {w:Wd} (h:l[n]?=some w):sumTo l (n+1)=sumTo l n+((spell w.kind w.text).length+1):=by
 unfold sumTo
 obtain ⟨hl,rfl⟩:=List.getElem?_eq_some_iff.1 h
 rw [List.take_succ_eq_append_getElem hl,List.map_append,List.sum_append_nat]
 simp
abbrev okN6:Nat→Prop:=fun n=>n≤1000000
abbrev okT6 (X:Lex):ByteArray→Prop:=fun x=>X.ok x=true
abbrev okV6 (X:Lex):Kd→ByteArray→Prop:=fun k x=>TokOk X k x
abbrev AtF (K:Lang) (X:Lex):=AtSh K okN6 (okT6 X) (okV6 X)
abbrev PrF (K:Lang) (X:Lex):=PrSh K okN6 (okT6 X) (okV6 X)
abbrev TeF (K:Lang) (X:Lex):=TeSh K okN6 (okT6 X) (okV6 X)
abbrev FoF (K:Lang) (X:Lex):=FoSh K okN6 (okT6 X) (okV6 X)
theorem words6 (X:Lex):WordsOk X okN6 (okT6 X) (okV6 X):=⟨fun _ h=>h,fun _ h=>h,fun _ _ h=>h⟩
def len (ps:List Pc):Nat:=(bytesPs ps).length
theorem len_append (a b:List Pc):len (a ++ b)=len a+len b:=by unfold len;rw [bytesPs_append,List.length_append]
theorem len_nil:len []=0:=rfl
theorem len_blank (r:List Pc):len (.blank :: r)=1+len r:=by unfold len;rw [bytesPs,bytesP,List.length_append];rfl
theorem len_word (k:Kd) (x:ByteArray) (r:List Pc):len (.word k x :: r)=(spell k x).length+len r:=by unfold len;rw [bytesPs,bytesP,List.length_append]
theorem len_lt (x:ByteArray) (r:List Pc):len (lt x :: r)=x.size+len r:=by unfold lt;rw [len_word];show (bytesOf x).length+_=_;rw [bytesOf_length]
theorem len_sg (x:ByteArray) (r:List Pc):len (sg x :: r)=x.size+len r:=by unfold sg;rw [len_word];show (bytesOf x).length+_=_;rw [bytesOf_length]
theorem len_within (b:Nat) (t:Tm):len (within b t)=if parens b (kindOf t) then len (pcs t)+2 else len (pcs t):=by
 unfold within
 split
 ·
  rw [len_sg,len_append,len_sg,len_nil]
  have h1:sOpen.size=1:=rfl
  have h2:sShut.size=1:=rfl
  rw [h1,h2]
  omega
 ·
  rfl
theorem len_12 (t:Tm):len (within 1 t)≤len (within 2 t):=by
 rw [len_within,len_within]
 unfold parens
 by_cases h14:kindOf t=14
 ·
  rw [h14];simp
 ·
  by_cases h13:kindOf t=13
  ·
   rw [h13];simp
  ·
   simp [h14,h13]
theorem len_01 (b:Nat) (t:Tm):len (pcs t)≤len (within b t):=by
 rw [len_within]
 split
 ·
  omega
 ·
  exact Nat.le_refl _
theorem isW_some {n:Nat} {s:ByteArray} (h:isW l n s=true):∃ w,l[n]?=some w∧(spell w.kind w.text).length=s.size∧w.text=s:=by
 unfold isW at h
 split at h
 ·
  rename_i w hw
  rw [Bool.and_eq_true,Bool.or_eq_true,decide_eq_true_eq,decide_eq_true_eq,decide_eq_true_eq] at h
  refine ⟨w,hw,?_,h.2⟩
  rw [← h.2,← bytesOf_length]
  unfold spell
  rw [if_neg]
  rcases h.1 with h | h <;> rw [h] <;> decide
 ·
  cases h
theorem isW_sum {n:Nat} {s:ByteArray} (h:isW l n s=true):sumTo l (n+1)=sumTo l n+(s.size+1):=by
 obtain ⟨w,h1,h2,_⟩:=isW_some h
 rw [sumTo_succ h1,h2]
theorem letters_sum {n:Nat} {w:Wd} (h:l[n]?=some w) (hk:w.kind=.letters):sumTo l (n+1)=sumTo l n+(w.text.size+1):=by
 rw [sumTo_succ h,hk,← bytesOf_length]
 rfl
def Res (K:Lang) (X:Lex) (l:List Wd) (n:Nat) (ts:List Tm) (m:Nat):Gl→Prop
 | .several true=>∃ t,ts=[t]∧FoF K X t∧len (pcs t)+1+sumTo l n≤sumTo l m
 | .several false=>∃ t,ts=[t]∧FoF K X t∧len (within 1 t)+1+sumTo l n≤sumTo l m
 | .more true acc=>acc ≠ []→(∀ a ∈ acc,FoF K X a)→∃ t,ts=[t]∧FoF K X t∧len (pcs t)+sumTo l n≤len (pcsJoin 1 (sepOf 14 ByteArray.empty) acc)+sumTo l m
 | .more false acc=>acc ≠ []→(∀ a ∈ acc,FoF K X a)→∃ t,ts=[t]∧FoF K X t∧len (within 1 t)+sumTo l n≤len (pcsJoin 2 (sepOf 13 ByteArray.empty) acc)+sumTo l m
 | .unit=>∃ t,ts=[t]∧FoF K X t∧len (within 2 t)+1+sumTo l n≤sumTo l m
 | .args=>∃ t r,ts=t :: r∧(∀ a ∈ ts,TeF K X a)∧len (pcsJoin 2 (sepOf 6 ByteArray.empty) ts)+2+1+sumTo l n≤sumTo l m
 | .moreArgs acc=>acc ≠ []→(∀ a ∈ acc,TeF K X a)→(∃ t r,ts=t :: r)∧(∀ a ∈ ts,TeF K X a)∧len (pcsJoin 2 (sepOf 6 ByteArray.empty) ts)+2+sumTo l n≤len (pcsJoin 2 (sepOf 6 ByteArray.empty) acc)+sumTo l m
 | .term=>∃ t,ts=[t]∧TeF K X t∧len (pcs t)+1+sumTo l n≤sumTo l m
 | .moreTerm t0=>TeF K X t0→∃ t,ts=[t]∧TeF K X t∧len (pcs t)+sumTo l n≤len (pcs t0)+sumTo l m
 | .product=>∃ t,ts=[t]∧PrF K X t∧len (pcs t)+1+sumTo l n≤sumTo l m
 | .moreProduct t0=>PrF K X t0→∃ t,ts=[t]∧PrF K X t∧len (pcs t)+sumTo l n≤len (pcs t0)+sumTo l m
 | .atom=>∃ t,ts=[t]∧AtF K X t∧len (pcs t)+1+sumTo l n≤sumTo l m
theorem more_app (b:Nat) (sep:List Pc):∀ (ts:List Tm) (t:Tm),pcsMore b sep (ts ++ [t])=pcsMore b sep ts ++ (sep ++ within b t)
 | [],t=>by rw [List.nil_append,pcsMore_cons,pcsMore_nil,List.append_nil,List.nil_append]
 | a :: ts,t=>by rw [List.cons_append,pcsMore_cons,pcsMore_cons,more_app b sep ts t];simp
theorem join_snoc (b:Nat) (sep:List Pc) {acc:List Tm} (h:acc ≠ []) (t:Tm):len (pcsJoin b sep (acc ++ [t]))=len (pcsJoin b sep acc)+len sep+len (within b t):=by
 cases acc with
 | nil=>exact absurd rfl h
 | cons a ts=>
  rw [List.cons_append,pcsJoin_cons,pcsJoin_cons,more_app,len_append,len_append,len_append,len_append]
  omega
theorem pcs_join (k:Nat) (acc:List Tm) (h1:headOf k ByteArray.empty 0=[]) (h2:tailOf k=[]):pcs (.mk k ByteArray.empty 0 acc)=pcsJoin (if k=14 then 1 else 2) (sepOf k ByteArray.empty) acc:=by
 rw [pcs_mk,h1,h2];simp
theorem join_one (b:Nat) (sep:List Pc) (t:Tm):pcsJoin b sep [t]=within b t:=by rw [pcsJoin_cons,pcsMore_nil,List.append_nil]
theorem all_snoc {P:Tm→Prop} {acc:List Tm} {t:Tm} (h:∀ a ∈ acc,P a) (ht:P t):∀ a ∈ acc ++ [t],P a:=fun a ha=>by
 rcases List.mem_append.1 ha with ha | ha
 ·
  exact h a ha
 ·
  obtain rfl:=List.mem_singleton.1 ha;exact ht
theorem two_len (k:Nat) (x:ByteArray) (a b:Tm) (sep:List Pc) (he:pcs (.mk k x 0 [a,b])=pcs a ++ (sep ++ pcs b)):len (pcs (.mk k x 0 [a,b]))=len (pcs a)+len sep+len (pcs b):=by
 rw [he,len_append,len_append];omega
theorem joined_fo {k:Nat} (hk:k=13 ∨ k=14) {acc:List Tm} (h0:acc ≠ []) (h:∀ a ∈ acc,FoF K X a):FoF K X (joinTm k acc):=by
 cases acc with
 | nil=>exact absurd rfl h0
 | cons a r=>
  cases r with
  | nil=>exact h a (List.mem_cons_self ..)
  | cons b r=>
   have h1:joinTm k (a :: b :: r)=.mk k ByteArray.empty 0 (a :: b :: r):=by unfold joinTm;rw [if_neg (by simp)]
   rw [h1]
   rcases hk with rfl | rfl
   ·
    exact .and a b r (h a (by simp)) (h b (by simp)) (fun c hc=>h c (by simp [hc]))
   ·
    exact .or a b r (h a (by simp)) (h b (by simp)) (fun c hc=>h c (by simp [hc]))
theorem call_len (k:Nat) (hk:k=6 ∨ k=11) (x:ByteArray) (ts:List Tm):len (pcs (.mk k x 0 ts))=x.size+2+len (pcsJoin 2 (sepOf 6 ByteArray.empty) ts):=by
 have e:pcs (.mk k x 0 ts)=lt x :: sg sOpen :: (pcsJoin 2 (sepOf 6 ByteArray.empty) ts ++ [sg sShut]):=by
  rw [pcs_mk]
  rcases hk with rfl | rfl
  ·
   simp [headOf,tailOf,sepOf]
  ·
   simp [headOf,tailOf,sepOf]
 rw [e,len_lt,len_sg,len_append,len_sg,len_nil]
 have h1:sOpen.size=1:=rfl
 have h2:sShut.size=1:=rfl
 rw [h1,h2]
 omega
theorem nameAt_some {n:Nat} {x:ByteArray} (h:nameAt K l n=some x):∃ w,l[n]?=some w∧w.kind=.letters∧w.text=x∧K.kept x=false:=by
 unfold nameAt at h
 split at h
 ·
  rename_i w hw
  split at h
  ·
   rename_i hc
   injection h with h
   subst h
   exact ⟨w,hw,hc.1,rfl,hc.2⟩
  ·
   cases h
 ·
  cases h
theorem testAt_some {n:Nat} {x:ByteArray} (h:testAt K l n=some x):∃ w,l[n]?=some w∧w.kind=.letters∧w.text=x∧K.test x=true:=by
 unfold testAt at h
 split at h
 ·
  rename_i w hw
  split at h
  ·
   rename_i hc
   injection h with h
   subst h
   exact ⟨w,hw,hc.1,rfl,hc.2⟩
  ·
   cases h
 ·
  cases h
theorem operAt_some {n:Nat} {x:ByteArray} (h:operAt K l n=some x):∃ w,l[n]?=some w∧(w.kind=.letters ∨ w.kind=.sign)∧w.text=x∧K.oper x=true:=by
 unfold operAt at h
 split at h
 ·
  rename_i w hw
  split at h
  ·
   rename_i hc
   injection h with h
   subst h
   exact ⟨w,hw,hc.1,rfl,hc.2⟩
  ·
   cases h
 ·
  cases h
theorem len_sep_and:len (sepOf 13 ByteArray.empty)=5:=by rfl
theorem len_sep_or:len (sepOf 14 ByteArray.empty)=4:=by rfl
theorem len_sep_comma:len (sepOf 6 ByteArray.empty)=2:=by rfl
theorem len_sep_bin {k:Nat} (hk:k=7 ∨ k=8 ∨ k=9):len (sepOf k ByteArray.empty)=3:=by rcases hk with rfl | rfl | rfl <;> rfl
theorem len_sep_cmp (x:ByteArray):len (sepOf 10 x)=x.size+2:=by
 have e:sepOf 10 x=[.blank,.word (opKind x) x,.blank]:=rfl
 rw [e,len_blank,len_word,len_blank,len_nil]
 have h:(spell (opKind x) x).length=x.size:=by
  unfold spell
  rw [if_neg (by unfold opKind;split <;> decide),bytesOf_length]
 rw [h]
 omega
theorem opKind_of {x:ByteArray} {k:Kd} (h:TokOk X k x) (hk:k=.letters ∨ k=.sign) (hx:k=.letters ↔ x=sIn):TokOk X (opKind x) x:=by
 unfold opKind
 split
 ·
  rename_i h1;rw [← hx.2 h1];exact h
 ·
  rename_i h1
  rcases hk with rfl | rfl
  ·
   exact absurd (hx.1 rfl) h1
  ·
   exact h
end
end Go.Proofs.Fm
