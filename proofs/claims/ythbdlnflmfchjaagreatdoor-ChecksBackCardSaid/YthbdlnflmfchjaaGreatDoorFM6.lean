/- Formulas, plain: the words of a formula are parsed as that formula. -/
import Derived.Test.YthbdlnflmfchjaaGreatDoorFM3
namespace Go.Proofs.Fm
section
variable {K:Lang} {okN:Nat→Prop} {okT:ByteArray→Prop} {okV:Kd→ByteArray→Prop} {l:List Wd} {e:Nat}
def UnP (K:Lang) (l:List Wd) (e:Nat) (t:Tm):Prop:=∀ n rest,Sg l n (tksOf (within 2 t) ++ rest)→endsT rest→Yes K l e .unit n [t] (n+(tksOf (within 2 t)).length)
def CoP (K:Lang) (l:List Wd) (e:Nat) (t:Tm):Prop:=∀ n rest,Sg l n (tksOf (within 1 t) ++ rest)→endsT rest→nx rest sAnd=false→Yes K l e (.several false) n [t] (n+(tksOf (within 1 t)).length)
def FoP (K:Lang) (l:List Wd) (e:Nat) (t:Tm):Prop:=∀ n rest,Sg l n (toks t ++ rest)→endsT rest→nx rest sAnd=false→nx rest sOr=false→Yes K l e (.several true) n [t] (n+(toks t).length)
def DiP (K:Lang) (l:List Wd) (e:Nat) (t:Tm):Prop:=∀ n rest,Sg l n (toks t ++ rest)→endsT rest→Yes K l e .unit n [t] (n+(toks t).length)
def joinTm (k:Nat) (acc:List Tm):Tm:=if acc.length=1 then acc.headD default else .mk k ByteArray.empty 0 acc
theorem step_moreF (rec:Gl→Nat→Option Re) (acc:List Tm) (n:Nat):step K l e rec (.more false acc) n=if isW l n sAnd then andThen (rec .unit (n+1)) (fun ts n1=>rec (.more false (acc ++ ts)) n1) else some (.ok [joinTm 13 acc] n):=rfl
theorem step_moreT (rec:Gl→Nat→Option Re) (acc:List Tm) (n:Nat):step K l e rec (.more true acc) n=if isW l n sOr then andThen (rec (.several false) (n+1)) (fun ts n1=>rec (.more true (acc ++ ts)) n1) else some (.ok [joinTm 14 acc] n):=rfl
theorem ends_head {k:Kd} {x:ByteArray} {ts:List Tk} (h1:x ≠ sStar) (h2:x ≠ sPlus) (h3:x ≠ sMinus):endsT ((k,x) :: ts):=⟨nx_ne h1,nx_ne h2,nx_ne h3⟩
theorem moreAnd_yes:∀ (ts:List Tm),(∀ t,t ∈ ts→UnP K l e t)→∀ (acc:List Tm) n rest,Sg l n (tksOf (pcsMore 2 (sepOf 13 ByteArray.empty) ts) ++ rest)→endsT rest→nx rest sAnd=false →
  Yes K l e (.more false acc) n [joinTm 13 (acc ++ ts)] (n+(tksOf (pcsMore 2 (sepOf 13 ByteArray.empty) ts)).length)
 | [],_,acc,n,rest,hs,h1,h2=>by
  rw [pcsMore_nil] at hs ⊢
  refine yes_step fun f=>?_
  have hs':Sg l n rest:=hs
  rw [step_moreF,isW_eq hs',h2,if_neg Bool.false_ne_true,List.append_nil]
  rfl
 | t :: ts,h,acc,n,rest,hs,h1,h2=>by
  rw [pcsMore_cons] at hs ⊢
  have e6:tksOf (sepOf 13 ByteArray.empty)=[(.letters,sAnd)]:=rfl
  rw [tksOf_append,tksOf_append,e6] at hs ⊢
  have hs':Sg l n ((.letters,sAnd) :: (tksOf (within 2 t) ++ (tksOf (pcsMore 2 (sepOf 13 ByteArray.empty) ts) ++ rest))):=by simpa using hs
  obtain ⟨_,_,_,hs2⟩:=hs'.cons
  have hend:endsT (tksOf (pcsMore 2 (sepOf 13 ByteArray.empty) ts) ++ rest):=by
   cases ts with
   | nil=>rw [pcsMore_nil];exact h1
   | cons u us=>
    rw [pcsMore_cons,tksOf_append,e6]
    exact ends_head (by decide) (by decide) (by decide)
  have hy:=h t (List.mem_cons_self ..) _ _ hs2 hend
  have h3:=moreAnd_yes ts (fun a ha=>h a (List.mem_cons_of_mem _ ha)) (acc ++ [t]) _ rest hs2.app h1 h2
  refine via_then (g1:=.unit) (n1:=n+1) (g2:=fun ts=>.more false (acc ++ ts)) (fun f=>?_) hy ?_
  ·
   rw [step_moreF,isW_eq hs',nx_lt,if_pos rfl]
  ·
   rw [List.append_assoc] at h3
   simp only [List.length_append,List.length_cons,List.length_nil]
   rw [show n+(0+1+((tksOf (within 2 t)).length+(tksOf (pcsMore 2 (sepOf 13 ByteArray.empty) ts)).length))=n+1+(tksOf (within 2 t)).length+(tksOf (pcsMore 2 (sepOf 13 ByteArray.empty) ts)).length by omega]
   exact h3
theorem moreOr_yes:∀ (ts:List Tm),(∀ t,t ∈ ts→CoP K l e t)→∀ (acc:List Tm) n rest,Sg l n (tksOf (pcsMore 1 (sepOf 14 ByteArray.empty) ts) ++ rest)→endsT rest→nx rest sAnd=false→nx rest sOr=false →
  Yes K l e (.more true acc) n [joinTm 14 (acc ++ ts)] (n+(tksOf (pcsMore 1 (sepOf 14 ByteArray.empty) ts)).length)
 | [],_,acc,n,rest,hs,h1,_,h2=>by
  rw [pcsMore_nil] at hs ⊢
  refine yes_step fun f=>?_
  have hs':Sg l n rest:=hs
  rw [step_moreT,isW_eq hs',h2,if_neg Bool.false_ne_true,List.append_nil]
  rfl
 | t :: ts,h,acc,n,rest,hs,h1,h4,h2=>by
  rw [pcsMore_cons] at hs ⊢
  have e6:tksOf (sepOf 14 ByteArray.empty)=[(.letters,sOr)]:=rfl
  rw [tksOf_append,tksOf_append,e6] at hs ⊢
  have hs':Sg l n ((.letters,sOr) :: (tksOf (within 1 t) ++ (tksOf (pcsMore 1 (sepOf 14 ByteArray.empty) ts) ++ rest))):=by simpa using hs
  obtain ⟨_,_,_,hs2⟩:=hs'.cons
  have hend:endsT (tksOf (pcsMore 1 (sepOf 14 ByteArray.empty) ts) ++ rest)∧nx (tksOf (pcsMore 1 (sepOf 14 ByteArray.empty) ts) ++ rest) sAnd=false:=by
   cases ts with
   | nil=>rw [pcsMore_nil];exact ⟨h1,h4⟩
   | cons u us=>
    rw [pcsMore_cons,tksOf_append,e6]
    exact ⟨ends_head (by decide) (by decide) (by decide),nx_ne (by decide)⟩
  have hy:=h t (List.mem_cons_self ..) _ _ hs2 hend.1 hend.2
  have h3:=moreOr_yes ts (fun a ha=>h a (List.mem_cons_of_mem _ ha)) (acc ++ [t]) _ rest hs2.app h1 h4 h2
  refine via_then (g1:=.several false) (n1:=n+1) (g2:=fun ts=>.more true (acc ++ ts)) (fun f=>?_) hy ?_
  ·
   rw [step_moreT,isW_eq hs',nx_lt,if_pos rfl]
  ·
   rw [List.append_assoc] at h3
   simp only [List.length_append,List.length_cons,List.length_nil]
   rw [show n+(0+1+((tksOf (within 1 t)).length+(tksOf (pcsMore 1 (sepOf 14 ByteArray.empty) ts)).length))=n+1+(tksOf (within 1 t)).length+(tksOf (pcsMore 1 (sepOf 14 ByteArray.empty) ts)).length by omega]
   exact h3
theorem and_core (t u:Tm) (ts:List Tm) (h:∀ a,a ∈ t :: u :: ts→UnP K l e a) (n:Nat) (rest:List Tk) (hs:Sg l n (toks (.mk 13 ByteArray.empty 0 (t :: u :: ts)) ++ rest)) (h1:endsT rest) (h2:nx rest sAnd=false):
  Yes K l e (.several false) n [.mk 13 ByteArray.empty 0 (t :: u :: ts)] (n+(toks (.mk 13 ByteArray.empty 0 (t :: u :: ts))).length):=by
 have ht:toks (.mk 13 ByteArray.empty 0 (t :: u :: ts))=tksOf (within 2 t) ++ tksOf (pcsMore 2 (sepOf 13 ByteArray.empty) (u :: ts)):=by
  unfold toks
  rw [pcs_mk,pcsJoin_cons]
  simp [headOf,tailOf]
 rw [ht] at hs ⊢
 rw [List.append_assoc] at hs
 have hend:endsT (tksOf (pcsMore 2 (sepOf 13 ByteArray.empty) (u :: ts)) ++ rest):=by
  rw [pcsMore_cons,tksOf_append]
  exact ends_head (by decide) (by decide) (by decide)
 have hy:=h t (List.mem_cons_self ..) _ _ hs hend
 have h3:=moreAnd_yes (u :: ts) (fun a ha=>h a (List.mem_cons_of_mem _ ha)) [t] _ rest hs.app h1 h2
 refine via_then (g1:=.unit) (n1:=n) (g2:=fun ts=>.more false ts) (fun f=>rfl) hy ?_
 rw [List.length_append,← Nat.add_assoc]
 exact h3
theorem or_core (t u:Tm) (ts:List Tm) (h:∀ a,a ∈ t :: u :: ts→CoP K l e a) (n:Nat) (rest:List Tk) (hs:Sg l n (toks (.mk 14 ByteArray.empty 0 (t :: u :: ts)) ++ rest)) (h1:endsT rest) (h4:nx rest sAnd=false) (h2:nx rest sOr=false):
  Yes K l e (.several true) n [.mk 14 ByteArray.empty 0 (t :: u :: ts)] (n+(toks (.mk 14 ByteArray.empty 0 (t :: u :: ts))).length):=by
 have ht:toks (.mk 14 ByteArray.empty 0 (t :: u :: ts))=tksOf (within 1 t) ++ tksOf (pcsMore 1 (sepOf 14 ByteArray.empty) (u :: ts)):=by
  unfold toks
  rw [pcs_mk,pcsJoin_cons]
  simp [headOf,tailOf]
 rw [ht] at hs ⊢
 rw [List.append_assoc] at hs
 have hend:endsT (tksOf (pcsMore 1 (sepOf 14 ByteArray.empty) (u :: ts)) ++ rest)∧nx (tksOf (pcsMore 1 (sepOf 14 ByteArray.empty) (u :: ts)) ++ rest) sAnd=false:=by
  rw [pcsMore_cons,tksOf_append]
  exact ⟨ends_head (by decide) (by decide) (by decide),nx_ne (by decide)⟩
 have hy:=h t (List.mem_cons_self ..) _ _ hs hend.1 hend.2
 have h3:=moreOr_yes (u :: ts) (fun a ha=>h a (List.mem_cons_of_mem _ ha)) [t] _ rest hs.app h1 h4 h2
 refine via_then (g1:=.several false) (n1:=n) (g2:=fun ts=>.more true ts) (fun f=>rfl) hy ?_
 rw [List.length_append,← Nat.add_assoc]
 exact h3
theorem shut_unit {t:Tm} (h:FoP K l e t) (n:Nat) (rest:List Tk) (hs:Sg l n ((.sign,sOpen) :: (toks t ++ ((.sign,sShut) :: rest)))):Yes K l e .unit n [t] (n+1+(toks t).length+1):=by
 obtain ⟨_,hw,ht,hs2⟩:=hs.cons
 have hy:=h _ _ hs2 (ends_head (by decide) (by decide) (by decide)) (nx_ne (by decide)) (nx_ne (by decide))
 have hs3:=hs2.app
 refine yes_then (g1:=.several true) (n1:=n+1) (c:=fun ts n1=>if isW l n1 sShut then some (.ok ts (n1+1)) else some (.bad (placeOf l e n1))) (fun f=>?_) hy ?_
 ·
  simp only [step]
  rw [isW_eq hs,isW_eq hs,isW_eq hs,isW_eq hs,nx_ne (by decide),nx_ne (by decide),nx_ne (by decide),nx_sg]
  rfl
 ·
  rw [isW_eq hs3,nx_sg,if_pos rfl]
theorem un_of_di {t:Tm} (hk:kindOf t ≠ 13∧kindOf t ≠ 14) (h:DiP K l e t):UnP K l e t:=by
 unfold UnP
 rw [within_term hk]
 exact h
theorem co_of_un {t:Tm} (hw:within 1 t=within 2 t) (h:UnP K l e t):CoP K l e t:=by
 intro n rest hs h1 h2
 rw [hw] at hs ⊢
 refine via_then (g1:=.unit) (n1:=n) (g2:=fun ts=>.more false ts) (fun f=>rfl) (h n rest hs h1) ?_
 refine yes_step fun f=>?_
 rw [step_moreF,isW_eq hs.app,h2,if_neg Bool.false_ne_true]
 rfl
theorem fo_of_co {t:Tm} (hk:kindOf t ≠ 14) (h:CoP K l e t):FoP K l e t:=by
 intro n rest hs h1 h2 h3
 have hw:within 1 t=pcs t:=by unfold within parens;rw [decide_eq_false hk];simp
 unfold CoP at h
 rw [hw] at h
 refine via_then (g1:=.several false) (n1:=n) (g2:=fun ts=>.more true ts) (fun f=>rfl) (h n rest hs h1 h2) ?_
 refine yes_step fun f=>?_
 rw [step_moreT,isW_eq (Sg.app (a:=tksOf (pcs t)) hs),h3,if_neg Bool.false_ne_true]
 rfl
theorem testAt_none {n:Nat} {k:Kd} {x:ByteArray} {ts:List Tk} (hs:Sg l n ((k,x) :: ts)) (h:k=.letters→K.test x=false):testAt K l n=none:=by
 obtain ⟨w,h1,h2,_⟩:=hs.cons
 injection h2 with h2 h3
 unfold testAt
 rw [h1]
 dsimp only
 rw [if_neg]
 rintro ⟨h4,h5⟩
 rw [h3,h (h2 ▸ h4)] at h5
 cases h5
theorem head_one (k:Nat) (x:ByteArray) (n:Nat):toks (.mk k x n [])=tksOf (headOf k x n ++ tailOf k):=by unfold toks;rw [pcs_mk,pcsJoin_nil];rfl
def Begins (K:Lang) (a:Tk):Prop:=a.1=.number ∨ a.1=.string ∨ (a.1=.letters∧((K.kept a.2=false∧a.2 ≠ sOpen) ∨ a.2=sSource ∨ a.2=sTarget ∨ K.func a.2=true))
theorem at_begins (hV:∀ x,okV .letters x→x ≠ sOpen) {t:Tm} (h:AtSh K okN okT okV t):∃ a ts,toks t=a :: ts∧Begins K a:=by
 cases h with
 | num n=>exact ⟨_,_,head_one 1 _ n,.inl rfl⟩
 | text x=>exact ⟨_,_,head_one 2 x 0,.inr (.inl rfl)⟩
 | name x hx hv=>exact ⟨_,_,head_one 3 x 0,.inr (.inr ⟨rfl,.inl ⟨hx,hV x hv⟩⟩)⟩
 | src=>exact ⟨_,_,head_one 4 _ 0,.inr (.inr ⟨rfl,.inr (.inl rfl)⟩)⟩
 | tgt=>exact ⟨_,_,head_one 5 _ 0,.inr (.inr ⟨rfl,.inr (.inr (.inl rfl))⟩)⟩
 | call x a ts hx=>exact ⟨_,_,toks_call (.inl rfl) x _,.inr (.inr ⟨rfl,.inr (.inr (.inr hx))⟩)⟩
theorem pr_begins (hV:∀ x,okV .letters x→x ≠ sOpen):∀ {t:Tm},PrSh K okN okT okV t→∃ a ts,toks t=a :: ts∧Begins K a
 | _,.atom _ h=>at_begins hV h
 | _,.mul p a hp ha=>by
  obtain ⟨b,ts,h1,h2⟩:=pr_begins hV hp
  exact ⟨b,_,by rw [toks_two 9 _ p a rfl rfl (within_term (pr_kind hp)) (within_term (at_kind ha)),h1,List.cons_append],h2⟩
theorem te_begins (hV:∀ x,okV .letters x→x ≠ sOpen):∀ {t:Tm},TeSh K okN okT okV t→∃ a ts,toks t=a :: ts∧Begins K a
 | _,.prod _ h=>pr_begins hV h
 | _,.add t p ht hp=>by
  obtain ⟨b,ts,h1,h2⟩:=te_begins hV ht
  exact ⟨b,_,by rw [toks_two 7 _ t p rfl rfl (within_term (te_kind ht)) (within_term (pr_kind hp)),h1,List.cons_append],h2⟩
 | _,.sub t p ht hp=>by
  obtain ⟨b,ts,h1,h2⟩:=te_begins hV ht
  exact ⟨b,_,by rw [toks_two 8 _ t p rfl rfl (within_term (te_kind ht)) (within_term (pr_kind hp)),h1,List.cons_append],h2⟩
theorem begins_not (hK:LangOk K) {k:Kd} {x:ByteArray} {ts:List Tk} (h:Begins K (k,x)):nx ((k,x) :: ts) sNot=false∧nx ((k,x) :: ts) sAll=false∧nx ((k,x) :: ts) sAny=false∧nx ((k,x) :: ts) sOpen=false∧(k=.letters→K.test x=false):=by
 rcases h with h | h | ⟨h,h2⟩
 ·
  dsimp only at h;subst h;exact ⟨rfl,rfl,rfl,rfl,fun h=>by cases h⟩
 ·
  dsimp only at h;subst h;exact ⟨rfl,rfl,rfl,rfl,fun h=>by cases h⟩
 ·
  dsimp only at h h2
  rcases h2 with h2 | h2 | h2 | h2
  ·
   obtain ⟨h2,h5⟩:=h2
   refine ⟨nx_ne ?_,nx_ne ?_,nx_ne ?_,nx_ne h5,fun _=>?_⟩
   ·
    rintro rfl;rw [hK.not_] at h2;cases h2
   ·
    rintro rfl;rw [hK.all_] at h2;cases h2
   ·
    rintro rfl;rw [hK.any_] at h2;cases h2
   ·
    cases ht:K.test x with
    | false=>rfl
    | true=>rw [hK.test x ht] at h2;cases h2
  ·
   subst h2
   refine ⟨nx_ne (by decide),nx_ne (by decide),nx_ne (by decide),nx_ne (by decide),fun _=>?_⟩
   cases ht:K.test sSource with
   | false=>rfl
   | true=>exact absurd rfl (hK.testW _ ht).2.2.2.2.1
  ·
   subst h2
   refine ⟨nx_ne (by decide),nx_ne (by decide),nx_ne (by decide),nx_ne (by decide),fun _=>?_⟩
   cases ht:K.test sTarget with
   | false=>rfl
   | true=>exact absurd rfl (hK.testW _ ht).2.2.2.2.2
  ·
   have hw:=hK.funcW x h2
   refine ⟨nx_ne hw.1,nx_ne hw.2.1,nx_ne hw.2.2.1,nx_ne hw.2.2.2,fun _=>?_⟩
   cases ht:K.test x with
   | false=>rfl
   | true=>exact (hK.apart x h2 ht).elim
theorem forms_yes (hK:LangOk K) (hN:NumOk okN) (hV:∀ x,okV .letters x→x ≠ sOpen):∀ (N:Nat) (t:Tm),sizeOf t < N→FoSh K okN okT okV t→UnP K l e t∧CoP K l e t∧FoP K l e t
 | 0,t,h,_=>absurd h (Nat.not_lt_zero _)
 | N+1,t,hN',h=>by
  have ih:=forms_yes hK hN hV N
  have di:kindOf t ≠ 13∧kindOf t ≠ 14→DiP K l e t→UnP K l e t∧CoP K l e t∧FoP K l e t:=fun hk hd=>
   have h1:=un_of_di hk hd
   have h2:=co_of_un ((within_term hk).trans (within_term hk).symm) h1
   ⟨h1,h2,fo_of_co hk.2 h2⟩
  cases h with
  | cmp x a b ho hv ha hb=>
   refine di (kind_ne (by decide)) fun n rest hs hr=>?_
   obtain ⟨⟨k0,x0⟩,ts0,hb1,hb2⟩:=te_begins hV ha
   have hx:=hK.oper x ho
   rw [toks_two 10 _ a b rfl rfl (within_term (te_kind ha)) (within_term (te_kind hb))] at hs ⊢
   have e9:tksOf (sepOf 10 x)=[(opKind x,x)]:=rfl
   rw [e9] at hs ⊢
   have hs':Sg l n (toks a ++ ((opKind x,x) :: (toks b ++ rest))):=by simpa using hs
   have hy:=term_whole (e:=e) (term_yes hK hN ha) hs' (ends_head hx.1 hx.2.1 hx.2.2)
   have hs2:=hs'.app
   obtain ⟨w,hw1,hw2,hs3⟩:=hs2.cons
   have hy2:=term_whole (e:=e) (term_yes hK hN hb) hs3 hr
   obtain ⟨f1,hy⟩:=hy
   obtain ⟨f2,hy2⟩:=hy2
   have hs4:Sg l n ((k0,x0) :: (ts0 ++ ((opKind x,x) :: (toks b ++ rest)))):=by rw [hb1] at hs';exact hs'
   have hn:=begins_not hK (ts:=ts0 ++ ((opKind x,x) :: (toks b ++ rest))) hb2
   have hop:operAt K l (n+(toks a).length)=some x:=by
    unfold operAt
    rw [hw1]
    dsimp only
    injection hw2 with hw2 hw3
    rw [hw2,hw3,if_pos]
    refine ⟨?_,ho⟩
    unfold opKind
    split
    ·
     exact .inl rfl
    ·
     exact .inr rfl
   refine ⟨max f1 f2+1,?_⟩
   show step K l e (parse K l e (max f1 f2)) .unit n=_
   simp only [step]
   rw [isW_eq hs4,isW_eq hs4,isW_eq hs4,isW_eq hs4,hn.1,hn.2.1,hn.2.2.1,hn.2.2.2.1,testAt_none hs4 hn.2.2.2.2,parse_le (Nat.le_max_left f1 f2) hy]
   dsimp only [Bool.or_false]
   rw [if_neg Bool.false_ne_true,if_neg Bool.false_ne_true,if_neg Bool.false_ne_true,andThen_ok,hop]
   dsimp only
   rw [parse_le (Nat.le_max_right f1 f2) hy2,andThen_ok]
   simp only [List.length_append,List.length_cons,List.length_nil]
   rw [show n+(toks a).length+1+(toks b).length=n+((toks a).length+(0+1+(toks b).length)) by omega]
   rfl
  | test x a ts ht hv ha hts=>
   refine di (kind_ne (by decide)) fun n rest hs hr=>?_
   have hx:=hK.testW x ht
   rw [toks_call (.inr rfl)] at hs ⊢
   have hs':Sg l n ((.letters,x) :: ((.sign,sOpen) :: (tksOf (pcsJoin 2 (sepOf 6 x) (a :: ts)) ++ ((.sign,sShut) :: rest)))):=by simpa using hs
   obtain ⟨w,h1,h2,hs2⟩:=hs'.cons
   injection h2 with h2 h3
   have hy:=args_yes (e:=e) (x:=x) a ts ⟨term_yes hK hN ha,te_kind ha⟩ (fun b hb=>⟨term_yes hK hN (hts b hb),te_kind (hts b hb)⟩) (n+1) rest hs2
   have hta:testAt K l n=some x:=by
    unfold testAt
    rw [h1]
    dsimp only
    rw [h2,h3,if_pos ⟨rfl,ht⟩]
   refine yes_then (g1:=.args) (n1:=n+1) (c:=fun ts n1=>some (.ok [.mk 11 x 0 ts] n1)) (fun f=>?_) hy ?_
   ·
    simp only [step]
    rw [isW_eq hs',isW_eq hs',isW_eq hs',isW_eq hs',nx_ne hx.1,nx_ne hx.2.1,nx_ne hx.2.2.1,nx_ne hx.2.2.2.1,hta]
    rfl
   ·
    simp only [List.length_append,List.length_cons,List.length_nil]
    rw [show n+((tksOf (pcsJoin 2 (sepOf 6 x) (a :: ts))).length+(0+1)+1+1)=n+1+1+(tksOf (pcsJoin 2 (sepOf 6 x) (a :: ts))).length+1 by omega]
  | not a ha=>
   refine di (kind_ne (by decide)) fun n rest hs hr=>?_
   have hsz:=Tm.mk.sizeOf_spec 12 ByteArray.empty 0 [a]
   have hsz2:=List.sizeOf_lt_of_mem (a:=a) (as:=[a]) (by simp)
   have hu:=(ih a (by omega) ha).1
   have ht:toks (.mk 12 ByteArray.empty 0 [a])=(.letters,sNot) :: tksOf (within 2 a):=by
    unfold toks
    rw [pcs_mk,pcsJoin_cons,pcsMore_nil]
    simp [headOf,tailOf,lt]
   rw [ht] at hs ⊢
   obtain ⟨_,_,_,hs2⟩:=hs.cons
   refine yes_then (g1:=.unit) (n1:=n+1) (c:=fun ts n1=>some (.ok [.mk 12 ByteArray.empty 0 ts] n1)) (fun f=>?_) (hu _ _ hs2 hr) ?_
   ·
    simp only [step]
    rw [isW_eq hs,List.cons_append,nx_lt,if_pos rfl]
   ·
    rw [List.length_cons,show n+((tksOf (within 2 a)).length+1)=n+1+(tksOf (within 2 a)).length by omega]
  | and a u ts ha hu hts=>
   have hsz:∀ b,b ∈ a :: u :: ts→sizeOf b < N:=fun b hb=>by
    have h1:=List.sizeOf_lt_of_mem hb
    have h2:=Tm.mk.sizeOf_spec 13 ByteArray.empty 0 (a :: u :: ts)
    omega
   have hall:∀ b,b ∈ a :: u :: ts→UnP K l e b:=fun b hb=>(ih b (hsz b hb) (by
    rcases List.mem_cons.1 hb with rfl | hb
    ·
     exact ha
    ·
     rcases List.mem_cons.1 hb with rfl | hb
     ·
      exact hu
     ·
      exact hts b hb)).1
   have hco:CoP K l e (.mk 13 ByteArray.empty 0 (a :: u :: ts)):=fun n rest hs h1 h2=>and_core a u ts hall n rest hs h1 h2
   have hfo:=fo_of_co (by show 13 ≠ 14;decide) hco
   refine ⟨fun n rest hs hr=>?_,hco,hfo⟩
   have ht:tksOf (within 2 (.mk 13 ByteArray.empty 0 (a :: u :: ts)))=(.sign,sOpen) :: (toks (.mk 13 ByteArray.empty 0 (a :: u :: ts)) ++ [(.sign,sShut)]):=by
    show tksOf (sg sOpen :: (pcs _ ++ [sg sShut]))=_
    rw [show sg sOpen=.word .sign sOpen from rfl,tksOf_word,tksOf_append]
    rfl
   rw [ht] at hs ⊢
   have hs':Sg l n ((.sign,sOpen) :: (toks (.mk 13 ByteArray.empty 0 (a :: u :: ts)) ++ ((.sign,sShut) :: rest))):=by simpa using hs
   have:=shut_unit hfo n rest hs'
   simp only [List.length_append,List.length_cons,List.length_nil]
   rw [show n+((toks (.mk 13 ByteArray.empty 0 (a :: u :: ts))).length+(0+1)+1)=n+1+(toks (.mk 13 ByteArray.empty 0 (a :: u :: ts))).length+1 by omega]
   exact this
  | or a u ts ha hu hts=>
   have hsz:∀ b,b ∈ a :: u :: ts→sizeOf b < N:=fun b hb=>by
    have h1:=List.sizeOf_lt_of_mem hb
    have h2:=Tm.mk.sizeOf_spec 14 ByteArray.empty 0 (a :: u :: ts)
    omega
   have hall:∀ b,b ∈ a :: u :: ts→CoP K l e b:=fun b hb=>(ih b (hsz b hb) (by
    rcases List.mem_cons.1 hb with rfl | hb
    ·
     exact ha
    ·
     rcases List.mem_cons.1 hb with rfl | hb
     ·
      exact hu
     ·
      exact hts b hb)).2.1
   have hfo:FoP K l e (.mk 14 ByteArray.empty 0 (a :: u :: ts)):=fun n rest hs h1 h2 h3=>or_core a u ts hall n rest hs h1 h2 h3
   have ht:within 2 (.mk 14 ByteArray.empty 0 (a :: u :: ts))=sg sOpen :: (pcs (.mk 14 ByteArray.empty 0 (a :: u :: ts)) ++ [sg sShut]):=rfl
   have hun:UnP K l e (.mk 14 ByteArray.empty 0 (a :: u :: ts)):=fun n rest hs hr=>by
    have ht2:tksOf (within 2 (.mk 14 ByteArray.empty 0 (a :: u :: ts)))=(.sign,sOpen) :: (toks (.mk 14 ByteArray.empty 0 (a :: u :: ts)) ++ [(.sign,sShut)]):=by
     rw [ht,show sg sOpen=.word .sign sOpen from rfl,tksOf_word,tksOf_append]
     rfl
    rw [ht2] at hs ⊢
    have hs':Sg l n ((.sign,sOpen) :: (toks (.mk 14 ByteArray.empty 0 (a :: u :: ts)) ++ ((.sign,sShut) :: rest))):=by simpa using hs
    have:=shut_unit hfo n rest hs'
    simp only [List.length_append,List.length_cons,List.length_nil]
    rw [show n+((toks (.mk 14 ByteArray.empty 0 (a :: u :: ts))).length+(0+1)+1)=n+1+(toks (.mk 14 ByteArray.empty 0 (a :: u :: ts))).length+1 by omega]
    exact this
   exact ⟨hun,co_of_un rfl hun,hfo⟩
  | each k x a b hk hx hv ha hb=>
   refine di (by rcases hk with rfl | rfl <;> exact kind_ne (by decide)) fun n rest hs hr=>?_
   have hsz:=Tm.mk.sizeOf_spec k x 0 [a,b]
   have hsz2:=List.sizeOf_lt_of_mem (a:=b) (as:=[a,b]) (by simp)
   have hu:=(ih b (by omega) hb).1
   have ht:toks (.mk k x 0 [a,b])=(.letters,if k=15 then sAll else sAny) :: (.letters,x) :: (.letters,sIn) :: (toks a ++ ((.sign,sColon) :: tksOf (within 2 b))):=by
    unfold toks
    rw [pcs_mk,pcsJoin_cons,pcsMore_cons,pcsMore_nil]
    rcases hk with rfl | rfl
    ·
     simp [headOf,tailOf,sepOf,lt,sg,within_term (te_kind ha)]
    ·
     simp [headOf,tailOf,sepOf,lt,sg,within_term (te_kind ha)]
   rw [ht] at hs ⊢
   have hs':Sg l n ((.letters,if k=15 then sAll else sAny) :: (.letters,x) :: (.letters,sIn) :: (toks a ++ ((.sign,sColon) :: (tksOf (within 2 b) ++ rest)))):=by simpa using hs
   obtain ⟨_,_,_,hs2⟩:=hs'.cons
   obtain ⟨w,hw1,hw2,hs3⟩:=hs2.cons
   obtain ⟨_,_,_,hs4⟩:=hs3.cons
   have hy:=term_whole (e:=e) (term_yes hK hN ha) hs4 (ends_head (by decide) (by decide) (by decide))
   have hs5:=hs4.app
   obtain ⟨_,_,_,hs6⟩:=hs5.cons
   obtain ⟨f1,hy⟩:=hy
   obtain ⟨f2,hy2⟩:=hu _ _ hs6 hr
   have hnm:nameAt K l (n+1)=some x:=by
    unfold nameAt
    rw [hw1]
    dsimp only
    injection hw2 with hw2 hw3
    rw [hw2,hw3,if_pos ⟨rfl,hx⟩]
   refine ⟨max f1 f2+1,?_⟩
   show step K l e (parse K l e (max f1 f2)) .unit n=_
   simp only [step]
   rw [isW_eq hs',isW_eq hs',isW_eq hs',hnm]
   have e1:nx ((Kd.letters,if k=15 then sAll else sAny) :: (.letters,x) :: (.letters,sIn) :: (toks a ++ ((.sign,sColon) :: (tksOf (within 2 b) ++ rest)))) sNot=false:=by rcases hk with rfl | rfl <;> exact nx_ne (by decide)
   have e2:(nx ((Kd.letters,if k=15 then sAll else sAny) :: (.letters,x) :: (.letters,sIn) :: (toks a ++ ((.sign,sColon) :: (tksOf (within 2 b) ++ rest)))) sAll || nx ((Kd.letters,if k=15 then sAll else sAny) :: (.letters,x) :: (.letters,sIn) :: (toks a ++ ((.sign,sColon) :: (tksOf (within 2 b) ++ rest)))) sAny)=true:=by rw [nx_cons,nx_cons];rcases hk with rfl | rfl <;> decide
   rw [e1,if_neg Bool.false_ne_true,e2,if_pos rfl]
   dsimp only
   rw [isW_eq hs3,nx_lt,if_pos rfl,parse_le (Nat.le_max_left f1 f2) hy,andThen_ok,isW_eq hs5,nx_sg,if_pos rfl,parse_le (Nat.le_max_right f1 f2) hy2,andThen_ok]
   have e3:(if nx ((Kd.letters,if k=15 then sAll else sAny) :: (.letters,x) :: (.letters,sIn) :: (toks a ++ ((.sign,sColon) :: (tksOf (within 2 b) ++ rest)))) sAll=true then 15 else 16)=k:=by rw [nx_cons];rcases hk with rfl | rfl <;> decide
   rw [e3]
   simp only [List.length_append,List.length_cons]
   rw [show n+1+1+1+(toks a).length+1+(tksOf (within 2 b)).length=n+((toks a).length+((tksOf (within 2 b)).length+1)+1+1+1) by omega]
   rfl
theorem form_parses (hK:LangOk K) (hN:NumOk okN) (hV:∀ x,okV .letters x→x ≠ sOpen) {t:Tm} (h:FoSh K okN okT okV t) (hl:l.map tk=toks t):∃ f,parse K l e f (.several true) 0=some (.ok [t] l.length):=by
 have hs:Sg l 0 (toks t ++ []):=by unfold Sg;rw [List.append_nil];exact hl
 have h1:=(forms_yes (e:=e) hK hN hV _ t (Nat.lt_succ_self _) h).2.2 0 [] hs ⟨rfl,rfl,rfl⟩ rfl rfl
 rw [Nat.zero_add,← hl,List.length_map] at h1
 exact h1
end
end Go.Proofs.Fm
namespace Go.Proofs.Fm
def bytesOf (x:ByteArray):List UInt8:=x.data.toList
def ofBytes (l:List UInt8):ByteArray:=⟨l.toArray⟩
@[simp] theorem bytes_of (l:List UInt8):bytesOf (ofBytes l)=l:=rfl
@[simp] theorem of_bytes (x:ByteArray):ofBytes (bytesOf x)=x:=rfl
theorem bytesOf_length (x:ByteArray):(bytesOf x).length=x.size:=by unfold bytesOf;rw [Array.length_toList];rfl
theorem get_bytes (s:ByteArray) (i:Nat) (h:i < s.size):(bytesOf s)[i]?=some s[i]:=by
 unfold bytesOf
 rw [Array.getElem?_toList,Array.getElem?_eq_getElem (by exact h)]
 rfl
theorem byteAt_bytes (s:ByteArray) (i:Nat):byteAt s i=((bytesOf s)[i]?.map UInt8.toNat).getD 0:=by
 by_cases h:i < s.size
 ·
  rw [byteAt_lt h,get_bytes s i h];rfl
 ·
  unfold byteAt
  rw [dif_neg h,List.getElem?_eq_none (by rw [bytesOf_length];omega)]
  rfl
theorem get_at {s:ByteArray} {pre post:List UInt8} {c:UInt8} (h:bytesOf s=pre ++ c :: post):∃ hl:pre.length < s.size,s[pre.length]=c:=by
 have hl:pre.length < s.size:=by rw [← bytesOf_length,h];simp
 refine ⟨hl,?_⟩
 have h1:=get_bytes s pre.length hl
 rw [h,List.getElem?_append_right (Nat.le_refl _),Nat.sub_self] at h1
 injection h1 with h1
 exact h1.symm
theorem byte_at {s:ByteArray} {pre post:List UInt8} {c:UInt8} (h:bytesOf s=pre ++ c :: post):byteAt s pre.length=c.toNat∧pre.length < s.size:=by
 obtain ⟨h1,h2⟩:=get_at h
 exact ⟨by rw [byteAt_lt h1,h2],h1⟩
theorem byte_end {s:ByteArray} {pre:List UInt8} (h:bytesOf s=pre):s.size=pre.length:=by rw [← bytesOf_length,h]
theorem extract_mid {s:ByteArray} {pre mid post:List UInt8} (h:bytesOf s=pre ++ (mid ++ post)):s.extract pre.length (pre.length+mid.length)=ofBytes mid:=by
 apply ByteArray.ext
 rw [ByteArray.data_extract]
 apply Array.toList_inj.1
 rw [Array.toList_extract,List.extract_eq_take_drop]
 show List.take _ (List.drop _ (bytesOf s))=mid
 rw [h,List.drop_left,Nat.add_sub_cancel_left,List.take_left]
def StopsAt (lo hi:Nat) (post:List UInt8):Prop:=match post with
 | []=>True
 | c :: _=>¬ (lo≤c.toNat∧c.toNat≤hi)
theorem rowEnd_mid {s:ByteArray} {lo hi:Nat} {post:List UInt8} (hp:StopsAt lo hi post):∀ (mid pre:List UInt8),bytesOf s=pre ++ (mid ++ post)→(∀ c ∈ mid,lo≤c.toNat∧c.toNat≤hi)→rowEnd s lo hi pre.length=pre.length+mid.length
 | [],pre,h,_=>by
  refine rowEnd_end ?_
  rintro ⟨h1,h2⟩
  cases post with
  | nil=>rw [byte_end (pre:=pre) (by simpa using h)] at h1;omega
  | cons c r=>rw [(byte_at (by simpa using h)).1] at h2;exact hp h2
 | c :: mid,pre,h,hm=>by
  have hb:=byte_at (s:=s) (pre:=pre) (c:=c) (post:=mid ++ post) (by simpa using h)
  rw [rowEnd_go ⟨hb.2,by rw [hb.1];exact hm c (List.mem_cons_self ..)⟩]
  have:=rowEnd_mid hp mid (pre ++ [c]) (by simpa using h) (fun a ha=>hm a (List.mem_cons_of_mem _ ha))
  rw [List.length_append,List.length_cons,List.length_nil,Nat.zero_add] at this
  rw [this,List.length_cons]
  omega
def esc:List UInt8→List UInt8
 | []=>[]
 | c :: r=>if c=34 ∨ c=92 then 92 :: c :: esc r else c :: esc r
theorem quoted_esc {ok:ByteArray→Bool} {s:ByteArray} {post:List UInt8}:∀ (x pre:List UInt8) (acc:ByteArray),bytesOf s=pre ++ (esc x ++ 34 :: post)→ok (ofBytes (bytesOf acc ++ x))=true →
  quoted ok s pre.length acc=some (ofBytes (bytesOf acc ++ x),pre.length+(esc x).length+1)
 | [],pre,acc,h,hok=>by
  have hb:=byte_at (s:=s) (pre:=pre) (c:=34) (post:=post) (by simpa [esc] using h)
  rw [quoted,dif_pos hb.2,if_pos (show byteAt s pre.length=34 from hb.1)]
  rw [List.append_nil,of_bytes] at hok ⊢
  rw [if_pos hok]
  rfl
 | c :: x,pre,acc,h,hok=>by
  by_cases hc:c=34 ∨ c=92
  ·
   rw [esc,if_pos hc] at h ⊢
   have hb:=byte_at (s:=s) (pre:=pre) (c:=92) (post:=c :: (esc x ++ 34 :: post)) (by simpa using h)
   have h2:bytesOf s=(pre ++ [92]) ++ c :: (esc x ++ 34 :: post):=by simpa using h
   have hb2:=byte_at h2
   obtain ⟨hg1,hg2⟩:=get_at h2
   have e1:(pre ++ [92]).length=pre.length+1:=by simp
   simp only [e1] at hb2 hg1 hg2
   have hc2:c.toNat=34 ∨ c.toNat=92:=by rcases hc with rfl | rfl;exact .inl rfl;exact .inr rfl
   have ih:=quoted_esc (ok:=ok) (s:=s) (post:=post) x (pre ++ [92,c]) (acc.push c) (by simpa using h) (by
    have:bytesOf (acc.push c) ++ x=bytesOf acc ++ c :: x:=by unfold bytesOf;simp [ByteArray.push]
    rw [this];exact hok)
   have e2:(pre ++ [92,c]).length=pre.length+2:=by simp
   have e3:bytesOf (acc.push c) ++ x=bytesOf acc ++ c :: x:=by unfold bytesOf;simp [ByteArray.push]
   rw [e2,e3] at ih
   rw [quoted,dif_pos hb.2,if_neg (by rw [hb.1];decide),if_pos (show byteAt s pre.length=92 from hb.1),dif_pos hb2.2,if_pos (by rw [hb2.1];exact hc2),hg2,ih]
   simp only [List.length_cons]
   rw [show pre.length+2+(esc x).length+1=pre.length+((esc x).length+1+1)+1 by omega]
  ·
   rw [esc,if_neg hc] at h ⊢
   have h1:bytesOf s=pre ++ c :: (esc x ++ 34 :: post):=by simpa using h
   have hb:=byte_at h1
   obtain ⟨hg1,hg2⟩:=get_at h1
   have hc2:¬ c.toNat=34∧¬ c.toNat=92:=⟨fun e=>hc (.inl (UInt8.toNat_inj.1 e)),fun e=>hc (.inr (UInt8.toNat_inj.1 e))⟩
   have e3:bytesOf (acc.push c) ++ x=bytesOf acc ++ c :: x:=by unfold bytesOf;simp [ByteArray.push]
   have ih:=quoted_esc (ok:=ok) (s:=s) (post:=post) x (pre ++ [c]) (acc.push c) (by simpa using h) (by rw [e3];exact hok)
   have e2:(pre ++ [c]).length=pre.length+1:=by simp
   rw [e2,e3] at ih
   rw [quoted,dif_pos hb.2,if_neg (by rw [hb.1];exact hc2.1),if_neg (by rw [hb.1];exact hc2.2),hg2,ih]
   simp only [List.length_cons]
   rw [show pre.length+1+(esc x).length+1=pre.length+((esc x).length+1)+1 by omega]
theorem digs_small {n:Nat} (h:n < 10):digs n=[UInt8.ofNat (48+n)]:=by rw [digs,if_pos h]
theorem digs_big {n:Nat} (h:¬ n < 10):digs n=digs (n / 10) ++ [UInt8.ofNat (48+n % 10)]:=by rw [digs,if_neg h]
theorem digit_nat {d:Nat} (h:d < 10):(UInt8.ofNat (48+d)).toNat=48+d:=by rw [UInt8.toNat_ofNat'];omega
theorem digs_range (n:Nat):∀ c ∈ digs n,48≤c.toNat∧c.toNat≤57:=by
 by_cases h:n < 10
 ·
  rw [digs_small h]
  intro c hc
  obtain rfl:=List.mem_singleton.1 hc
  rw [digit_nat h]
  omega
 ·
  rw [digs_big h]
  intro c hc
  rcases List.mem_append.1 hc with hc | hc
  ·
   exact digs_range (n / 10) c hc
  ·
   obtain rfl:=List.mem_singleton.1 hc
   rw [digit_nat (Nat.mod_lt _ (by decide))]
   omega
termination_by n
decreasing_by omega
theorem digs_ne (n:Nat):digs n ≠ []:=by
 by_cases h:n < 10
 ·
  rw [digs_small h];exact fun e=>by cases e
 ·
  rw [digs_big h];simp
theorem digs_head (n:Nat):n ≠ 0→∀ c,(digs n).head?=some c→c.toNat ≠ 48:=by
 intro hn c hc
 by_cases h:n < 10
 ·
  rw [digs_small h] at hc
  injection hc with hc
  subst hc
  rw [digit_nat h]
  omega
 ·
  rw [digs_big h] at hc
  have:(digs (n / 10)).head?=some c:=by
   cases hd:digs (n / 10) with
   | nil=>exact absurd hd (digs_ne _)
   | cons a r=>rw [hd] at hc;exact hc
  exact digs_head (n / 10) (by omega) c this
termination_by n
decreasing_by omega
theorem digs_one {n:Nat} (h:1 < (digs n).length):n ≠ 0:=by
 rintro rfl
 rw [digs_small (by decide)] at h
 exact absurd h (by decide)
def valL (v:Nat) (l:List UInt8):Nat:=l.foldl (fun v c=>10 * v+(c.toNat - 48)) v
theorem valL_nil (v:Nat):valL v []=v:=by unfold valL;rw [List.foldl_nil]
theorem valL_cons (v:Nat) (c:UInt8) (r:List UInt8):valL v (c :: r)=valL (10 * v+(c.toNat - 48)) r:=by unfold valL;rw [List.foldl_cons]
theorem valL_append (a b:List UInt8) (v:Nat):valL v (a ++ b)=valL (valL v a) b:=by unfold valL;rw [List.foldl_append]
theorem valL_one (v d:Nat) (h:d < 10):valL v [UInt8.ofNat (48+d)]=10 * v+d:=by
 rw [valL_cons,valL_nil,digit_nat h,Nat.add_sub_cancel_left]
theorem valL_digs (n:Nat):valL 0 (digs n)=n:=by
 induction n using Nat.strongRecOn with
 | _ n ih=>
  by_cases h:n < 10
  ·
   rw [digs_small h,valL_one 0 n h,Nat.mul_zero,Nat.zero_add]
  ·
   have h2:=ih (n / 10) (by omega)
   rw [digs_big h,valL_append,h2,valL_one _ _ (Nat.mod_lt _ (by decide))]
   exact Nat.div_add_mod n 10
theorem digitsV_mid {s:ByteArray} {post:List UInt8}:∀ (mid pre:List UInt8) (v:Nat),bytesOf s=pre ++ (mid ++ post)→digitsV s pre.length (pre.length+mid.length) v=valL v mid
 | [],pre,v,h=>by rw [digitsV,dif_neg (by simp),valL_nil]
 | c :: mid,pre,v,h=>by
  have hb:=byte_at (s:=s) (pre:=pre) (c:=c) (post:=mid ++ post) (by simpa using h)
  have ih:=digitsV_mid (s:=s) (post:=post) mid (pre ++ [c]) (10 * v+(c.toNat - 48)) (by simpa using h)
  have e2:(pre ++ [c]).length=pre.length+1:=by simp
  rw [e2] at ih
  rw [digitsV,dif_pos (by simp),hb.1,valL_cons,← ih,List.length_cons,show pre.length+(mid.length+1)=pre.length+1+mid.length by omega]
theorem digitsV_digs (n:Nat):digitsV (ofBytes (digs n)) 0 (ByteArray.size (ofBytes (digs n))) 0=n:=by
 have h:=digitsV_mid (s:=ofBytes (digs n)) (post:=[]) (digs n) [] 0 (by simp)
 rw [List.length_nil,Nat.zero_add,valL_digs] at h
 have e:ByteArray.size (ofBytes (digs n))=(digs n).length:=by rw [← bytesOf_length,bytes_of]
 rw [e]
 exact h
theorem numOk (okN:Nat→Prop):NumOk okN:=fun n _=>digitsV_digs n
end Go.Proofs.Fm
namespace Go.Proofs.Fm
def spell (k:Kd) (x:ByteArray):List UInt8:=if k=.string then 34 :: (esc (bytesOf x) ++ [34]) else bytesOf x
def bytesP:Pc→List UInt8
 | .blank=>[32]
 | .word k x=>spell k x
def bytesPs:List Pc→List UInt8
 | []=>[]
 | p :: r=>bytesP p ++ bytesPs r
theorem bytesPs_append:∀ (a b:List Pc),bytesPs (a ++ b)=bytesPs a ++ bytesPs b
 | [],_=>rfl
 | p :: a,b=>by rw [List.cons_append,bytesPs,bytesPs,bytesPs_append a b,List.append_assoc]
def form (t:Tm):ByteArray:=ofBytes (bytesPs (pcs t))
def oneSign (c:UInt8):Prop:=c=60 ∨ c=62 ∨ c=126 ∨ c=43 ∨ c=45 ∨ c=42 ∨ c=40 ∨ c=41 ∨ c=44 ∨ c=58
def twoSign (c:UInt8):Prop:=c=61 ∨ c=33 ∨ c=60 ∨ c=62
structure Lex where
 ok:ByteArray→Bool
 kept:ByteArray→Bool
def TokOk (X:Lex):Kd→ByteArray→Prop
 | .letters,x=>x.size ≠ 0∧(∀ c ∈ bytesOf x,97≤c.toNat∧c.toNat≤122)∧(12 < x.size→X.kept x=true)
 | .number,x=>∃ n,n≤1000000∧x=ofBytes (digs n)
 | .string,x=>X.ok x=true
 | .sign,x=>(∃ c,oneSign c∧x=ofBytes [c]) ∨ ∃ c,twoSign c∧x=ofBytes [c,61]
def NextOk:Kd→List UInt8→Prop
 | .letters,post=>StopsAt 97 122 post
 | .number,post=>StopsAt 48 57 post
 | .string,_=>True
 | .sign,post=>post.head? ≠ some 61
section
variable {X:Lex} {s:ByteArray}
theorem letters_at {x:ByteArray} {pre post:List UInt8} (h:TokOk X .letters x) (hn:StopsAt 97 122 post) (hs:bytesOf s=pre ++ (bytesOf x ++ post)):wordAt X.ok X.kept s pre.length=some (⟨.letters,x,pre.length⟩,pre.length+(bytesOf x).length):=by
 obtain ⟨h1,h2,h3⟩:=h
 have he:=extract_mid hs
 have hr:=rowEnd_mid hn (bytesOf x) pre hs h2
 have hc:97≤byteAt s pre.length∧byteAt s pre.length≤122:=by
  cases hx:bytesOf x with
  | nil=>exact absurd (by rw [← bytesOf_length,hx];rfl) h1
  | cons c r=>
   rw [hx] at hs h2
   rw [(byte_at (pre:=pre) (c:=c) (post:=r ++ post) (by simpa using hs)).1]
   exact h2 c (List.mem_cons_self ..)
 unfold wordAt
 dsimp only
 rw [if_pos hc,hr,he,of_bytes,if_neg]
 rw [Nat.add_sub_cancel_left,bytesOf_length]
 rintro ⟨h4,h5⟩
 rw [h3 h4] at h5
 cases h5
theorem number_at {x:ByteArray} {pre post:List UInt8} (h:TokOk X .number x) (hn:StopsAt 48 57 post) (hs:bytesOf s=pre ++ (bytesOf x ++ post)):wordAt X.ok X.kept s pre.length=some (⟨.number,x,pre.length⟩,pre.length+(bytesOf x).length):=by
 obtain ⟨n,h1,rfl⟩:=h
 rw [bytes_of] at hs ⊢
 have he:=extract_mid hs
 have hr:=rowEnd_mid hn (digs n) pre hs (digs_range n)
 have hv:=digitsV_mid (digs n) pre 0 hs
 rw [valL_digs] at hv
 have hc:48≤byteAt s pre.length∧byteAt s pre.length≤57∧(1 < (digs n).length→byteAt s pre.length ≠ 48):=by
  cases hx:digs n with
  | nil=>exact absurd hx (digs_ne n)
  | cons c r=>
   rw [hx] at hs
   rw [(byte_at (pre:=pre) (c:=c) (post:=r ++ post) (by simpa using hs)).1]
   have h2:=digs_range n c (by rw [hx];exact List.mem_cons_self ..)
   refine ⟨h2.1,h2.2,fun hl=>?_⟩
   exact digs_head n (digs_one (by rw [hx];exact hl)) c (by rw [hx];rfl)
 unfold wordAt
 dsimp only
 rw [if_neg (by omega),if_pos ⟨hc.1,hc.2.1⟩,hr,he,hv,if_neg]
 rintro (h4 | ⟨h4,h5⟩)
 ·
  omega
 ·
  rw [Nat.add_sub_cancel_left] at h4
  exact hc.2.2 h4 h5
theorem string_at {x:ByteArray} {pre post:List UInt8} (h:TokOk X .string x) (hs:bytesOf s=pre ++ ((34 :: (esc (bytesOf x) ++ [34])) ++ post)):wordAt X.ok X.kept s pre.length=some (⟨.string,x,pre.length⟩,pre.length+(34 :: (esc (bytesOf x) ++ [34])).length):=by
 have h1:X.ok x=true:=h
 have hb:=byte_at (pre:=pre) (c:=34) (post:=esc (bytesOf x) ++ 34 :: post) (by simpa using hs)
 have hq:=quoted_esc (ok:=X.ok) (s:=s) (post:=post) (bytesOf x) (pre ++ [34]) ByteArray.empty (by simpa using hs) (by exact h1)
 have e1:(pre ++ [34]).length=pre.length+1:=by simp
 have e2:bytesOf ByteArray.empty ++ bytesOf x=bytesOf x:=rfl
 rw [e1,e2,of_bytes] at hq
 have h34:byteAt s pre.length=34:=hb.1
 unfold wordAt
 dsimp only
 rw [if_neg (by omega),if_neg (by omega),if_pos h34,hq]
 dsimp only
 simp only [List.length_cons,List.length_append,List.length_nil]
 rw [show pre.length+1+(esc (bytesOf x)).length+1=pre.length+((esc (bytesOf x)).length+(0+1)+1) by omega]
theorem one_lt {c:UInt8} (h:oneSign c):c.toNat=60 ∨ c.toNat=62 ∨ c.toNat=126 ∨ c.toNat=43 ∨ c.toNat=45 ∨ c.toNat=42 ∨ c.toNat=40 ∨ c.toNat=41 ∨ c.toNat=44 ∨ c.toNat=58:=by
 rcases h with rfl | rfl | rfl | rfl | rfl | rfl | rfl | rfl | rfl | rfl <;> decide
theorem two_lt {c:UInt8} (h:twoSign c):c.toNat=61 ∨ c.toNat=33 ∨ c.toNat=60 ∨ c.toNat=62:=by
 rcases h with rfl | rfl | rfl | rfl <;> decide
theorem sign_at {x:ByteArray} {pre post:List UInt8} (h:TokOk X .sign x) (hn:post.head? ≠ some 61) (hs:bytesOf s=pre ++ (bytesOf x ++ post)):wordAt X.ok X.kept s pre.length=some (⟨.sign,x,pre.length⟩,pre.length+(bytesOf x).length):=by
 have he:=extract_mid hs
 rw [of_bytes] at he
 rcases h with ⟨c,hc,rfl⟩ | ⟨c,hc,rfl⟩
 ·
  rw [bytes_of] at hs
  have hb:=byte_at (pre:=pre) (c:=c) (post:=post) (by simpa using hs)
  have hl:=one_lt hc
  have hnx:¬ (byteAt s (pre.length+1)=61∧pre.length+1 < s.size):=by
   rintro ⟨h1,h2⟩
   cases post with
   | nil=>rw [← bytesOf_length,hs] at h2;simp at h2
   | cons d r=>
    have hb2:=byte_at (s:=s) (pre:=pre ++ [c]) (c:=d) (post:=r) (by simpa using hs)
    rw [show (pre ++ [c]).length=pre.length+1 by simp] at hb2
    rw [hb2.1] at h1
    exact hn (by rw [List.head?_cons,show d=61 from UInt8.toNat_inj.1 h1])
  have hsg:signAt s pre.length=1:=by
   unfold signAt
   dsimp only
   rw [if_neg (fun h=>hnx h.2),if_pos (by rw [hb.1];omega)]
  unfold wordAt
  dsimp only
  rw [if_neg (by rw [hb.1];omega),if_neg (by rw [hb.1];omega),if_neg (by rw [hb.1];omega),hsg,if_neg (by decide)]
  have e1:(bytesOf (ofBytes [c])).length=1:=rfl
  rw [e1] at he ⊢
  rw [he]
 ·
  rw [bytes_of] at hs
  have hb:=byte_at (pre:=pre) (c:=c) (post:=61 :: post) (by simpa using hs)
  have hb2:=byte_at (s:=s) (pre:=pre ++ [c]) (c:=61) (post:=post) (by simpa using hs)
  rw [show (pre ++ [c]).length=pre.length+1 by simp] at hb2
  have hl:=two_lt hc
  have hsg:signAt s pre.length=2:=by
   unfold signAt
   dsimp only
   rw [if_pos ⟨by rw [hb.1];omega,hb2.1,hb2.2⟩]
  unfold wordAt
  dsimp only
  rw [if_neg (by rw [hb.1];omega),if_neg (by rw [hb.1];omega),if_neg (by rw [hb.1];omega),hsg,if_neg (by decide)]
  have e1:(bytesOf (ofBytes [c,61])).length=2:=rfl
  rw [e1] at he ⊢
  rw [he]
theorem word_at {k:Kd} {x:ByteArray} {pre post:List UInt8} (h:TokOk X k x) (hn:NextOk k post) (hs:bytesOf s=pre ++ (spell k x ++ post)):wordAt X.ok X.kept s pre.length=some (⟨k,x,pre.length⟩,pre.length+(spell k x).length):=by
 cases k with
 | letters=>exact letters_at h hn hs
 | number=>exact number_at h hn hs
 | string=>exact string_at h hs
 | sign=>exact sign_at h hn hs
theorem spell_cons {k:Kd} {x:ByteArray} (h:TokOk X k x):∃ c r,spell k x=c :: r∧c ≠ 32∧(k ≠ .sign→c ≠ 61)∧(k=.sign→¬ (97≤c.toNat∧c.toNat≤122)∧¬ (48≤c.toNat∧c.toNat≤57)):=by
 cases k with
 | letters=>
  obtain ⟨h1,h2,_⟩:=h
  show ∃ c r,bytesOf x=c :: r∧_
  cases hx:bytesOf x with
  | nil=>exact absurd (by rw [← bytesOf_length,hx];rfl) h1
  | cons c r=>
   have h3:=h2 c (by rw [hx];exact List.mem_cons_self ..)
   exact ⟨c,r,rfl,by rintro rfl;exact absurd h3 (by decide),fun _=>by rintro rfl;exact absurd h3 (by decide),fun e=>by cases e⟩
 | number=>
  obtain ⟨n,h1,rfl⟩:=h
  show ∃ c r,digs n=c :: r∧_
  cases hx:digs n with
  | nil=>exact absurd hx (digs_ne n)
  | cons c r=>
   have h3:=digs_range n c (by rw [hx];exact List.mem_cons_self ..)
   exact ⟨c,r,rfl,by rintro rfl;exact absurd h3 (by decide),fun _=>by rintro rfl;exact absurd h3 (by decide),fun e=>by cases e⟩
 | string=>exact ⟨34,_,rfl,by decide,fun _=>by decide,fun e=>by cases e⟩
 | sign=>
  rcases h with ⟨c,hc,rfl⟩ | ⟨c,hc,rfl⟩
  ·
   exact ⟨c,[],rfl,by rintro rfl;have:=one_lt hc;revert this;decide,fun e=>absurd rfl e,fun _=>by have:=one_lt hc;constructor <;> omega⟩
  ·
   exact ⟨c,[61],rfl,by rintro rfl;have:=two_lt hc;revert this;decide,fun e=>absurd rfl e,fun _=>by have:=two_lt hc;constructor <;> omega⟩
def softS (x:ByteArray):Prop:=x=sOpen ∨ x=sShut ∨ x=sComma ∨ x=sColon
def Soft:List Pc→Prop
 | []=>True
 | .blank :: _=>True
 | .word k x :: _=>k=.sign∧softS x
def nextP (k:Kd):List Pc→Prop
 | []=>True
 | .blank :: _=>True
 | .word k' x :: _=>(k'=.sign∧softS x) ∨ (k=.sign∧k' ≠ .sign)
theorem Soft.next {b:List Pc} (h:Soft b) (k:Kd):nextP k b:=by
 cases b with
 | nil=>trivial
 | cons p r=>
  cases p with
  | blank=>trivial
  | word k' x=>exact .inl h
inductive Lx (X:Lex):List Pc→Prop
 | nil:Lx X []
 | blank (r:List Pc):Lx X r→Lx X (.blank :: r)
 | word (k:Kd) (x:ByteArray) (r:List Pc):TokOk X k x→nextP k r→Lx X r→Lx X (.word k x :: r)
theorem next_ok {k:Kd} {r:List Pc} (h:nextP k r) (hr:Lx X r):NextOk k (bytesPs r):=by
 cases r with
 | nil=>cases k <;> first | trivial | exact fun e=>by cases e
 | cons p r=>
  cases p with
  | blank=>
   cases k with
   | letters=>exact fun h=>absurd h (by decide)
   | number=>exact fun h=>absurd h (by decide)
   | string=>trivial
   | sign=>exact fun e=>by cases e
  | word k' x=>
   cases hr with
   | word _ _ _ h1 h2 h3=>
    obtain ⟨c,q,e1,e2,e3,e4⟩:=spell_cons h1
    have e5:bytesPs (.word k' x :: r)=c :: (q ++ bytesPs r):=by
     show spell k' x ++ bytesPs r=_
     rw [e1];rfl
    rw [e5]
    rcases h with ⟨rfl,hs⟩ | ⟨rfl,hk⟩
    ·
     cases k with
     | letters=>exact (e4 rfl).1
     | number=>exact (e4 rfl).2
     | string=>trivial
     | sign=>
      intro e
      rw [List.head?_cons] at e
      injection e with e
      subst e
      have e1':bytesOf x=61 :: q:=e1
      rcases hs with rfl | rfl | rfl | rfl <;> cases e1'
    ·
     intro e
     rw [List.head?_cons] at e
     injection e with e
     exact e3 hk e
theorem lex_all (e:Nat):∀ (ps:List Pc),Lx X ps→∀ pre:List UInt8,bytesOf s=pre ++ bytesPs ps→∃ l,wordsFrom X.ok X.kept s pre.length=.ok l∧l.map tk=tksOf ps
 | [],_,pre,h=>by
  refine ⟨[],?_,rfl⟩
  rw [wordsFrom,dif_neg]
  rw [byte_end (pre:=pre) (by rw [h];exact List.append_nil _)]
  omega
 | .blank :: r,hx,pre,h=>by
  cases hx with
  | blank _ hr=>
   have hb:=byte_at (pre:=pre) (c:=32) (post:=bytesPs r) h
   obtain ⟨l,h1,h2⟩:=lex_all e r hr (pre ++ [32]) (by rw [h];simp [bytesPs,bytesP])
   rw [List.length_append,List.length_cons,List.length_nil,Nat.zero_add] at h1
   exact ⟨l,by rw [wordsFrom,dif_pos hb.2,if_pos (show byteAt s pre.length=32 from hb.1),h1],h2⟩
 | .word k x :: r,hx,pre,h=>by
  cases hx with
  | word _ _ _ hw hn hr=>
   have h':bytesOf s=pre ++ (spell k x ++ bytesPs r):=h
   have hwa:=word_at hw (next_ok hn hr) h'
   obtain ⟨c,q,e1,e2,_⟩:=spell_cons hw
   have hb:=byte_at (s:=s) (pre:=pre) (c:=c) (post:=q ++ bytesPs r) (by rw [h',e1];rfl)
   obtain ⟨l,h1,h2⟩:=lex_all e r hr (pre ++ spell k x) (by rw [h'];simp)
   rw [List.length_append] at h1
   refine ⟨⟨k,x,pre.length⟩ :: l,?_,by rw [List.map_cons,h2,tksOf_word];rfl⟩
   rw [wordsFrom,dif_pos hb.2,if_neg (by rw [hb.1];intro h;exact e2 (UInt8.toNat_inj.1 h))]
   split
   ·
    rename_i hwn;rw [hwa] at hwn;cases hwn
   ·
    rename_i y e' hwn
    rw [hwa] at hwn
    injection hwn with hwn
    injection hwn with hy he
    subst hy;subst he
    rw [h1]
    rfl
end
end Go.Proofs.Fm
