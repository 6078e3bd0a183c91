/- Formulas, plain: what the parser finds has the shape of a formula, and its written form is not much longer than the text. -/
import Derived.Test.YthbdlnflmfchjaaGreatDoorFM8
import Derived.Lib.ItoaNum
namespace Go.Proofs.Fm
section
variable {K:Lang} {X:Lex} {l:List Wd} {e:Nat}
theorem andThen_ok_some {o:Option Re} {k:List Tm→Nat→Option Re} {ts:List Tm} {m:Nat} (h:andThen o k=some (.ok ts m)):∃ us n,o=some (.ok us n)∧k us n=some (.ok ts m):=by
 cases o with
 | none=>cases h
 | some r=>
  cases r with
  | ok us n=>exact ⟨us,n,rfl,h⟩
  | bad p=>cases h
theorem pr_len {a b:Tm} (h1:kindOf a ≠ 13∧kindOf a ≠ 14) (h2:kindOf b ≠ 13∧kindOf b ≠ 14) {k:Nat} (hk:k=7 ∨ k=8 ∨ k=9):len (pcs (.mk k ByteArray.empty 0 [a,b]))=len (pcs a)+3+len (pcs b):=by
 have hs:=len_sep_bin hk
 rw [two_len k ByteArray.empty a b _ (pcs_two k _ a b (by rcases hk with rfl | rfl | rfl <;> rfl) (by rcases hk with rfl | rfl | rfl <;> rfl) (within_term h1) (within_term h2)),hs]
theorem ok_inj {ts us:List Tm} {n m:Nat} (h:some (Re.ok us n)=some (.ok ts m)):ts=us∧m=n:=by
 injection h with h
 injection h with h1 h2
 exact ⟨h1.symm,h2.symm⟩
theorem atom_res (hx:∀ w ∈ l,TokOk X w.kind w.text) {rec:Gl→Nat→Option Re} (ih:∀ n ts m,rec .args n=some (.ok ts m)→Res K X l n ts m .args) {n:Nat} {ts:List Tm} {m:Nat} (h:step K l e rec .atom n=some (.ok ts m)):Res K X l n ts m .atom:=by
 simp only [step] at h
 cases hw:l[n]? with
 | none=>rw [hw] at h;cases h
 | some w=>
  rw [hw] at h
  dsimp only at h
  have hm:w ∈ l:=List.mem_of_getElem? hw
  have ht:=hx w hm
  have hs:=sumTo_succ hw
  obtain ⟨kd,x,p⟩:=w
  dsimp only at h ht hs
  cases kd with
  | number=>
   obtain ⟨rfl,rfl⟩:=ok_inj h
   obtain ⟨v,hv,rfl⟩:=ht
   refine ⟨_,rfl,?_,?_⟩
   ·
    rw [digitsV_digs]
    exact .num v hv
   ·
    rw [digitsV_digs,hs]
    have:pcs (.mk 1 ByteArray.empty v [])=[.word .number (ofBytes (digs v))]:=by rw [pcs_mk];rfl
    rw [this,len_word,len_nil]
    omega
  | string=>
   obtain ⟨rfl,rfl⟩:=ok_inj h
   refine ⟨_,rfl,.text x ht,?_⟩
   have:pcs (.mk 2 x 0 [])=[.word .string x]:=by rw [pcs_mk];rfl
   rw [hs,this,len_word,len_nil]
   omega
  | sign=>cases h
  | letters=>
   dsimp only at h
   have hl:(spell .letters x).length=x.size:=by show (bytesOf x).length=_;rw [bytesOf_length]
   rw [hl] at hs
   split at h
   ·
    rename_i hc
    obtain ⟨rfl,rfl⟩:=ok_inj h
    refine ⟨_,rfl,.src,?_⟩
    have:pcs (.mk 4 ByteArray.empty 0 [])=[lt sSource]:=by rw [pcs_mk];rfl
    rw [hs,this,len_lt,len_nil,hc]
    omega
   ·
    rename_i hc1
    split at h
    ·
     rename_i hc
     obtain ⟨rfl,rfl⟩:=ok_inj h
     refine ⟨_,rfl,.tgt,?_⟩
     have:pcs (.mk 5 ByteArray.empty 0 [])=[lt sTarget]:=by rw [pcs_mk];rfl
     rw [hs,this,len_lt,len_nil,hc]
     omega
    ·
     rename_i hc2
     split at h
     ·
      rename_i hc3
      obtain ⟨us,k,h1,h2⟩:=andThen_ok_some h
      obtain ⟨rfl,rfl⟩:=ok_inj h2
      obtain ⟨a,r,rfl,h3,h4⟩:=ih _ _ _ h1
      refine ⟨_,rfl,.call x a r hc3 ht hc1 hc2 (h3 a (List.mem_cons_self ..)) (fun b hb=>h3 b (List.mem_cons_of_mem _ hb)),?_⟩
      rw [call_len 6 (.inl rfl)]
      rw [hs] at h4
      omega
     ·
      split at h
      ·
       rename_i hc4
       obtain ⟨rfl,rfl⟩:=ok_inj h
       refine ⟨_,rfl,.name x hc4 ht,?_⟩
       have:pcs (.mk 3 x 0 [])=[lt x]:=by rw [pcs_mk];rfl
       rw [hs,this,len_lt,len_nil]
       omega
      ·
       cases h
theorem parse_res (hO:∀ x,K.oper x=true→TokOk X .letters x→x=sIn) (hx:∀ w ∈ l,TokOk X w.kind w.text):∀ (f:Nat) (g:Gl) (n:Nat) (ts:List Tm) (m:Nat),parse K l e f g n=some (.ok ts m)→Res K X l n ts m g
 | 0,_,_,_,_,h=>by cases h
 | f+1,g,n,ts,m,h=>by
  have ih:=parse_res hO hx f
  have h':step K l e (parse K l e f) g n=some (.ok ts m):=h
  clear h
  cases g with
  | atom=>exact atom_res hx (fun n ts m h=>ih _ n ts m h) h'
  | product=>
   obtain ⟨us,k,h1,h2⟩:=andThen_ok_some (o:=parse K l e f .atom n) h'
   obtain ⟨t,rfl,h3,h4⟩:=ih _ _ _ _ h1
   obtain ⟨t',rfl,h5,h6⟩:=ih _ _ _ _ h2 (.atom _ h3)
   have h6':len (pcs t')+sumTo l k≤len (pcs t)+sumTo l m:=h6
   exact ⟨t',rfl,h5,by omega⟩
  | moreProduct t=>
   intro ht
   simp only [step] at h'
   split at h'
   ·
    rename_i hc
    obtain ⟨us,k,h1,h2⟩:=andThen_ok_some h'
    obtain ⟨a,rfl,h3,h4⟩:=ih _ _ _ _ h1
    have hs:=isW_sum hc
    obtain ⟨t',rfl,h5,h6⟩:=ih _ _ _ _ h2 (.mul t a ht h3)
    have hl:=pr_len (pr_kind ht) (at_kind h3) (.inr (.inr rfl))
    have h6':len (pcs t')+sumTo l k≤len (pcs (.mk 9 ByteArray.empty 0 [t,a]))+sumTo l m:=h6
    have e1:sStar.size=1:=rfl
    exact ⟨t',rfl,h5,by omega⟩
   ·
    obtain ⟨rfl,rfl⟩:=ok_inj h'
    exact ⟨t,rfl,ht,Nat.le_refl _⟩
  | term=>
   obtain ⟨us,k,h1,h2⟩:=andThen_ok_some (o:=parse K l e f .product n) h'
   obtain ⟨t,rfl,h3,h4⟩:=ih _ _ _ _ h1
   obtain ⟨t',rfl,h5,h6⟩:=ih _ _ _ _ h2 (.prod _ h3)
   have h6':len (pcs t')+sumTo l k≤len (pcs t)+sumTo l m:=h6
   exact ⟨t',rfl,h5,by omega⟩
  | moreTerm t=>
   intro ht
   simp only [step] at h'
   split at h'
   ·
    rename_i hc
    obtain ⟨us,k,h1,h2⟩:=andThen_ok_some h'
    obtain ⟨a,rfl,h3,h4⟩:=ih _ _ _ _ h1
    have hs:sumTo l (n+1)=sumTo l n+2:=by
     rcases Bool.or_eq_true_iff.1 hc with hc | hc
     ·
      exact isW_sum hc
     ·
      exact isW_sum hc
    by_cases hp:isW l n sPlus=true
    ·
     rw [if_pos hp] at h2
     obtain ⟨t',rfl,h5,h6⟩:=ih _ _ _ _ h2 (.add t a ht h3)
     have hl:=pr_len (te_kind ht) (pr_kind h3) (k:=7) (.inl rfl)
     have h6':len (pcs t')+sumTo l k≤len (pcs (.mk 7 ByteArray.empty 0 [t,a]))+sumTo l m:=h6
     exact ⟨t',rfl,h5,by omega⟩
    ·
     rw [if_neg hp] at h2
     obtain ⟨t',rfl,h5,h6⟩:=ih _ _ _ _ h2 (.sub t a ht h3)
     have hl:=pr_len (te_kind ht) (pr_kind h3) (k:=8) (.inr (.inl rfl))
     have h6':len (pcs t')+sumTo l k≤len (pcs (.mk 8 ByteArray.empty 0 [t,a]))+sumTo l m:=h6
     exact ⟨t',rfl,h5,by omega⟩
   ·
    obtain ⟨rfl,rfl⟩:=ok_inj h'
    exact ⟨t,rfl,ht,Nat.le_refl _⟩
  | args=>
   simp only [step] at h'
   split at h'
   ·
    rename_i hc
    obtain ⟨us,k,h1,h2⟩:=andThen_ok_some h'
    obtain ⟨t,rfl,h3,h4⟩:=ih _ _ _ _ h1
    have hs:=isW_sum hc
    obtain ⟨⟨a,r,rfl⟩,h5,h6⟩:=ih _ _ _ _ h2 (by simp) (fun b hb=>by obtain rfl:=List.mem_singleton.1 hb;exact h3)
    rw [join_one,within_term (te_kind h3)] at h6
    have e1:sOpen.size=1:=rfl
    exact ⟨a,r,rfl,h5,by omega⟩
   ·
    cases h'
  | moreArgs acc=>
   intro h0 hall
   simp only [step] at h'
   split at h'
   ·
    rename_i hc
    obtain ⟨us,k,h1,h2⟩:=andThen_ok_some h'
    obtain ⟨t,rfl,h3,h4⟩:=ih _ _ _ _ h1
    have hs:=isW_sum hc
    obtain ⟨h7,h5,h6⟩:=ih _ _ _ _ h2 (by simp) (all_snoc hall h3)
    rw [join_snoc _ _ h0,within_term (te_kind h3),len_sep_comma] at h6
    have e1:sComma.size=1:=rfl
    exact ⟨h7,h5,by omega⟩
   ·
    split at h'
    ·
     rename_i hc
     obtain ⟨rfl,rfl⟩:=ok_inj h'
     have hs:=isW_sum hc
     have e1:sShut.size=1:=rfl
     refine ⟨?_,hall,by omega⟩
     cases ts with
     | nil=>exact absurd rfl h0
     | cons a r=>exact ⟨a,r,rfl⟩
    ·
     cases h'
  | several o=>
   cases o with
   | false=>
    obtain ⟨us,k,h1,h2⟩:=andThen_ok_some (o:=parse K l e f .unit n) h'
    obtain ⟨t,rfl,h3,h4⟩:=ih _ _ _ _ h1
    obtain ⟨t',rfl,h5,h6⟩:=ih _ _ _ _ h2 (by simp) (fun b hb=>by obtain rfl:=List.mem_singleton.1 hb;exact h3)
    rw [join_one] at h6
    exact ⟨t',rfl,h5,by omega⟩
   | true=>
    obtain ⟨us,k,h1,h2⟩:=andThen_ok_some (o:=parse K l e f (.several false) n) h'
    obtain ⟨t,rfl,h3,h4⟩:=ih _ _ _ _ h1
    obtain ⟨t',rfl,h5,h6⟩:=ih _ _ _ _ h2 (by simp) (fun b hb=>by obtain rfl:=List.mem_singleton.1 hb;exact h3)
    rw [join_one] at h6
    exact ⟨t',rfl,h5,by omega⟩
  | more o acc=>
   cases o with
   | false=>
    intro h0 hall
    rw [step_moreF] at h'
    split at h'
    ·
     rename_i hc
     obtain ⟨us,k,h1,h2⟩:=andThen_ok_some h'
     obtain ⟨t,rfl,h3,h4⟩:=ih _ _ _ _ h1
     have hs:=isW_sum hc
     obtain ⟨t',rfl,h5,h6⟩:=ih _ _ _ _ h2 (by simp) (all_snoc hall h3)
     rw [join_snoc _ _ h0,len_sep_and] at h6
     have e1:sAnd.size=3:=rfl
     exact ⟨t',rfl,h5,by omega⟩
    ·
     obtain ⟨rfl,rfl⟩:=ok_inj h'
     refine ⟨_,rfl,joined_fo (.inl rfl) h0 hall,?_⟩
     cases acc with
     | nil=>exact absurd rfl h0
     | cons a r=>
      cases r with
      | nil=>
       rw [join_one]
       have:=len_12 a
       show len (within 1 a)+_≤_
       omega
      | cons b r=>
       have e1:joinTm 13 (a :: b :: r)=.mk 13 ByteArray.empty 0 (a :: b :: r):=by unfold joinTm;rw [if_neg (by simp)]
       have e2:within 1 (.mk 13 ByteArray.empty 0 (a :: b :: r))=pcs (.mk 13 ByteArray.empty 0 (a :: b :: r)):=rfl
       rw [e1,e2,pcs_join 13 _ rfl rfl]
       exact Nat.le_refl _
   | true=>
    intro h0 hall
    rw [step_moreT] at h'
    split at h'
    ·
     rename_i hc
     obtain ⟨us,k,h1,h2⟩:=andThen_ok_some h'
     obtain ⟨t,rfl,h3,h4⟩:=ih _ _ _ _ h1
     have hs:=isW_sum hc
     obtain ⟨t',rfl,h5,h6⟩:=ih _ _ _ _ h2 (by simp) (all_snoc hall h3)
     rw [join_snoc _ _ h0,len_sep_or] at h6
     have e1:sOr.size=2:=rfl
     exact ⟨t',rfl,h5,by omega⟩
    ·
     obtain ⟨rfl,rfl⟩:=ok_inj h'
     refine ⟨_,rfl,joined_fo (.inr rfl) h0 hall,?_⟩
     cases acc with
     | nil=>exact absurd rfl h0
     | cons a r=>
      cases r with
      | nil=>
       rw [join_one]
       have:=len_01 1 a
       show len (pcs a)+_≤_
       omega
      | cons b r=>
       have e1:joinTm 14 (a :: b :: r)=.mk 14 ByteArray.empty 0 (a :: b :: r):=by unfold joinTm;rw [if_neg (by simp)]
       rw [e1,pcs_join 14 _ rfl rfl]
       exact Nat.le_refl _
  | unit=>
   simp only [step] at h'
   split at h'
   ·
    rename_i hc
    obtain ⟨us,k,h1,h2⟩:=andThen_ok_some h'
    obtain ⟨rfl,rfl⟩:=ok_inj h2
    obtain ⟨t,rfl,h3,h4⟩:=ih _ _ _ _ h1
    have hs:=isW_sum hc
    refine ⟨_,rfl,.not t h3,?_⟩
    have e:pcs (.mk 12 ByteArray.empty 0 [t])=lt sNot :: .blank :: within 2 t:=by
     rw [pcs_mk,pcsJoin_cons,pcsMore_nil]
     simp [headOf,tailOf]
    have e1:sNot.size=3:=rfl
    rw [within_term (kind_ne (by decide)),e,len_lt,len_blank]
    omega
   ·
    split at h'
    ·
     rename_i hc
     have hs:sumTo l (n+1)=sumTo l n+4:=by
      rcases Bool.or_eq_true_iff.1 hc with hc | hc
      ·
       exact isW_sum hc
      ·
       exact isW_sum hc
     split at h'
     ·
      cases h'
     ·
      rename_i x hn
      obtain ⟨w,hw1,hw2,rfl,hw3⟩:=nameAt_some hn
      have hs2:=letters_sum hw1 hw2
      have hm:w ∈ l:=List.mem_of_getElem? hw1
      have htk:=hx w hm
      rw [hw2] at htk
      split at h'
      ·
       rename_i hc2
       have hs3:=isW_sum hc2
       obtain ⟨us,k,h1,h2⟩:=andThen_ok_some h'
       obtain ⟨t,rfl,h3,h4⟩:=ih _ _ _ _ h1
       split at h2
       ·
        rename_i hc3
        have hs4:=isW_sum hc3
        obtain ⟨vs,k2,h5,h6⟩:=andThen_ok_some h2
        obtain ⟨rfl,rfl⟩:=ok_inj h6
        obtain ⟨u,rfl,h7,h8⟩:=ih _ _ _ _ h5
        refine ⟨_,rfl,.each _ w.text t u (by split;exact .inl rfl;exact .inr rfl) hw3 htk h3 h7,?_⟩
        have hk:∀ k,k=15 ∨ k=16→len (within 2 (.mk k w.text 0 [t,u]))=len (pcs t)+len (within 2 u)+w.text.size+10:=by
         intro k hk
         have e:pcs (.mk k w.text 0 [t,u])=lt (if k=15 then sAll else sAny) :: .blank :: lt w.text :: .blank :: lt sIn :: .blank :: (pcs t ++ (sg sColon :: .blank :: within 2 u)):=by
          rw [pcs_mk,pcsJoin_cons,pcsMore_cons,pcsMore_nil]
          rcases hk with rfl | rfl
          ·
           rw [show (if 15=14 then 1 else 2)=2 from rfl,within_term (te_kind h3)];simp [headOf,tailOf,sepOf]
          ·
           rw [show (if 16=14 then 1 else 2)=2 from rfl,within_term (te_kind h3)];simp [headOf,tailOf,sepOf]
         have e1:(if k=15 then sAll else sAny).size=3:=by split <;> rfl
         have e2:sIn.size=2:=rfl
         have e3:sColon.size=1:=rfl
         rw [within_term (by rcases hk with rfl | rfl <;> exact kind_ne (by decide)),e,len_lt,len_blank,len_lt,len_blank,len_lt,len_blank,len_append,len_sg,len_blank,e1,e2,e3]
         omega
        show len (within 2 (.mk _ w.text 0 [t,u]))+1+_≤_
        rw [hk _ (by split;exact .inl rfl;exact .inr rfl)]
        have e2:sIn.size=2:=rfl
        have e3:sColon.size=1:=rfl
        have e4:n+1+1=n+2:=rfl
        have e5:n+2+1=n+3:=rfl
        rw [e4] at hs2
        rw [e5] at hs3
        omega
       ·
        cases h2
      ·
       cases h'
    ·
     split at h'
     ·
      rename_i hc
      have hs:=isW_sum hc
      obtain ⟨us,k,h1,h2⟩:=andThen_ok_some h'
      obtain ⟨t,rfl,h3,h4⟩:=ih _ _ _ _ h1
      split at h2
      ·
       rename_i hc2
       have hs2:=isW_sum hc2
       obtain ⟨rfl,rfl⟩:=ok_inj h2
       refine ⟨t,rfl,h3,?_⟩
       have e1:sOpen.size=1:=rfl
       have e2:sShut.size=1:=rfl
       rw [len_within]
       split <;> omega
      ·
       cases h2
     ·
      split at h'
      ·
       rename_i x hn
       obtain ⟨w,hw1,hw2,rfl,hw3⟩:=testAt_some hn
       have hs2:=letters_sum hw1 hw2
       have hm:w ∈ l:=List.mem_of_getElem? hw1
       have htk:=hx w hm
       rw [hw2] at htk
       obtain ⟨us,k,h1,h2⟩:=andThen_ok_some h'
       obtain ⟨rfl,rfl⟩:=ok_inj h2
       obtain ⟨a,r,rfl,h3,h4⟩:=ih _ _ _ _ h1
       refine ⟨_,rfl,.test w.text a r hw3 htk (h3 a (List.mem_cons_self ..)) (fun b hb=>h3 b (List.mem_cons_of_mem _ hb)),?_⟩
       rw [within_term (kind_ne (by decide)),call_len 11 (.inr rfl)]
       omega
      ·
       obtain ⟨us,k,h1,h2⟩:=andThen_ok_some h'
       obtain ⟨a,rfl,h3,h4⟩:=ih _ _ _ _ h1
       split at h2
       ·
        rename_i x hn
        obtain ⟨w,hw1,hw2,rfl,hw3⟩:=operAt_some hn
        have hm:w ∈ l:=List.mem_of_getElem? hw1
        have htk:=hx w hm
        have hs2:sumTo l (k+1)=sumTo l k+(w.text.size+1):=by
         rw [sumTo_succ hw1,← bytesOf_length]
         unfold spell
         rw [if_neg (by rcases hw2 with h | h <;> rw [h] <;> decide)]
        obtain ⟨vs,k2,h5,h6⟩:=andThen_ok_some h2
        obtain ⟨rfl,rfl⟩:=ok_inj h6
        obtain ⟨b,rfl,h7,h8⟩:=ih _ _ _ _ h5
        have hop:TokOk X (opKind w.text) w.text:=by
         refine opKind_of htk hw2 ⟨fun h=>hO _ hw3 (by rw [h] at htk;exact htk),fun h=>?_⟩
         rcases hw2 with h2 | h2
         ·
          exact h2
         ·
          rw [h2,h] at htk
          rcases htk with ⟨c,_,hc⟩ | ⟨c,_,hc⟩
          ·
           have h9:[105,110]=[c]:=congrArg bytesOf hc
           injection h9 with _ h9
           cases h9
          ·
           have h9:[105,110]=[c,61]:=congrArg bytesOf hc
           injection h9 with _ h9
           injection h9 with h9
           exact absurd h9 (by decide)
        refine ⟨_,rfl,.cmp w.text a b hw3 hop h3 h7,?_⟩
        show len (within 2 (.mk 10 w.text 0 [a,b]))+1+_≤_
        rw [within_term (kind_ne (by decide)),two_len 10 w.text a b _ (pcs_two 10 _ a b rfl rfl (within_term (te_kind h3)) (within_term (te_kind h7))),len_sep_cmp]
        omega
       ·
        cases h2
end
end Go.Proofs.Fm
namespace Go.Proofs.Fm
section
variable {X:Lex} {s:ByteArray}
theorem cut_at {i e:Nat} (h1:i≤e) (h2:e≤s.size):∃ pre mid post:List UInt8,bytesOf s=pre ++ (mid ++ post)∧pre.length=i∧mid.length=e - i:=by
 have hl:=bytesOf_length s
 refine ⟨(bytesOf s).take i,((bytesOf s).drop i).take (e - i),((bytesOf s).drop i).drop (e - i),?_,?_,?_⟩
 ·
  rw [List.take_append_drop,List.take_append_drop]
 ·
  rw [List.length_take];omega
 ·
  rw [List.length_take,List.length_drop];omega
theorem mid_byte {pre mid post:List UInt8} (h:bytesOf s=pre ++ (mid ++ post)) {c:UInt8} (hc:c ∈ mid):∃ q,q < mid.length∧byteAt s (pre.length+q)=c.toNat:=by
 obtain ⟨q,hq,rfl⟩:=List.getElem_of_mem hc
 refine ⟨q,hq,?_⟩
 rw [byteAt_bytes,h,List.getElem?_append_right (Nat.le_add_right _ _),Nat.add_sub_cancel_left,List.getElem?_append_left hq,List.getElem?_eq_getElem hq]
 rfl
theorem rowEnd_in (lo hi:Nat):∀ (k i:Nat),s.size - i≤k→∀ j,i≤j→j < rowEnd s lo hi i→lo≤byteAt s j∧byteAt s j≤hi
 | 0,i,hk,j,h1,h2=>by
  rw [rowEnd_end (by omega)] at h2
  omega
 | k+1,i,hk,j,h1,h2=>by
  by_cases hc:i < s.size∧lo≤byteAt s i∧byteAt s i≤hi
  ·
   rw [rowEnd_go hc] at h2
   by_cases hj:j=i
   ·
    subst hj;exact hc.2
   ·
    exact rowEnd_in lo hi k (i+1) (by omega) j (by omega) h2
  ·
   rw [rowEnd_end hc] at h2
   omega
theorem row_cut (lo hi i:Nat) (hi':i≤s.size):∃ pre mid post:List UInt8,bytesOf s=pre ++ (mid ++ post)∧pre.length=i∧mid.length=rowEnd s lo hi i - i∧(∀ c ∈ mid,lo≤c.toNat∧c.toNat≤hi):=by
 obtain ⟨pre,mid,post,h1,h2,h3⟩:=cut_at (s:=s) (rowEnd_ge s lo hi i) (rowEnd_le s lo hi i hi')
 refine ⟨pre,mid,post,h1,h2,h3,fun c hc=>?_⟩
 obtain ⟨q,hq,h4⟩:=mid_byte h1 hc
 rw [← h4,h2]
 exact rowEnd_in lo hi _ i (Nat.le_refl _) (i+q) (by omega) (by omega)
theorem digs_val:∀ (k:Nat) (d:List UInt8),d.length=k→d ≠ []→(∀ c ∈ d,48≤c.toNat∧c.toNat≤57)→(1 < d.length→∀ c,d.head?=some c→c.toNat ≠ 48)→digs (valL 0 d)=d
 | 0,d,hk,h0,_,_=>absurd (List.length_eq_zero_iff.1 hk) h0
 | k+1,d,hk,h0,h1,h2=>by
  obtain ⟨r,c,rfl⟩:∃ r c,d=r ++ [c]:=⟨d.dropLast,d.getLast h0,(List.dropLast_concat_getLast h0).symm⟩
  have hc:=h1 c (by simp)
  have hlast:UInt8.ofNat (48+(c.toNat - 48))=c:=by
   have:48+(c.toNat - 48)=c.toNat:=by omega
   rw [this]
   exact UInt8.ofNat_toNat
  by_cases hr:r=[]
  ·
   subst hr
   rw [List.nil_append,valL_cons,valL_nil,digs_small (by omega),Nat.mul_zero,Nat.zero_add,hlast]
  ·
   have hrl:0 < r.length:=List.length_pos_iff.2 hr
   have hh:∀ c',r.head?=some c'→c'.toNat ≠ 48:=fun c' he=>h2 (by simp;omega) c' (by
    cases r with
    | nil=>exact absurd rfl hr
    | cons a q=>exact he)
   have ih:=digs_val k r (by simp at hk;exact hk) hr (fun a ha=>h1 a (by simp [ha])) (fun _=>hh)
   have hpos:1≤valL 0 r:=by
    have hne:valL 0 r ≠ 0:=by
     intro e
     rw [e,digs_small (by decide)] at ih
     have:=hh (UInt8.ofNat (48+0)) (by rw [← ih];rfl)
     exact this (by decide)
    omega
   rw [valL_append,valL_cons,valL_nil,digs_big (by omega)]
   have e1:(10 * valL 0 r+(c.toNat - 48)) / 10=valL 0 r:=by omega
   have e2:(10 * valL 0 r+(c.toNat - 48)) % 10=c.toNat - 48:=by omega
   rw [e1,e2,ih,hlast]
theorem quoted_len {ok:ByteArray→Bool}:∀ (k i:Nat),s.size - i≤k→∀ (acc t:ByteArray) (e:Nat),quoted ok s i acc=some (t,e)→∃ x,bytesOf t=bytesOf acc ++ x∧(esc x).length+1+i=e∧ok t=true
 | 0,i,hk,acc,t,e,h=>by
  rw [quoted,dif_neg (by omega)] at h
  cases h
 | k+1,i,hk,acc,t,e,h=>by
  rw [quoted] at h
  split at h
  ·
   rename_i hl
   split at h
   ·
    split at h
    ·
     rename_i hok
     injection h with h
     injection h with h1 h2
     subst h1
     exact ⟨[],by rw [List.append_nil],by rw [← h2];simp [esc];omega,hok⟩
    ·
     cases h
   ·
    rename_i h34
    split at h
    ·
     split at h
     ·
      rename_i hl2
      split at h
      ·
       rename_i hc
       obtain ⟨x,h1,h2,h3⟩:=quoted_len k (i+2) (by omega) _ _ _ h
       refine ⟨s[i+1] :: x,?_,?_,h3⟩
       ·
        rw [h1];unfold bytesOf;simp [ByteArray.push]
       ·
        have hc2:s[i+1]=34 ∨ s[i+1]=92:=by
         rw [byteAt_lt hl2] at hc
         rcases hc with hc | hc
         ·
          exact .inl (UInt8.toNat_inj.1 hc)
         ·
          exact .inr (UInt8.toNat_inj.1 hc)
        rw [esc,if_pos hc2]
        simp only [List.length_cons]
        omega
      ·
       cases h
     ·
      cases h
    ·
     rename_i h92
     obtain ⟨x,h1,h2,h3⟩:=quoted_len k (i+1) (by omega) _ _ _ h
     refine ⟨s[i] :: x,?_,?_,h3⟩
     ·
      rw [h1];unfold bytesOf;simp [ByteArray.push]
     ·
      have hc2:¬ (s[i]=34 ∨ s[i]=92):=by
       rw [byteAt_lt hl] at h34 h92
       rintro (hc | hc)
       ·
        exact h34 (by rw [hc];rfl)
       ·
        exact h92 (by rw [hc];rfl)
      rw [esc,if_neg hc2]
      simp only [List.length_cons]
      omega
  ·
   cases h
theorem wordAt_ok {i:Nat} (hi:i < s.size) {w:Wd} {e:Nat} (h:wordAt X.ok X.kept s i=some (w,e)):TokOk X w.kind w.text∧(spell w.kind w.text).length+i=e:=by
 have hge:=wordAt_gt X.ok X.kept s i hi h
 unfold wordAt at h
 dsimp only at h
 split at h
 ·
  rename_i hc
  split at h
  ·
   cases h
  ·
   rename_i hk
   injection h with h
   injection h with h1 h2
   subst h1
   obtain ⟨pre,mid,post,g1,g2,g3,g4⟩:=row_cut (s:=s) 97 122 i (Nat.le_of_lt hi)
   have he:=extract_mid g1
   have hr:=rowEnd_ge s 97 122 i
   rw [g2,g3,show i+(rowEnd s 97 122 i - i)=rowEnd s 97 122 i by omega] at he
   rw [he] at hk ⊢
   rw [h2] at g3 hk
   have hsz:(ofBytes mid).size=mid.length:=by rw [← bytesOf_length,bytes_of]
   refine ⟨⟨by rw [hsz];omega,by rw [bytes_of];exact g4,fun h12=>?_⟩,?_⟩
   ·
    cases hx:X.kept (ofBytes mid) with
    | true=>rfl
    | false=>exact absurd ⟨by have h12':12 < (ofBytes mid).size:=h12;omega,hx⟩ hk
   ·
    show (bytesOf (ofBytes mid)).length+i=e
    rw [bytes_of];omega
 ·
  split at h
  ·
   rename_i hc
   split at h
   ·
    cases h
   ·
    rename_i hk
    injection h with h
    injection h with h1 h2
    subst h1
    obtain ⟨pre,mid,post,g1,g2,g3,g4⟩:=row_cut (s:=s) 48 57 i (Nat.le_of_lt hi)
    have he:=extract_mid g1
    have hr:=rowEnd_ge s 48 57 i
    have hv:=digitsV_mid mid pre 0 g1
    rw [g2,g3,show i+(rowEnd s 48 57 i - i)=rowEnd s 48 57 i by omega] at he hv
    rw [he]
    rw [hv] at hk
    rw [h2] at g3 hk
    have hh:∀ c,mid.head?=some c→byteAt s i=c.toNat:=fun c hc=>by
     cases mid with
     | nil=>cases hc
     | cons a r=>
      injection hc with hc
      subst hc
      rw [← g2]
      exact (byte_at (pre:=pre) (c:=a) (post:=r ++ post) (by simpa using g1)).1
    have hd:=digs_val _ mid rfl (by rintro rfl;simp at g3;omega) g4 (fun h1 c hc h48=>hk (.inr ⟨by omega,by rw [hh c hc,h48]⟩))
    refine ⟨⟨valL 0 mid,by omega,by rw [hd]⟩,?_⟩
    show (bytesOf (ofBytes mid)).length+i=e
    rw [bytes_of];omega
  ·
   split at h
   ·
    split at h
    ·
     rename_i t e' hq
     injection h with h
     injection h with h1 h2
     subst h1;subst h2
     obtain ⟨x,g1,g2,g3⟩:=quoted_len _ _ (Nat.le_refl _) _ _ _ hq
     have g1':bytesOf t=x:=g1
     refine ⟨g3,?_⟩
     show (34 :: (esc (bytesOf t) ++ [34])).length+i=e'
     rw [g1']
     simp only [List.length_cons,List.length_append,List.length_nil]
     omega
    ·
     cases h
   ·
    split at h
    ·
     cases h
    ·
     rename_i hn
     injection h with h
     injection h with h1 h2
     subst h1
     have hsa:(signAt s i=2∧(byteAt s i=61 ∨ byteAt s i=33 ∨ byteAt s i=60 ∨ byteAt s i=62)∧byteAt s (i+1)=61) ∨ (signAt s i=1∧(byteAt s i=60 ∨ byteAt s i=62 ∨ byteAt s i=126 ∨ byteAt s i=43 ∨ byteAt s i=45 ∨ byteAt s i=42 ∨ byteAt s i=40 ∨ byteAt s i=41 ∨ byteAt s i=44 ∨ byteAt s i=58)):=by
      unfold signAt at hn ⊢
      dsimp only at hn ⊢
      split
      ·
       rename_i hc;exact .inl ⟨rfl,hc.1,hc.2.1⟩
      ·
       split
       ·
        rename_i hc;exact .inr ⟨rfl,hc⟩
       ·
        rename_i h1 h2;rw [if_neg h1,if_neg h2] at hn;exact absurd rfl hn
     obtain ⟨pre,mid,post,g1,g2,g3⟩:=cut_at (s:=s) (i:=i) (e:=e) (by omega) (by omega)
     have he:=extract_mid g1
     rw [g2,g3,show i+(e - i)=i+signAt s i by omega] at he
     rw [he]
     refine ⟨?_,by show (bytesOf (ofBytes mid)).length+i=e;rw [bytes_of];omega⟩
     rcases hsa with ⟨e1,e2,e3⟩ | ⟨e1,e2⟩
     ·
      match mid,g3 with
      | [a,b],_=>
       have ha:=(byte_at (s:=s) (pre:=pre) (c:=a) (post:=b :: post) (by simpa using g1)).1
       have hb:=(byte_at (s:=s) (pre:=pre ++ [a]) (c:=b) (post:=post) (by simpa using g1)).1
       rw [List.length_append,List.length_cons,List.length_nil,Nat.zero_add,g2] at hb
       rw [g2] at ha
       have hb61:b=61:=UInt8.toNat_inj.1 (by rw [← hb,e3];rfl)
       subst hb61
       refine .inr ⟨a,?_,rfl⟩
       rw [ha] at e2
       unfold twoSign
       rcases e2 with h | h | h | h
       ·
        exact .inl (UInt8.toNat_inj.1 h)
       ·
        exact .inr (.inl (UInt8.toNat_inj.1 h))
       ·
        exact .inr (.inr (.inl (UInt8.toNat_inj.1 h)))
       ·
        exact .inr (.inr (.inr (UInt8.toNat_inj.1 h)))
      | [],g3=>simp at g3;omega
      | [a],g3=>simp at g3;omega
      | a :: b :: c :: r,g3=>simp at g3;omega
     ·
      match mid,g3 with
      | [a],_=>
       have ha:=(byte_at (s:=s) (pre:=pre) (c:=a) (post:=post) (by simpa using g1)).1
       rw [g2] at ha
       refine .inl ⟨a,?_,rfl⟩
       rw [ha] at e2
       unfold oneSign
       rcases e2 with h | h | h | h | h | h | h | h | h | h
       ·
        exact .inl (UInt8.toNat_inj.1 h)
       ·
        exact .inr (.inl (UInt8.toNat_inj.1 h))
       ·
        exact .inr (.inr (.inl (UInt8.toNat_inj.1 h)))
       ·
        exact .inr (.inr (.inr (.inl (UInt8.toNat_inj.1 h))))
       ·
        exact .inr (.inr (.inr (.inr (.inl (UInt8.toNat_inj.1 h)))))
       ·
        exact .inr (.inr (.inr (.inr (.inr (.inl (UInt8.toNat_inj.1 h))))))
       ·
        exact .inr (.inr (.inr (.inr (.inr (.inr (.inl (UInt8.toNat_inj.1 h)))))))
       ·
        exact .inr (.inr (.inr (.inr (.inr (.inr (.inr (.inl (UInt8.toNat_inj.1 h))))))))
       ·
        exact .inr (.inr (.inr (.inr (.inr (.inr (.inr (.inr (.inl (UInt8.toNat_inj.1 h)))))))))
       ·
        exact .inr (.inr (.inr (.inr (.inr (.inr (.inr (.inr (.inr (UInt8.toNat_inj.1 h)))))))))
      | [],g3=>simp at g3;omega
      | a :: b :: r,g3=>simp at g3;omega
theorem words_ok:∀ (k i:Nat),s.size - i≤k→∀ (l:List Wd),wordsFrom X.ok X.kept s i=.ok l→(∀ w ∈ l,TokOk X w.kind w.text)∧sumTo l l.length≤2 * (s.size - i)
 | k,i,hk,l,h=>by
  rw [wordsFrom] at h
  split at h
  ·
   rename_i hi
   cases k with
   | zero=>omega
   | succ k=>
    split at h
    ·
     have:=words_ok k (i+1) (by omega) l h
     exact ⟨this.1,by omega⟩
    ·
     split at h
     ·
      cases h
     ·
      rename_i w e hw
      have h1:=wordAt_ok hi hw
      have h2:=wordAt_gt X.ok X.kept s i hi hw
      cases hr:wordsFrom X.ok X.kept s e with
      | error p=>rw [hr] at h;cases h
      | ok r=>
       rw [hr] at h
       have h':Except.ok (ε:=Nat) (w :: r)=.ok l:=h
       injection h' with h'
       subst h'
       have ih:=words_ok k e (by omega) r hr
       refine ⟨fun a ha=>?_,?_⟩
       ·
        rcases List.mem_cons.1 ha with rfl | ha
        ·
         exact h1.1
        ·
         exact ih.1 a ha
       ·
        have e1:sumTo (w :: r) (w :: r).length=((spell w.kind w.text).length+1)+sumTo r r.length:=by
         unfold sumTo
         rw [List.take_length,List.take_length,List.map_cons,List.sum_cons]
        rw [e1]
        omega
  ·
   injection h with h
   subst h
   exact ⟨fun a ha=>(by cases ha),by unfold sumTo;simp⟩
theorem parsed_ok {K:Lang} {e f m:Nat} (hO:∀ x,K.oper x=true→TokOk X .letters x→x=sIn) {l:List Wd} (hw:wordsFrom X.ok X.kept s 0=.ok l) {ts:List Tm} (h:parse K l e f (.several true) 0=some (.ok ts m)):
  ∃ t,ts=[t]∧FoF K X t∧(form t).size+1≤sumTo l m:=by
 have h1:=words_ok _ 0 (Nat.le_refl _) l hw
 obtain ⟨t,e1,h2,h3⟩:=parse_res hO h1.1 f _ _ _ _ h
 refine ⟨t,e1,h2,?_⟩
 have:(form t).size=len (pcs t):=by unfold form len;rw [← bytesOf_length,bytes_of]
 rw [this]
 have:sumTo l 0=0:=rfl
 omega
theorem sumTo_mono {l:List Wd} {m:Nat}:sumTo l m≤sumTo l l.length:=by
 unfold sumTo
 rw [List.take_length]
 have h:l.map (fun w=>(spell w.kind w.text).length+1)=(l.take m).map (fun w=>(spell w.kind w.text).length+1) ++ (l.drop m).map (fun w=>(spell w.kind w.text).length+1):=by rw [← List.map_append,List.take_append_drop]
 rw [h,List.sum_append_nat]
 omega
theorem parsed_size {K:Lang} {e f m:Nat} (hO:∀ x,K.oper x=true→TokOk X .letters x→x=sIn) {l:List Wd} (hw:wordsFrom X.ok X.kept s 0=.ok l) {t:Tm} (h:parse K l e f (.several true) 0=some (.ok [t] m)):(form t).size≤2 * s.size:=by
 obtain ⟨t',e1,_,h2⟩:=parsed_ok hO hw h
 injection e1 with e1
 subst e1
 have h3:=(words_ok _ 0 (Nat.le_refl _) l hw).2
 have h4:=sumTo_mono (l:=l) (m:=m)
 omega
end
end Go.Proofs.Fm
namespace Go.Proofs.Fm
inductive Tz where
 | mk (kind:Nat) (text:ByteArray) (num:Int) (subs:List Tz)
mutual
def zOf:Tm→Tz
 | .mk k x n subs=>.mk k x n (zsOf subs)
def zsOf:List Tm→List Tz
 | []=>[]
 | t :: ts=>zOf t :: zsOf ts
end
theorem zsOf_length:∀ ts:List Tm,(zsOf ts).length=ts.length
 | []=>rfl
 | t :: ts=>by rw [zsOf,List.length_cons,List.length_cons,zsOf_length ts]
def kindZ:Tz→Nat
 | .mk k _ _ _=>k
theorem kindZ_of (t:Tm):kindZ (zOf t)=kindOf t:=by cases t;rfl
def parZ (b k:Nat):Bool:=(decide (b=1) && decide (k=14)) || (decide (b=2) && (decide (k=14) || decide (k=13)))
def wrapZ (b k:Nat) (l:List UInt8):List UInt8:=if parZ b k then 40 :: (l ++ [41]) else l
mutual
def fz:Tz→List UInt8
 | .mk k x n subs=>
  if k=1 then Lib.itoa n
  else if k=2 then 34 :: (esc (bytesOf x) ++ [34])
  else if k=3 then bytesOf x
  else if k=4 then bytesOf sSource
  else if k=5 then bytesOf sTarget
  else if k=6 ∨ k=11 then bytesOf x ++ (40 :: (fzJoin 0 [44,32] subs ++ [41]))
  else if k=7 then fzAt 0 subs 0 ++ ([32,43,32] ++ fzAt 0 subs 1)
  else if k=8 then fzAt 0 subs 0 ++ ([32,45,32] ++ fzAt 0 subs 1)
  else if k=9 then fzAt 0 subs 0 ++ ([32,42,32] ++ fzAt 0 subs 1)
  else if k=10 then fzAt 0 subs 0 ++ ((32 :: (bytesOf x ++ [32])) ++ fzAt 0 subs 1)
  else if k=12 then [110,111,116,32] ++ fzAt 2 subs 0
  else if k=13 then fzJoin 2 [32,97,110,100,32] subs
  else if k=14 then fzJoin 1 [32,111,114,32] subs
  else if k=15 ∨ k=16 then (if k=16 then [97,110,121,32] else [97,108,108,32]) ++ (bytesOf x ++ ([32,105,110,32] ++ (fzAt 0 subs 0 ++ ([58,32] ++ fzAt 2 subs 1))))
  else []
def fzAt (b:Nat):List Tz→Nat→List UInt8
 | [],_=>[]
 | t :: _,0=>wrapZ b (kindZ t) (fz t)
 | _ :: ts,i+1=>fzAt b ts i
def fzJoin (b:Nat) (sep:List UInt8):List Tz→List UInt8
 | []=>[]
 | t :: ts=>wrapZ b (kindZ t) (fz t) ++ fzMore b sep ts
def fzMore (b:Nat) (sep:List UInt8):List Tz→List UInt8
 | []=>[]
 | t :: ts=>sep ++ (wrapZ b (kindZ t) (fz t) ++ fzMore b sep ts)
end
end Go.Proofs.Fm
