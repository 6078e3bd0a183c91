/- What a tree that was parsed is like, node by node; its weight; the program writes its written form. -/
import Derived.Test.YthbdlnflmfchjaaGreatDoorPZ
import Derived.Test.YthbdlnflmfchjaaGreatDoorZB
import Derived.ChangeSlices
set_option linter.unusedVariables false
set_option linter.unusedSimpArgs false
namespace Go.Proofs.Fm
def isTm (t:Tm):Prop:=1≤kindOf t∧kindOf t≤9
structure WfHere (K:Lang) (k:Nat) (x:ByteArray) (subs:List Tm):Prop where
 leaf:k≤5→subs=[]
 func:k=6→K.func x=true
 test:k=11→K.test x=true
 args:k=6 ∨ k=11→subs ≠ []∧∀ a ∈ subs,isTm a
 two:k=7 ∨ k=8 ∨ k=9 ∨ k=10→∃ a b,subs=[a,b]∧isTm a∧isTm b
 not_:k=12→∃ a,subs=[a]
 many:k=13 ∨ k=14→2≤subs.length
 each:k=15 ∨ k=16→∃ a b,subs=[a,b]∧isTm a
 lo:1≤k
 hi:k≤16
 text:k=1 ∨ k=4 ∨ k=5 ∨ k=7 ∨ k=8 ∨ k=9 ∨ k=12 ∨ k=13 ∨ k=14→x=ByteArray.empty
mutual
def Wf (K:Lang):Tm→Prop
 | .mk k x _ subs=>WfHere K k x subs∧Wfs K subs
def Wfs (K:Lang):List Tm→Prop
 | []=>True
 | t :: ts=>Wf K t∧Wfs K ts
end
theorem wf_mk {K:Lang} {k:Nat} {x:ByteArray} {n:Nat} {subs:List Tm}:Wf K (.mk k x n subs) ↔ WfHere K k x subs∧Wfs K subs:=by rw [Wf]
theorem wfs_of {K:Lang}:∀ (ts:List Tm),(∀ t ∈ ts,Wf K t)→Wfs K ts
 | [],_=>by rw [Wfs];trivial
 | t :: ts,h=>by rw [Wfs];exact ⟨h t (by simp),wfs_of ts (fun u hu=>h u (by simp [hu]))⟩
theorem wfs_all {K:Lang}:∀ (ts:List Tm),Wfs K ts→∀ t ∈ ts,Wf K t
 | [],_,t,h=>by cases h
 | u :: ts,hh,t,h=>by
  rw [Wfs] at hh
  rcases List.mem_cons.1 h with rfl | h
  ·
   exact hh.1
  ·
   exact wfs_all ts hh.2 t h
section
variable {K:Lang} {okN:Nat→Prop} {okT:ByteArray→Prop} {okV:Kd→ByteArray→Prop}
theorem at_tm {t:Tm} (h:AtSh K okN okT okV t):isTm t:=by
 cases h <;> (unfold isTm kindOf;dsimp only;omega)
theorem pr_tm {t:Tm} (h:PrSh K okN okT okV t):isTm t:=by
 cases h with
 | atom _ h=>exact at_tm h
 | mul _ _ _ _=>exact ⟨by show 1≤9;decide,by show 9≤9;decide⟩
theorem te_tm {t:Tm} (h:TeSh K okN okT okV t):isTm t:=by
 cases h with
 | prod _ h=>exact pr_tm h
 | add _ _ _ _=>exact ⟨by show 1≤7;decide,by show 7≤9;decide⟩
 | sub _ _ _ _=>exact ⟨by show 1≤8;decide,by show 8≤9;decide⟩
theorem wf_leaf {k n:Nat} {x:ByteArray} (h1:1≤k) (h2:k≤5) (hx:k=1 ∨ k=4 ∨ k=5→x=ByteArray.empty):Wf K (.mk k x n []):=
 wf_mk.2 ⟨⟨fun _=>rfl,fun h=>by omega,fun h=>by omega,fun h=>by omega,fun h=>by omega,fun h=>by omega,fun h=>by omega,fun h=>by omega,h1,by omega,fun h=>hx (by omega)⟩,by rw [Wfs];trivial⟩
theorem wf_two {k n:Nat} {x:ByteArray} {a b:Tm} (hk:k=7 ∨ k=8 ∨ k=9 ∨ k=10) (ha:Wf K a) (hb:Wf K b) (ia:isTm a) (ib:isTm b) (hx:k ≠ 10→x=ByteArray.empty):Wf K (.mk k x n [a,b]):=
 wf_mk.2 ⟨⟨fun h=>by omega,fun h=>by omega,fun h=>by omega,fun h=>by omega,fun _=>⟨a,b,rfl,ia,ib⟩,fun h=>by omega,fun h=>by omega,fun h=>by omega,by omega,by omega,fun h=>hx (by omega)⟩,wfs_of _ (fun t ht=>by
  rcases List.mem_cons.1 ht with rfl | ht
  ·
   exact ha
  ·
   rw [List.mem_singleton.1 ht];exact hb)⟩
theorem wf_terms:∀ (N:Nat) (t:Tm),SizeOf.sizeOf t < N→(AtSh K okN okT okV t→Wf K t)∧(PrSh K okN okT okV t→Wf K t)∧(TeSh K okN okT okV t→Wf K t)
 | 0,_,h=>absurd h (Nat.not_lt_zero _)
 | N+1,t,hN=>by
  have ih:=wf_terms N
  have h1:AtSh K okN okT okV t→Wf K t:=fun h=>by
   cases h with
   | num n _=>exact wf_leaf (by decide) (by decide) (fun _=>rfl)
   | text x _=>exact wf_leaf (by decide) (by decide) (fun h=>by omega)
   | name x _ _=>exact wf_leaf (by decide) (by decide) (fun h=>by omega)
   | src=>exact wf_leaf (by decide) (by decide) (fun _=>rfl)
   | tgt=>exact wf_leaf (by decide) (by decide) (fun _=>rfl)
   | call x a zs hf _ _ _ ha has=>
    refine wf_mk.2 ⟨⟨fun h=>by omega,fun _=>hf,fun h=>by omega,fun _=>⟨by simp,fun b hb=>?_⟩,fun h=>by omega,fun h=>by omega,fun h=>by omega,fun h=>by omega,by omega,by omega,fun h=>by omega⟩,wfs_of _ (fun b hb=>?_)⟩
    ·
     rcases List.mem_cons.1 hb with rfl | hb
     ·
      exact te_tm ha
     ·
      exact te_tm (has b hb)
    ·
     have hsz:SizeOf.sizeOf b < N:=by
      have h1:SizeOf.sizeOf b < SizeOf.sizeOf (a :: zs):=List.sizeOf_lt_of_mem hb
      have h2:SizeOf.sizeOf (Tm.mk 6 x 0 (a :: zs))=1+6+SizeOf.sizeOf x+0+SizeOf.sizeOf (a :: zs):=by simp
      omega
     rcases List.mem_cons.1 hb with rfl | hb
     ·
      exact (ih b hsz).2.2 ha
     ·
      exact (ih b hsz).2.2 (has b hb)
  have h2:PrSh K okN okT okV t→Wf K t:=fun h=>by
   cases h with
   | atom _ h=>exact h1 h
   | mul p a hp ha=>
    have e:SizeOf.sizeOf (Tm.mk 9 ByteArray.empty 0 [p,a])=1+9+SizeOf.sizeOf ByteArray.empty+0+(1+SizeOf.sizeOf p+(1+SizeOf.sizeOf a+1)):=by simp
    exact wf_two (.inr (.inr (.inl rfl))) ((ih p (by omega)).2.1 hp) ((ih a (by omega)).1 ha) (pr_tm hp) (at_tm ha) (fun _=>rfl)
  refine ⟨h1,h2,fun h=>?_⟩
  cases h with
  | prod _ h=>exact h2 h
  | add u p hu hp=>
   have e:SizeOf.sizeOf (Tm.mk 7 ByteArray.empty 0 [u,p])=1+7+SizeOf.sizeOf ByteArray.empty+0+(1+SizeOf.sizeOf u+(1+SizeOf.sizeOf p+1)):=by simp
   exact wf_two (.inl rfl) ((ih u (by omega)).2.2 hu) ((ih p (by omega)).2.1 hp) (te_tm hu) (pr_tm hp) (fun _=>rfl)
  | sub u p hu hp=>
   have e:SizeOf.sizeOf (Tm.mk 8 ByteArray.empty 0 [u,p])=1+8+SizeOf.sizeOf ByteArray.empty+0+(1+SizeOf.sizeOf u+(1+SizeOf.sizeOf p+1)):=by simp
   exact wf_two (.inr (.inl rfl)) ((ih u (by omega)).2.2 hu) ((ih p (by omega)).2.1 hp) (te_tm hu) (pr_tm hp) (fun _=>rfl)
theorem wf_te {t:Tm} (h:TeSh K okN okT okV t):Wf K t:=(wf_terms _ t (Nat.lt_succ_self _)).2.2 h
theorem wf_fo:∀ (N:Nat) (t:Tm),SizeOf.sizeOf t < N→FoSh K okN okT okV t→Wf K t
 | 0,_,h,_=>absurd h (Nat.not_lt_zero _)
 | N+1,t,hN,h=>by
  have ih:=wf_fo N
  cases h with
  | cmp x a b _ _ ha hb=>exact wf_two (.inr (.inr (.inr rfl))) (wf_te ha) (wf_te hb) (te_tm ha) (te_tm hb) (fun h=>absurd rfl h)
  | test x a zs ht _ ha has=>
   have hall:∀ b ∈ a :: zs,TeSh K okN okT okV b:=fun b hb=>by
    rcases List.mem_cons.1 hb with rfl | hb
    ·
     exact ha
    ·
     exact has b hb
   exact wf_mk.2 ⟨⟨fun h=>by omega,fun h=>by omega,fun _=>ht,fun _=>⟨by simp,fun b hb=>te_tm (hall b hb)⟩,fun h=>by omega,fun h=>by omega,fun h=>by omega,fun h=>by omega,by omega,by omega,fun h=>by omega⟩,wfs_of _ (fun b hb=>wf_te (hall b hb))⟩
  | not a ha=>
   have e:SizeOf.sizeOf (Tm.mk 12 ByteArray.empty 0 [a])=1+12+SizeOf.sizeOf ByteArray.empty+0+(1+SizeOf.sizeOf a+1):=by simp
   exact wf_mk.2 ⟨⟨fun h=>by omega,fun h=>by omega,fun h=>by omega,fun h=>by omega,fun h=>by omega,fun _=>⟨a,rfl⟩,fun h=>by omega,fun h=>by omega,by omega,by omega,fun _=>rfl⟩,wfs_of _ (fun b hb=>by rw [List.mem_singleton.1 hb];exact ih a (by omega) ha)⟩
  | and a b zs ha hb has=>
   refine wf_mk.2 ⟨⟨fun h=>by omega,fun h=>by omega,fun h=>by omega,fun h=>by omega,fun h=>by omega,fun h=>by omega,fun _=>by simp,fun h=>by omega,by omega,by omega,fun _=>rfl⟩,wfs_of _ (fun c hc=>?_)⟩
   have hsz:SizeOf.sizeOf c < N:=by
    have h1:SizeOf.sizeOf c < SizeOf.sizeOf (a :: b :: zs):=List.sizeOf_lt_of_mem hc
    have h2:SizeOf.sizeOf (Tm.mk 13 ByteArray.empty 0 (a :: b :: zs))=1+13+SizeOf.sizeOf ByteArray.empty+0+SizeOf.sizeOf (a :: b :: zs):=by simp
    omega
   rcases List.mem_cons.1 hc with rfl | hc
   ·
    exact ih c hsz ha
   ·
    rcases List.mem_cons.1 hc with rfl | hc
    ·
     exact ih c hsz hb
    ·
     exact ih c hsz (has c hc)
  | or a b zs ha hb has=>
   refine wf_mk.2 ⟨⟨fun h=>by omega,fun h=>by omega,fun h=>by omega,fun h=>by omega,fun h=>by omega,fun h=>by omega,fun _=>by simp,fun h=>by omega,by omega,by omega,fun _=>rfl⟩,wfs_of _ (fun c hc=>?_)⟩
   have hsz:SizeOf.sizeOf c < N:=by
    have h1:SizeOf.sizeOf c < SizeOf.sizeOf (a :: b :: zs):=List.sizeOf_lt_of_mem hc
    have h2:SizeOf.sizeOf (Tm.mk 14 ByteArray.empty 0 (a :: b :: zs))=1+14+SizeOf.sizeOf ByteArray.empty+0+SizeOf.sizeOf (a :: b :: zs):=by simp
    omega
   rcases List.mem_cons.1 hc with rfl | hc
   ·
    exact ih c hsz ha
   ·
    rcases List.mem_cons.1 hc with rfl | hc
    ·
     exact ih c hsz hb
    ·
     exact ih c hsz (has c hc)
  | each k x a b hk _ _ ha hb=>
   have e:SizeOf.sizeOf (Tm.mk k x 0 [a,b])=1+k+SizeOf.sizeOf x+0+(1+SizeOf.sizeOf a+(1+SizeOf.sizeOf b+1)):=by simp
   exact wf_mk.2 ⟨⟨fun h=>by omega,fun h=>by omega,fun h=>by omega,fun h=>by omega,fun h=>by omega,fun h=>by omega,fun h=>by omega,fun _=>⟨a,b,rfl,te_tm ha⟩,by omega,by omega,fun h=>by omega⟩,wfs_of _ (fun c hc=>by
    rcases List.mem_cons.1 hc with rfl | hc
    ·
     exact wf_te ha
    ·
     rw [List.mem_singleton.1 hc];exact ih b (by omega) hb)⟩
theorem fo_wf {t:Tm} (h:FoSh K okN okT okV t):Wf K t:=wf_fo _ t (Nat.lt_succ_self _) h
end
theorem par_tm {t:Tm} (h:isTm t) (b:Nat):parens b (kindOf t)=false:=by
 obtain ⟨h1,h2⟩:=h
 unfold parens
 simp;omega
theorem parZ_tm {t:Tm} (h:isTm t) (b:Nat):parZ b (kindOf t)=false:=by
 obtain ⟨h1,h2⟩:=h
 unfold parZ
 simp;omega
theorem parZ_1 (k:Nat):parZ 1 k=parens 1 k:=by unfold parZ parens;simp
theorem parZ_2 (k:Nat):parZ 2 k=parens 2 k:=by unfold parZ parens;simp
theorem parZ_0 (k:Nat):parZ 0 k=false:=by unfold parZ;simp
theorem bytes_within (b:Nat) (t:Tm):bytesPs (within b t)=if parens b (kindOf t) then 40 :: (bytesPs (pcs t) ++ [41]) else bytesPs (pcs t):=by
 unfold within
 split
 ·
  show bytesPs (sg sOpen :: (pcs t ++ [sg sShut]))=_
  rw [bytesPs,bytesPs_append]
  rfl
 ·
  rfl
theorem itoa_digs (n:Nat):Lib.itoa (n:Int)=digs n:=by
 have h:∀ n:Nat,Lib.decDigits n=digs n:=fun n=>by
  induction n using Nat.strongRecOn with
  | _ n ih=>
   rw [Lib.decDigits,digs]
   split
   ·
    rfl
   ·
    rw [ih (n / 10) (by omega)]
 unfold Lib.itoa
 rw [if_neg (by omega),Int.toNat_natCast,h]
theorem join_eq (b c:Nat) (sep:List Pc) (s:List UInt8) (hs:bytesPs sep=s):∀ ts:List Tm,(∀ t ∈ ts,fz (zOf t)=bytesPs (pcs t)∧parZ c (kindOf t)=parens b (kindOf t))→fzMore c s (zsOf ts)=bytesPs (pcsMore b sep ts)
 | [],_=>by rw [zsOf,fzMore,pcsMore_nil];rfl
 | t :: ts,h=>by
  obtain ⟨h1,h2⟩:=h t (by simp)
  rw [zsOf,fzMore,pcsMore_cons,bytesPs_append,bytesPs_append,hs,bytes_within,join_eq b c sep s hs ts (fun u hu=>h u (by simp [hu])),kindZ_of,h1]
  unfold wrapZ
  rw [h2]
theorem join_eq0 (b c:Nat) (sep:List Pc) (s:List UInt8) (hs:bytesPs sep=s):∀ ts:List Tm,(∀ t ∈ ts,fz (zOf t)=bytesPs (pcs t)∧parZ c (kindOf t)=parens b (kindOf t))→fzJoin c s (zsOf ts)=bytesPs (pcsJoin b sep ts)
 | [],_=>by rw [zsOf,fzJoin,pcsJoin_nil];rfl
 | t :: ts,h=>by
  obtain ⟨h1,h2⟩:=h t (by simp)
  rw [zsOf,fzJoin,pcsJoin_cons,bytesPs_append,bytes_within,join_eq b c sep s hs ts (fun u hu=>h u (by simp [hu])),kindZ_of,h1]
  unfold wrapZ
  rw [h2]
theorem fz_mk (k:Nat) (x:ByteArray) (n:Int) (subs:List Tz):fz (.mk k x n subs) =
  if k=1 then Lib.itoa n
  else if k=2 then 34 :: (esc (bytesOf x) ++ [34])
  else if k=3 then bytesOf x
  else if k=4 then bytesOf sSource
  else if k=5 then bytesOf sTarget
  else if k=6 ∨ k=11 then bytesOf x ++ (40 :: (fzJoin 0 [44,32] subs ++ [41]))
  else if k=7 then fzAt 0 subs 0 ++ ([32,43,32] ++ fzAt 0 subs 1)
  else if k=8 then fzAt 0 subs 0 ++ ([32,45,32] ++ fzAt 0 subs 1)
  else if k=9 then fzAt 0 subs 0 ++ ([32,42,32] ++ fzAt 0 subs 1)
  else if k=10 then fzAt 0 subs 0 ++ ((32 :: (bytesOf x ++ [32])) ++ fzAt 0 subs 1)
  else if k=12 then [110,111,116,32] ++ fzAt 2 subs 0
  else if k=13 then fzJoin 2 [32,97,110,100,32] subs
  else if k=14 then fzJoin 1 [32,111,114,32] subs
  else if k=15 ∨ k=16 then (if k=16 then [97,110,121,32] else [97,108,108,32]) ++ (bytesOf x ++ ([32,105,110,32] ++ (fzAt 0 subs 0 ++ ([58,32] ++ fzAt 2 subs 1))))
  else []:=by rw [fz]
theorem fzAt_two (b:Nat) (s t:Tm):fzAt b (zsOf [s,t]) 0=wrapZ b (kindOf s) (fz (zOf s))∧fzAt b (zsOf [s,t]) 1=wrapZ b (kindOf t) (fz (zOf t)):=by
 rw [zsOf,zsOf,zsOf,fzAt,fzAt,fzAt,kindZ_of,kindZ_of]
 exact ⟨rfl,rfl⟩
theorem fzAt_one (b:Nat) (s:Tm):fzAt b (zsOf [s]) 0=wrapZ b (kindOf s) (fz (zOf s)):=by
 rw [zsOf,zsOf,fzAt,kindZ_of]
theorem wrapZ_no {b k:Nat} {l:List UInt8} (h:parZ b k=false):wrapZ b k l=l:=by unfold wrapZ;rw [h];rfl
theorem bytes_wrap2 {t:Tm} (h:fz (zOf t)=bytesPs (pcs t)):wrapZ 2 (kindOf t) (fz (zOf t))=bytesPs (within 2 t):=by rw [bytes_within,h];unfold wrapZ;rw [parZ_2]
theorem bytes_tm {t:Tm} (h:isTm t) (b:Nat):bytesPs (within b t)=bytesPs (pcs t):=by rw [bytes_within,par_tm h];rfl
theorem fz_wf {K:Lang}:∀ (N:Nat) (t:Tm),SizeOf.sizeOf t < N→Wf K t→fz (zOf t)=bytesPs (pcs t)
 | 0,_,h,_=>absurd h (Nat.not_lt_zero _)
 | N+1,.mk k x n subs,hN,h=>by
  obtain ⟨hh,hs⟩:=wf_mk.1 h
  have ih:∀ t ∈ subs,fz (zOf t)=bytesPs (pcs t):=fun t ht=>by
   have h1:SizeOf.sizeOf t < SizeOf.sizeOf subs:=List.sizeOf_lt_of_mem ht
   have h2:SizeOf.sizeOf (Tm.mk k x n subs)=1+SizeOf.sizeOf k+SizeOf.sizeOf x+SizeOf.sizeOf n+SizeOf.sizeOf subs:=by simp
   exact fz_wf N t (by omega) (wfs_all subs hs t ht)
  rw [zOf,fz_mk,pcs_mk,bytesPs_append,bytesPs_append]
  have hlo:=hh.lo
  have hhi:=hh.hi
  by_cases h1:k=1
  ·
   subst h1
   rw [hh.leaf (by decide),if_pos rfl,itoa_digs,pcsJoin_nil]
   show digs n=digs n ++ [] ++ ([] ++ [])
   simp
  rw [if_neg h1]
  by_cases h2:k=2
  ·
   subst h2
   rw [hh.leaf (by decide),if_pos rfl,pcsJoin_nil]
   show _=(34 :: (esc (bytesOf x) ++ [34])) ++ [] ++ ([] ++ [])
   simp
  rw [if_neg h2]
  by_cases h3:k=3
  ·
   subst h3
   rw [hh.leaf (by decide),if_pos rfl,pcsJoin_nil]
   show _=bytesOf x ++ [] ++ ([] ++ [])
   simp
  rw [if_neg h3]
  by_cases h4:k=4
  ·
   subst h4
   rw [hh.leaf (by decide),if_pos rfl,pcsJoin_nil]
   rfl
  rw [if_neg h4]
  by_cases h5:k=5
  ·
   subst h5
   rw [hh.leaf (by decide),if_pos rfl,pcsJoin_nil]
   rfl
  rw [if_neg h5]
  by_cases h6:k=6 ∨ k=11
  ·
   rw [if_pos h6]
   have ha:=hh.args h6
   rw [join_eq0 (if k=14 then 1 else 2) 0 (sepOf k x) [44,32] (by unfold sepOf;rw [if_pos h6];rfl) subs (fun t ht=>⟨ih t ht,by rw [parZ_tm (ha.2 t ht),par_tm (ha.2 t ht)]⟩)]
   have e1:headOf k x n=[lt x,sg sOpen]:=by unfold headOf;rw [if_neg h1,if_neg h2,if_neg h3,if_neg h4,if_neg h5,if_pos h6]
   have e2:tailOf k=[sg sShut]:=by unfold tailOf;rw [if_pos h6]
   rw [e1,e2]
   show _=(bytesOf x ++ ([40] ++ [])) ++ (_ ++ ([41] ++ []))
   simp
  rw [if_neg h6]
  have e2:tailOf k=[]:=by unfold tailOf;rw [if_neg h6]
  rw [e2]
  have two:∀ (sp:List UInt8),(k=7 ∨ k=8 ∨ k=9 ∨ k=10)→bytesPs (sepOf k x)=sp→fzAt 0 (zsOf subs) 0 ++ (sp ++ fzAt 0 (zsOf subs) 1)=bytesPs (headOf k x n) ++ (bytesPs (pcsJoin (if k=14 then 1 else 2) (sepOf k x) subs) ++ bytesPs []):=fun sp hk hsp=>by
   obtain ⟨a,b,e,ia,ib⟩:=hh.two hk
   have e1:headOf k x n=[]:=by unfold headOf;rw [if_neg h1,if_neg h2,if_neg h3,if_neg h4,if_neg h5,if_neg h6,if_neg (by omega),if_neg (by omega),if_pos (by omega)]
   rw [e1,e,(fzAt_two 0 a b).1,(fzAt_two 0 a b).2,wrapZ_no (parZ_0 _),wrapZ_no (parZ_0 _),pcsJoin_cons,pcsMore_cons,pcsMore_nil,bytesPs_append,bytesPs_append,bytesPs_append,hsp,bytes_tm ia,bytes_tm ib,ih a (by rw [e];simp),ih b (by rw [e];simp)]
   show _=[] ++ (_ ++ (_ ++ (_ ++ [])) ++ [])
   simp
  by_cases h7:k=7
  ·
   rw [if_pos h7];exact two _ (.inl h7) (by subst h7;rfl)
  rw [if_neg h7]
  by_cases h8:k=8
  ·
   rw [if_pos h8];exact two _ (.inr (.inl h8)) (by subst h8;rfl)
  rw [if_neg h8]
  by_cases h9:k=9
  ·
   rw [if_pos h9];exact two _ (.inr (.inr (.inl h9))) (by subst h9;rfl)
  rw [if_neg h9]
  by_cases h10:k=10
  ·
   rw [if_pos h10]
   exact two _ (.inr (.inr (.inr h10))) (by
    subst h10
    show bytesPs [.blank,.word (opKind x) x,.blank]=_
    have hk:opKind x ≠ .string:=by unfold opKind;split <;> simp
    rw [bytesPs,bytesPs,bytesPs,bytesPs]
    show [32] ++ (spell (opKind x) x ++ ([32] ++ []))=_
    unfold spell
    rw [if_neg hk]
    rfl)
  rw [if_neg h10]
  by_cases h12:k=12
  ·
   subst h12
   obtain ⟨a,e⟩:=hh.not_ rfl
   rw [if_pos rfl,e,fzAt_one,bytes_wrap2 (ih a (by rw [e];simp)),pcsJoin_cons,pcsMore_nil,bytesPs_append]
   show _=[110,111,116,32] ++ ((_ ++ []) ++ [])
   simp
  rw [if_neg h12]
  by_cases h13:k=13
  ·
   subst h13
   rw [if_pos rfl,join_eq0 2 2 (sepOf 13 x) [32,97,110,100,32] (by rfl) subs (fun t ht=>⟨ih t ht,parZ_2 _⟩)]
   show _=[] ++ (_ ++ [])
   simp
  rw [if_neg h13]
  by_cases h14:k=14
  ·
   subst h14
   rw [if_pos rfl,join_eq0 1 1 (sepOf 14 x) [32,111,114,32] (by rfl) subs (fun t ht=>⟨ih t ht,parZ_1 _⟩)]
   show _=[] ++ (_ ++ [])
   simp
  rw [if_neg h14]
  have h15:k=15 ∨ k=16:=by omega
  rw [if_pos h15]
  obtain ⟨a,b,e,ia⟩:=hh.each h15
  rw [e,(fzAt_two 0 a b).1,wrapZ_no (parZ_0 _),(fzAt_two 2 a b).2,bytes_wrap2 (ih b (by rw [e];simp)),pcsJoin_cons,pcsMore_cons,pcsMore_nil,bytesPs_append,bytesPs_append,bytesPs_append,if_neg h14,bytes_tm ia,ih a (by rw [e];simp)]
  have es:bytesPs (sepOf k x)=[58,32]:=by rcases h15 with rfl | rfl <;> rfl
  have eh:bytesPs (headOf k x n)=(if k=16 then [97,110,121,32] else [97,108,108,32]) ++ (bytesOf x ++ [32,105,110,32]):=by
   rcases h15 with rfl | rfl
   ·
    show [97,108,108] ++ ([32] ++ (bytesOf x ++ ([32] ++ ([105,110] ++ ([32] ++ [])))))=_
    simp
   ·
    show [97,110,121] ++ ([32] ++ (bytesOf x ++ ([32] ++ ([105,110] ++ ([32] ++ [])))))=_
    simp
  rw [es,eh]
  show _=_ ++ ((_ ++ (_ ++ (_ ++ []))) ++ [])
  simp
theorem fz_form {K:Lang} {t:Tm} (h:Wf K t):ofBytes (fz (zOf t))=form t:=by rw [fz_wf _ t (Nat.lt_succ_self _) h];rfl
end Go.Proofs.Fm
namespace Go.Proofs.Fm
mutual
def nds:Tm→Nat
 | .mk _ _ _ subs=>ndsL subs+1
def ndsL:List Tm→Nat
 | []=>0
 | t :: ts=>nds t+ndsL ts
end
mutual
def Txt (B:Nat):Tm→Prop
 | .mk _ x _ subs=>x.size≤B∧TxtL B subs
def TxtL (B:Nat):List Tm→Prop
 | []=>True
 | t :: ts=>Txt B t∧TxtL B ts
end
mutual
theorem Txt.mono {A B:Nat} (h:A≤B):∀ t:Tm,Txt A t→Txt B t
 | .mk _ x _ subs,hh=>by
  rw [Txt] at hh ⊢
  exact ⟨Nat.le_trans hh.1 h,TxtL.mono h subs hh.2⟩
theorem TxtL.mono {A B:Nat} (h:A≤B):∀ ts:List Tm,TxtL A ts→TxtL B ts
 | [],_=>by rw [TxtL];trivial
 | t :: ts,hh=>by
  rw [TxtL] at hh ⊢
  exact ⟨Txt.mono h t hh.1,TxtL.mono h ts hh.2⟩
end
theorem txtL_of {B:Nat}:∀ (ts:List Tm),(∀ t ∈ ts,Txt B t)→TxtL B ts
 | [],_=>by rw [TxtL];trivial
 | t :: ts,h=>by rw [TxtL];exact ⟨h t (by simp),txtL_of ts (fun u hu=>h u (by simp [hu]))⟩
theorem len_within_ge (b:Nat) (t:Tm):len (pcs t)≤len (within b t):=by rw [len_within];split <;> omega
theorem more_ge (b:Nat) (sep:List Pc):∀ ts:List Tm,(ts.map fun t=>len (pcs t)).sum+ts.length * len sep≤len (pcsMore b sep ts)
 | []=>by rw [pcsMore_nil,len_nil];simp
 | t :: ts=>by
  have:=more_ge b sep ts
  have:=len_within_ge b t
  rw [pcsMore_cons,len_append,len_append,List.map_cons,List.sum_cons,List.length_cons,Nat.add_mul,Nat.one_mul]
  omega
theorem join_ge (b:Nat) (sep:List Pc) (ts:List Tm):(ts.map fun t=>len (pcs t)).sum+(ts.length - 1) * len sep≤len (pcsJoin b sep ts):=by
 cases ts with
 | nil=>rw [pcsJoin_nil,len_nil];simp
 | cons t ts=>
  have:=more_ge b sep ts
  have:=len_within_ge b t
  rw [pcsJoin_cons,len_append,List.map_cons,List.sum_cons,List.length_cons,Nat.add_sub_cancel]
  omega
theorem pcs_len (k:Nat) (x:ByteArray) (n:Nat) (subs:List Tm):len (pcs (.mk k x n subs))=len (headOf k x n)+(len (pcsJoin (if k=14 then 1 else 2) (sepOf k x) subs)+len (tailOf k)):=by
 rw [pcs_mk,len_append,len_append]
theorem sum_le {ts:List Tm} {t:Tm} (h:t ∈ ts):len (pcs t)≤(ts.map fun t=>len (pcs t)).sum:=by
 induction ts with
 | nil=>cases h
 | cons u ts ih=>
  rw [List.map_cons,List.sum_cons]
  rcases List.mem_cons.1 h with rfl | h
  ·
   omega
  ·
   have:=ih h;omega
theorem part_len {k:Nat} {x:ByteArray} {n:Nat} {subs:List Tm} {t:Tm} (h:t ∈ subs):len (pcs t)≤len (pcs (.mk k x n subs)):=by
 have h1:=sum_le h
 have h2:=join_ge (if k=14 then 1 else 2) (sepOf k x) subs
 rw [pcs_len]
 omega
theorem ndsL_le:∀ ts:List Tm,(∀ t ∈ ts,nds t≤2 * len (pcs t)+1)→ndsL ts≤2 * (ts.map fun t=>len (pcs t)).sum+ts.length
 | [],_=>by rw [ndsL];simp
 | t :: ts,h=>by
  have:=ndsL_le ts (fun u hu=>h u (by simp [hu]))
  have:=h t (by simp)
  rw [ndsL,List.map_cons,List.sum_cons,List.length_cons]
  omega
theorem text_len {K:Lang} {k:Nat} {x:ByteArray} {n:Nat} {subs:List Tm} (h:WfHere K k x subs):x.size≤len (pcs (.mk k x n subs)):=by
 have hlo:=h.lo
 have hhi:=h.hi
 have h0:ByteArray.empty.size=0:=rfl
 by_cases ht:k=1 ∨ k=4 ∨ k=5 ∨ k=7 ∨ k=8 ∨ k=9 ∨ k=12 ∨ k=13 ∨ k=14
 ·
  rw [h.text ht];omega
 rw [pcs_len]
 have hc:k=2 ∨ k=3 ∨ k=6 ∨ k=10 ∨ k=11 ∨ k=15 ∨ k=16:=by omega
 rcases hc with rfl | rfl | rfl | rfl | rfl | rfl | rfl
 ·
  have e:len (headOf 2 x n)=(34 :: (esc (bytesOf x) ++ [34])).length:=by
   show (bytesPs [.word .string x]).length=_
   rw [bytesPs,bytesPs,List.append_nil];rfl
  have:(bytesOf x).length≤(esc (bytesOf x)).length:=by
   generalize bytesOf x=l
   induction l with
   | nil=>exact Nat.zero_le _
   | cons c l ih=>rw [esc];split <;> simp <;> omega
  rw [bytesOf_length] at this
  rw [e];simp;omega
 ·
  have e:len (headOf 3 x n)=x.size:=by show len [lt x]=_;rw [len_lt,len_nil];rfl
  omega
 ·
  have e:len (headOf 6 x n)=x.size+(1+0):=by show len [lt x,sg sOpen]=_;rw [len_lt,len_sg,len_nil];rfl
  omega
 ·
  obtain ⟨a,b,e,_,_⟩:=h.two (by decide)
  have h2:=join_ge (if 10=14 then 1 else 2) (sepOf 10 x) subs
  have h3:=len_sep_cmp x
  rw [e] at h2 ⊢
  simp only [List.length_cons,List.length_nil] at h2
  omega
 ·
  have e:len (headOf 11 x n)=x.size+(1+0):=by show len [lt x,sg sOpen]=_;rw [len_lt,len_sg,len_nil];rfl
  omega
 ·
  have e:len (headOf 15 x n)=3+(1+(x.size+(1+(2+(1+0))))):=by show len [lt sAll,.blank,lt x,.blank,lt sIn,.blank]=_;rw [len_lt,len_blank,len_lt,len_blank,len_lt,len_blank,len_nil];rfl
  omega
 ·
  have e:len (headOf 16 x n)=3+(1+(x.size+(1+(2+(1+0))))):=by show len [lt sAny,.blank,lt x,.blank,lt sIn,.blank]=_;rw [len_lt,len_blank,len_lt,len_blank,len_lt,len_blank,len_nil];rfl
  omega
theorem nds_le {K:Lang}:∀ (N:Nat) (t:Tm),SizeOf.sizeOf t < N→Wf K t→nds t≤2 * len (pcs t)+1∧Txt (len (pcs t)) t
 | 0,_,h,_=>absurd h (Nat.not_lt_zero _)
 | N+1,.mk k x n subs,hN,h=>by
  obtain ⟨hh,hs⟩:=wf_mk.1 h
  have ih:∀ t ∈ subs,nds t≤2 * len (pcs t)+1∧Txt (len (pcs t)) t:=fun t ht=>by
   have h1:SizeOf.sizeOf t < SizeOf.sizeOf subs:=List.sizeOf_lt_of_mem ht
   have h2:SizeOf.sizeOf (Tm.mk k x n subs)=1+SizeOf.sizeOf k+SizeOf.sizeOf x+SizeOf.sizeOf n+SizeOf.sizeOf subs:=by simp
   exact nds_le N t (by omega) (wfs_all subs hs t ht)
  have hT:Txt (len (pcs (.mk k x n subs))) (.mk k x n subs):=by
   rw [Txt]
   refine ⟨text_len hh,txtL_of _ (fun t ht=>?_)⟩
   have h1:=(ih t ht).2
   have h2:len (pcs t)≤len (pcs (.mk k x n subs)):=part_len ht
   exact Txt.mono h2 t h1
  refine ⟨?_,hT⟩
  have hL:=ndsL_le subs (fun t ht=>(ih t ht).1)
  have hJ:=join_ge (if k=14 then 1 else 2) (sepOf k x) subs
  have hlo:=hh.lo
  have hhi:=hh.hi
  rw [nds,pcs_len]
  by_cases h5:k≤5
  ·
   rw [hh.leaf h5,ndsL];omega
  by_cases h6:k=6 ∨ k=11
  ·
   have e1:headOf k x n=[lt x,sg sOpen]:=by rcases h6 with rfl | rfl <;> rfl
   have e2:sepOf k x=[sg sComma,.blank]:=by rcases h6 with rfl | rfl <;> rfl
   have e3:len (headOf k x n)=x.size+(1+0):=by rw [e1,len_lt,len_sg,len_nil];rfl
   have e4:len (sepOf k x)=2:=by rw [e2];rfl
   rw [e4] at hJ
   omega
  by_cases h7:k=7 ∨ k=8 ∨ k=9 ∨ k=10
  ·
   obtain ⟨a,b,e,_,_⟩:=hh.two h7
   have e4:2≤len (sepOf k x):=by
    rcases h7 with rfl | rfl | rfl | rfl
    ·
     exact (by decide:2≤3)
    ·
     exact (by decide:2≤3)
    ·
     exact (by decide:2≤3)
    ·
     rw [len_sep_cmp];omega
   rw [e] at hJ hL ⊢
   simp only [List.length_cons,List.length_nil,Nat.add_sub_cancel,Nat.one_mul] at hJ hL
   omega
  by_cases h12:k=12
  ·
   obtain ⟨a,e⟩:=hh.not_ h12
   have e3:len (headOf k x n)=4:=by subst h12;rfl
   rw [e] at hJ hL ⊢
   simp only [List.length_cons,List.length_nil] at hJ hL
   omega
  by_cases h13:k=13 ∨ k=14
  ·
   have h2:=hh.many h13
   have e4:4≤len (sepOf k x):=by
    rcases h13 with rfl | rfl
    ·
     exact (by decide:4≤5)
    ·
     exact (by decide:4≤4)
   have:(subs.length - 1) * 4≤(subs.length - 1) * len (sepOf k x):=Nat.mul_le_mul_left _ e4
   omega
  ·
   obtain ⟨a,b,e,_⟩:=hh.each (by omega)
   have e4:len (sepOf k x)=2:=by rcases (by omega:k=15 ∨ k=16) with rfl | rfl <;> rfl
   rw [e4] at hJ
   rw [e] at hJ hL ⊢
   simp only [List.length_cons,List.length_nil] at hJ hL
   omega
end Go.Proofs.Fm
namespace Go.Proofs.YthbdlnflmfchjaaGreatDoor
open Go.RowKit Go.Proofs.Fm
def ZRow (w:World) (G:Option Addr) (us:List Value):Prop:=us=[] ∨ ∃ a,G=some a∧a.block < w.heap.size∧∀ i (h:i < us.length),w.cell? (a.add i)=some us[i]
def n64 (n:Int):Prop:=-9223372036854775808≤n∧n≤9223372036854775807
mutual
def TzAt (w:World):Tz→List Value→Prop
 | .mk k x n subs,cs=>∃ G c us,cs=[.int .u8 (k:Nat),.string x,.int .i64 n,.slice G subs.length c]∧(n64 n∧x.size≤maxLen∧subs.length≤maxLen)∧ZRow w G us∧TzsAt w subs us
def TzsAt (w:World):List Tz→List Value→Prop
 | [],us=>us=[]
 | t :: ts,us=>∃ a b,us=a ++ b∧TzAt w t a∧TzsAt w ts b
end
theorem ZRow.up {w w':World} {G:Option Addr} {us:List Value} (h:ZRow w G us) (hs:w.Since w.heap.size w'):ZRow w' G us:=by
 rcases h with h | ⟨a,h1,h2,h3⟩
 ·
  exact .inl h
 ·
  refine .inr ⟨a,h1,Nat.lt_of_lt_of_le h2 hs.size,fun i hi=>?_⟩
  have hb:(a.add i).block < w.heap.size:=by rw [Go.ChangeShapes.block_add];exact h2
  exact (hs.cell hb).trans (h3 i hi)
mutual
theorem TzAt.up {w w':World} (hs:w.Since w.heap.size w'):∀ (t:Tz) (cs:List Value),TzAt w t cs→TzAt w' t cs
 | .mk k x n subs,cs,h=>by
  unfold TzAt at h ⊢
  obtain ⟨G,c,us,h1,h0,h2,h3⟩:=h
  exact ⟨G,c,us,h1,h0,h2.up hs,TzsAt.up hs subs us h3⟩
theorem TzsAt.up {w w':World} (hs:w.Since w.heap.size w'):∀ (ts:List Tz) (us:List Value),TzsAt w ts us→TzsAt w' ts us
 | [],us,h=>by unfold TzsAt at h ⊢;exact h
 | t :: ts,us,h=>by
  unfold TzsAt at h ⊢
  obtain ⟨a,b,h1,h2,h3⟩:=h
  exact ⟨a,b,h1,TzAt.up hs t a h2,TzsAt.up hs ts b h3⟩
end
theorem ZRow.of {w:World} {A:Nat→Prop} {lo:Nat} {G:Option Addr} {us:List Value} (h:TRow w A lo G us):ZRow w G us:=by
 rcases h with h | ⟨b,h1,_,_,h4,h5⟩
 ·
  exact .inl h.1
 ·
  exact .inr ⟨_,h1,h4,fun i hi=>by
   have:=h5 i hi
   have e:((⟨b,0,none⟩:Addr).add i)=⟨b,i,none⟩:=by unfold Addr.add;split <;> simp_all
   rw [e];exact this⟩
mutual
def N64:Tm→Prop
 | .mk _ x n subs=>(n≤9223372036854775807∧x.size≤maxLen∧subs.length≤maxLen)∧N64s subs
def N64s:List Tm→Prop
 | []=>True
 | t :: ts=>N64 t∧N64s ts
end
mutual
theorem TmAt.z {w:World} {A:Nat→Prop} {lo:Nat}:∀ (t:Tm) (cs:List Value),N64 t→TmAt w A lo t cs→TzAt w (zOf t) cs
 | .mk k x n subs,cs,hn,h=>by
  unfold TmAt at h
  rw [N64] at hn
  obtain ⟨G,c,us,h1,h2,h3⟩:=h
  rw [zOf,TzAt]
  refine ⟨G,c,us,by rw [zsOf_length];exact h1,⟨⟨by omega,by omega⟩,hn.1.2.1,by rw [zsOf_length];exact hn.1.2.2⟩,.of h2,TmsAt.z subs us hn.2 h3⟩
theorem TmsAt.z {w:World} {A:Nat→Prop} {lo:Nat}:∀ (ts:List Tm) (us:List Value),N64s ts→TmsAt w A lo ts us→TzsAt w (zsOf ts) us
 | [],us,_,h=>by unfold TmsAt at h;rw [zsOf,TzsAt];exact h
 | t :: ts,us,hn,h=>by
  unfold TmsAt at h
  rw [N64s] at hn
  obtain ⟨a,b,h1,h2,h3⟩:=h
  rw [zsOf,TzsAt]
  exact ⟨a,b,h1,TmAt.z t a hn.1 h2,TmsAt.z ts b hn.2 h3⟩
end
mutual
def eqZ:Tz→Tz→Bool
 | .mk k x n subs,.mk k' x' n' subs'=>decide (k=k') && decide (x=x') && decide (n=n') && eqZs subs subs'
def eqZs:List Tz→List Tz→Bool
 | [],[]=>true
 | t :: ts,u :: us=>eqZ t u && eqZs ts us
 | _,_=>false
end
mutual
theorem eqZ_iff:∀ t u:Tz,eqZ t u=true ↔ t=u
 | .mk k x n subs,.mk k' x' n' subs'=>by
  rw [eqZ]
  simp only [Bool.and_eq_true,decide_eq_true_eq,eqZs_iff subs subs',Tz.mk.injEq]
  constructor
  ·
   rintro ⟨⟨⟨h1,h2⟩,h3⟩,h4⟩;exact ⟨h1,h2,h3,h4⟩
  ·
   rintro ⟨h1,h2,h3,h4⟩;exact ⟨⟨⟨h1,h2⟩,h3⟩,h4⟩
theorem eqZs_iff:∀ ts us:List Tz,eqZs ts us=true ↔ ts=us
 | [],[]=>by rw [eqZs];simp
 | [],u :: us=>by rw [eqZs] <;> simp
 | t :: ts,[]=>by rw [eqZs] <;> simp
 | t :: ts,u :: us=>by
  rw [eqZs]
  simp only [Bool.and_eq_true,eqZ_iff t u,eqZs_iff ts us,List.cons.injEq]
end
theorem tz_4 {w:World} {t:Tz} {cs:List Value} (h:TzAt w t cs):∃ (k:Nat) (x:ByteArray) (n:Int) (G:Option Addr) (m c:Nat),cs=[.int .u8 (k:Nat),.string x,.int .i64 n,.slice G m c]:=by
 cases t with
 | mk k x n subs=>unfold TzAt at h;obtain ⟨G,c,us,h1,_⟩:=h;exact ⟨k,x,n,G,_,c,h1⟩
theorem tzs_get {w:World}:∀ (ts:List Tz) (us:List Value),TzsAt w ts us→us.length=ts.length * 4∧∀ i (h:i < ts.length),∃ a b c d,TzAt w ts[i] [a,b,c,d]∧us[i * 4]?=some a∧us[i * 4+1]?=some b∧us[i * 4+2]?=some c∧us[i * 4+3]?=some d
 | [],us,h=>by
  unfold TzsAt at h
  subst h
  exact ⟨rfl,fun i h=>absurd h (Nat.not_lt_zero _)⟩
 | t :: ts,us,h=>by
  unfold TzsAt at h
  obtain ⟨a,b,rfl,h1,h2⟩:=h
  obtain ⟨k,x,n,G,m,c,rfl⟩:=tz_4 h1
  obtain ⟨hl,hg⟩:=tzs_get ts b h2
  refine ⟨by rw [List.length_append,hl,List.length_cons];simp;omega,fun i hi=>?_⟩
  cases i with
  | zero=>exact ⟨_,_,_,_,h1,rfl,rfl,rfl,rfl⟩
  | succ i=>
   obtain ⟨c0,c1,c2,c3,g1,g2,g3,g4,g5⟩:=hg i (Nat.lt_of_succ_lt_succ hi)
   have e:(i+1) * 4=i * 4+1+1+1+1:=by omega
   exact ⟨c0,c1,c2,c3,g1,by rw [e];exact g2,by rw [e];exact g3,by rw [e];exact g4,by rw [e];exact g5⟩
mutual
def wtZ:Tz→Nat
 | .mk _ x _ subs=>1+x.size+wtZs subs
def wtZs:List Tz→Nat
 | []=>0
 | t :: ts=>wtZ t+wtZs ts
end
theorem wtZs_le:∀ (ts:List Tz) (i:Nat) (h:i < ts.length),wtZ ts[i]≤wtZs ts
 | [],i,h=>absurd h (Nat.not_lt_zero _)
 | t :: ts,0,h=>by show wtZ t≤_;rw [wtZs];omega
 | t :: ts,i+1,h=>by
  have h':i < ts.length:=Nat.lt_of_succ_lt_succ h
  have:=wtZs_le ts i h'
  show wtZ ts[i]≤_
  rw [wtZs];omega
theorem wtZ_pos (t:Tz):0 < wtZ t:=by cases t;rw [wtZ];omega
theorem wtZs_length:∀ ts:List Tz,ts.length≤wtZs ts
 | []=>Nat.zero_le _
 | t :: ts=>by
  have:=wtZs_length ts
  have:=wtZ_pos t
  rw [List.length_cons,wtZs];omega
theorem add_field (a:Addr) (n j:Nat) (hj:j ≠ 0):(⟨(a.add n).block,(a.add n).off+j,none⟩:Addr)=a.add (n+j):=by
 unfold Addr.add
 by_cases h:n=0
 ·
  subst h;simp [hj]
 ·
  simp [h];omega
theorem zrow_get {w:World} {G:Option Addr} {us:List Value} {ts:List Tz} (hr:ZRow w G us) (hs:TzsAt w ts us) (i:Nat) (h:i < ts.length):
  ∃ (a:Addr) (k:Nat) (x:ByteArray) (n:Int) (G':Option Addr) (m c:Nat),G=some a∧a.block < w.heap.size∧TzAt w ts[i] [.int .u8 (k:Nat),.string x,.int .i64 n,.slice G' m c]∧
   w.cell? (a.add (i * 4))=some (.int .u8 (k:Nat))∧w.cell? ⟨(a.add (i * 4)).block,(a.add (i * 4)).off+1,none⟩=some (.string x)∧w.cell? ⟨(a.add (i * 4)).block,(a.add (i * 4)).off+2,none⟩=some (.int .i64 n)∧w.cell? ⟨(a.add (i * 4)).block,(a.add (i * 4)).off+3,none⟩=some (.slice G' m c):=by
 obtain ⟨hl,hg⟩:=tzs_get ts us hs
 obtain ⟨v0,v1,v2,v3,g0,g1,g2,g3,g4⟩:=hg i h
 obtain ⟨k,x,n,G',m,c,e⟩:=tz_4 g0
 injection e with e0 e;injection e with e1 e;injection e with e2 e;injection e with e3 _
 subst e0 e1 e2 e3
 rcases hr with rfl | ⟨a,h1,h2,h3⟩
 ·
  simp at hl;omega
 ·
  have hc:∀ j v,us[j]?=some v→w.cell? (a.add j)=some v:=fun j v hj=>by
   obtain ⟨q1,q2⟩:=List.getElem?_eq_some_iff.1 hj
   rw [h3 j q1,q2]
  exact ⟨a,k,x,n,G',m,c,h1,h2,g0,hc _ _ g1,by rw [add_field _ _ _ (by decide)];exact hc _ _ g2,by rw [add_field _ _ _ (by decide)];exact hc _ _ g3,by rw [add_field _ _ _ (by decide)];exact hc _ _ g4⟩
theorem lift_add {w wr:World} (hW:w.Since w.heap.size wr) {a:Addr} (ha:a.block < w.heap.size) (n:Nat):(∀ v,w.cell? (a.add n)=some v→wr.cell? (a.add n)=some v)∧∀ j v,w.cell? ⟨(a.add n).block,(a.add n).off+j,none⟩=some v→wr.cell? ⟨(a.add n).block,(a.add n).off+j,none⟩=some v:=
 ⟨fun v h=>(World.cell?_of_block (hW.block _ (by rw [Go.ChangeShapes.block_add];exact ha))).trans h,fun j v h=>(World.cell?_of_block (hW.block _ (by show (a.add n).block < _;rw [Go.ChangeShapes.block_add];exact ha))).trans h⟩
end Go.Proofs.YthbdlnflmfchjaaGreatDoor
