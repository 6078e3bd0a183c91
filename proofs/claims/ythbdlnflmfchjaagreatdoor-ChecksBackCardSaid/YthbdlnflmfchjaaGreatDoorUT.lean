/- The specification's own walked. -/
import Derived.Test.YthbdlnflmfchjaaGreatDoorTC
import Derived.Test.YthbdlnflmfchjaaGreatDoorRL
import Derived.Deep.RegionLaw
import Derived.Deep.CutRange
import Derived.Test.YthbdlnflmfchjaaGreatDoorZ2
import Derived.Test.YthbdlnflmfchjaaGreatDoorWO
import Derived.Test.YthbdlnflmfchjaaGreatDoorPT
import Derived.Test.YthbdlnflmfchjaaGreatDoorUI
set_option linter.unusedVariables false
set_option linter.unusedSimpArgs false
namespace Go.Proofs.YthbdlnflmfchjaaGreatDoor
open Go.RowKit Go.Proofs.Fm Go.Proofs.MapEnt
def NsAt (w:World) (G:Option Addr) (ns:List ByteArray):Prop:=(ns=[]∧G=none) ∨ ∃ b,G=some ⟨b,0,none⟩∧SsAt w b ns
theorem NsAt.up {w w':World} {G:Option Addr} {ns:List ByteArray} (h:NsAt w G ns) (hs:w.Since w.heap.size w'):NsAt w' G ns:=by
 rcases h with h | ⟨b,h1,h2⟩
 ·
  exact .inl h
 ·
  exact .inr ⟨b,h1,h2.up hs⟩
section
variable {k:Nat} {x:ByteArray} {subs:List Tm} {ks:List Nat} {ns:List ByteArray} {e:Ent}
end
end Go.Proofs.YthbdlnflmfchjaaGreatDoor
namespace Go.Proofs.YthbdlnflmfchjaaGreatDoor
open Go.RowKit Go.Proofs.Fm Go.Proofs.MapEnt
theorem trow_get {w:World} {A:Nat→Prop} {lo:Nat} {G:Option Addr} {us:List Value} {subs:List Tm} (hr:TRow w A lo G us) (hs:TmsAt w A lo subs us) (i:Nat) (h:i < subs.length):
  ∃ (b kk:Nat) (xx:ByteArray) (nn:Nat) (G':Option Addr) (m c:Nat) (ss:List Tm),G=some ⟨b,0,none⟩∧b < w.heap.size∧subs[i]=.mk kk xx nn ss∧TmAt w A lo subs[i] [.int .u8 (kk:Nat),.string xx,.int .i64 (nn:Nat),.slice G' m c]∧
   w.cell? ⟨b,i * 4,none⟩=some (.int .u8 (kk:Nat))∧w.cell? ⟨b,i * 4+1,none⟩=some (.string xx)∧w.cell? ⟨b,i * 4+2,none⟩=some (.int .i64 (nn:Nat))∧w.cell? ⟨b,i * 4+3,none⟩=some (.slice G' m c):=by
 obtain ⟨hl,hg⟩:=tms_get subs us hs
 obtain ⟨v0,v1,v2,v3,g0,g1,g2,g3,g4⟩:=hg i h
 rcases hr with ⟨e,_⟩ | ⟨b,e1,_,_,e4,e5⟩
 ·
  rw [e] at hl;simp at hl;omega
 ·
  have hc:∀ j v,us[j]?=some v→w.cell? ⟨b,j,none⟩=some v:=fun j v hj=>by
   obtain ⟨h1,h2⟩:=List.getElem?_eq_some_iff.1 hj
   rw [e5 j h1,h2]
  have q:=g0
  generalize ht:subs[i]=t at g0
  cases t with
  | mk kk xx nn ss=>
   unfold TmAt at g0
   obtain ⟨G',c,us',e,_,_⟩:=g0
   injection e with e0 e;injection e with e1' e;injection e with e2 e;injection e with e3 _
   subst e0 e1' e2 e3
   rw [ht] at q
   exact ⟨b,kk,xx,nn,G',_,c,ss,e1,e4,rfl,q,hc _ _ g1,hc _ _ g2,hc _ _ g3,hc _ _ g4⟩
end Go.Proofs.YthbdlnflmfchjaaGreatDoor
namespace Go.Proofs.YthbdlnflmfchjaaGreatDoor
open Go.RowKit Go.Proofs.Fm Go.Proofs.MapEnt
set_option maxHeartbeats 200000
set_option maxRecDepth 1000000
theorem info9:(Tryz.prog.info? 9).map (fun i=>(i.zero,i.size,i.bytes))=some (some (.string ByteArray.empty),1,16):=by kernel_rfl
theorem own_empty {W:World} {E base:Nat} (h:W.heap[E]?=some (.cells #[] 9)) (hb:base≤E):W.ownsRow base 9 1 (.slice (some ⟨E,0,none⟩) 0 0) 0 []:=
 ⟨rfl,.inr ⟨E,0,#[],rfl,hb,h,Nat.le_refl _,Nat.zero_le _,rfl,rfl⟩⟩
theorem app_names {W:World} {E base:Nat} {Gn:Option Addr} {ns:List ByteArray} (cn:Nat) (hE:W.heap[E]?=some (.cells #[] 9)) (hb:base≤E) (hbase:base≤W.heap.size) (hns:NsAt W Gn ns) (hn:ns.length≤100000):
  ∃ W' g' cp',(Builtin.append_ #[70,70] 70 #[.slice (some ⟨E,0,none⟩) 0 0,.slice Gn ns.length cn]).run Tryz.prog W=.ok (.slice (some ⟨g',0,none⟩) ns.length cp') W'∧
   Hid (W'.ownsRow base 9 1 (.slice (some ⟨g',0,none⟩) ns.length cp') ns.length (ns.map Value.string))∧Hid (W.Since base W')∧Hid (∀ k,k < W.heap.size→k ≠ E→W'.heap[k]?=W.heap[k]?):=by
 have hO:=own_empty (base:=base) hE hb
 rcases hns with ⟨rfl,rfl⟩ | ⟨b,rfl,hs⟩
 ·
  exact ⟨W,E,0,rfl,Lib.hid hO,Lib.hid (World.Since.refl _ _),Lib.hid (fun _ _ _=>rfl)⟩
 ·
  obtain ⟨i0,hi,hz0,hz1,hz2⟩:=info_parts info9
  obtain ⟨v',w',r1,r2,r3,r0,r4⟩:=run_append_own_at (P:=Tryz.prog) (w:=W) base 70 70 9 i0 (.string ByteArray.empty) 1 16 Tryz.underlying70 hi hz0 hz1 hz2 rfl (by decide) _ 0 [] hO ⟨b,0,none⟩ ns.length cn (ns.map Value.string) (by rw [List.length_map];omega)
   (fun j u hu=>by
    have hj:j < ns.length:=by
     rcases Nat.lt_or_ge j ns.length with h | h
     ·
      exact h
     ·
      rw [List.getElem?_eq_none (by rw [List.length_map];exact h)] at hu;cases hu
    rw [List.getElem?_map,List.getElem?_eq_getElem hj] at hu
    injection hu with hu
    have e1:((⟨b,0,none⟩:Addr).add j)=⟨b,j,none⟩:=by unfold Addr.add;split <;> simp_all
    rw [e1,hs.2 j hj,← hu])
   (fun u hu=>by
    obtain ⟨s,_,rfl⟩:=List.mem_map.1 hu
    rfl) (by simp only [maxLen];omega) (by omega) hbase
  rw [Nat.zero_add,List.nil_append] at r2
  obtain ⟨g',cp',rfl⟩:∃ g' cp',v'=.slice (some ⟨g',0,none⟩) ns.length cp':=by
   rcases r2.2 with ⟨e,e2⟩ | ⟨g',cp,cur,e,_⟩
   ·
    have:=(r0.1 e).1
    cases this
   ·
    exact ⟨g',cp,e⟩
  refine ⟨w',g',cp',r1,Lib.hid r2,Lib.hid ((World.Since.refl base W).grown r3 hbase (fun q hq=>own_ge hO q hq)),Lib.hid (fun k hk hne=>r3.block k hk (fun h=>hne ?_))⟩
  injection h
end Go.Proofs.YthbdlnflmfchjaaGreatDoor
namespace Go.Proofs.YthbdlnflmfchjaaGreatDoor
open Go.RowKit Go.Proofs.Fm Go.Proofs.MapEnt
theorem ownK_err {k:Nat} {x:ByteArray} {subs:List Tm} {l:List Nat} {ns:List ByteArray} {e:Nat} (h:ownK k x subs l ns=.error e):1≤e∧e≤5:=by
 unfold ownK at h
 split at h
 ·
  cases h
 split at h
 ·
  cases h
 split at h
 ·
  split at h
  ·
   cases h
  ·
   injection h with h;omega
 split at h
 ·
  cases h
 split at h
 ·
  split at h
  ·
   injection h with h;omega
  ·
   split at h
   ·
    cases h
   ·
    injection h with h;omega
 split at h
 ·
  split at h
  ·
   cases h
  ·
   injection h with h;omega
 split at h
 ·
  split at h
  ·
   cases h
  ·
   injection h with h;omega
 split at h
 ·
  split at h
  ·
   cases h
  ·
   injection h with h;omega
 ·
  cases h
mutual
theorem typK_err:∀ (t:Tm) (ns:List ByteArray) (e:Nat),typK t ns=.error e→1≤e∧e≤5
 | .mk k x n subs,ns,e,h=>by
  rw [typK_mk] at h
  split at h
  ·
   rename_i e2 h2
   injection h with h
   subst h
   exact typL_err _ _ _ _ _ _ h2
  ·
   exact ownK_err h
theorem typL_err (q:Bool) (x:ByteArray):∀ (ts:List Tm) (i:Nat) (ns:List ByteArray) (e:Nat),typL q x ts i ns=.error e→1≤e∧e≤5
 | [],i,ns,e,h=>by rw [typL_nil] at h;cases h
 | t :: ts,i,ns,e,h=>by
  rw [typL_cons] at h
  split at h
  ·
   rename_i e2 h2
   injection h with h
   subst h
   exact typK_err t _ _ h2
  ·
   split at h
   ·
    rename_i e2 h2
    injection h with h
    subst h
    exact typL_err q x ts _ _ _ h2
   ·
    cases h
end
end Go.Proofs.YthbdlnflmfchjaaGreatDoor
namespace Go.Proofs.YthbdlnflmfchjaaGreatDoor
open Go.RowKit Go.Proofs.Fm Go.Proofs.MapEnt
abbrev E0:Obj:=.cells #[] 9
abbrev X0 (x:ByteArray):Obj:=.cells #[.string x] 9
theorem cell1_of {W:World} {b:Nat} {x:ByteArray} (h:W.heap[b]?=some (X0 x)):W.cell? ⟨b,0,none⟩=some (.string x):=by
 unfold World.cell?
 show (match W.heap[b]? with
  | some (.cells c _ _)=>_
  | _=>_)=_
 rw [h]
 rfl
theorem step_append_run {ts:TypeId} {ops:Array Oper} {o:Oper} {a:Act} {w w':World} {K:Act→World→Prop} {Q:Exit→Act→World→Prop} {E:Prop} (hg:o.guard=none) (s x:Operand)
  (ho:o.op=.call { callee:=.builtin .append,args:=#[s,x],argTypes:=#[ts,ts] }) (ht:o.type=ts)
  {v v' xv:Value} (hr:(Builtin.append_ #[ts,ts] ts #[v,xv]).run Tryz.prog w=.ok v' w') (hs:a.eval s=v) (hx:a.eval x=xv)
  (h:K (a.put o.dst v') w'):if Region.wanted o (yielded ops a.tmps)=true then Oper.wp Tryz.prog o a w K Q else E:=by
 have hw:Region.wanted o (yielded ops a.tmps)=true:=by simp [Region.wanted,hg]
 rw [if_pos hw]
 exact oper_append_g s x ho ht hs hx hr h
end Go.Proofs.YthbdlnflmfchjaaGreatDoor
namespace Go.Proofs.YthbdlnflmfchjaaGreatDoor
open Go.RowKit Go.Proofs.Fm Go.Proofs.MapEnt
theorem depL_at:∀ (ts:List Tm) (i:Nat) (h:i < ts.length),dep ts[i]≤depL ts
 | [],i,h=>absurd h (Nat.not_lt_zero _)
 | t :: ts,0,h=>by show dep t≤max (dep t) (depL ts);omega
 | t :: ts,i+1,h=>by
  have h':i < ts.length:=Nat.lt_of_succ_lt_succ h
  have:=depL_at ts i h'
  show dep ts[i]≤max (dep t) (depL ts);omega
theorem inner_len (q:Bool) (x:ByteArray) (i:Nat) (ns:List ByteArray):(inner q x i ns).length≤ns.length+1:=by
 unfold inner;split
 ·
  rw [List.length_append];simp
 ·
  omega
end Go.Proofs.YthbdlnflmfchjaaGreatDoor
namespace Go.Proofs.YthbdlnflmfchjaaGreatDoor
open Go.RowKit Go.Proofs.Fm Go.Proofs.MapEnt
def lex6:Lex:=⟨isT,lang.kept⟩
theorem oper_in:∀ x,lang.oper x=true→TokOk lex6 .letters x→x=sIn:=fun x h ht=>by
 have h:(operL.any fun y=>decide (y=x))=true:=h
 obtain ⟨y,hy,e⟩:=List.any_eq_true.1 h
 have e:=of_decide_eq_true e
 subst e
 obtain ⟨_,h2,_⟩:=ht
 have hno:∀ c,c ∈ bytesOf y→97≤c.toNat∧c.toNat≤122:=h2
 simp only [operL,List.mem_cons,List.not_mem_nil,or_false] at hy
 rcases hy with rfl | rfl | rfl | rfl | rfl | rfl | rfl | rfl
 ·
  exact absurd (hno 61 (by decide)) (by decide)
 ·
  exact absurd (hno 61 (by decide)) (by decide)
 ·
  exact absurd (hno 61 (by decide)) (by decide)
 ·
  exact absurd (hno 61 (by decide)) (by decide)
 ·
  exact absurd (hno 60 (by decide)) (by decide)
 ·
  exact absurd (hno 62 (by decide)) (by decide)
 ·
  rfl
 ·
  exact absurd (hno 126 (by decide)) (by decide)
mutual
theorem siz_nds:∀ t:Tm,siz t=nds t
 | .mk _ _ _ subs=>by rw [siz,nds,sizL_nds subs]
theorem sizL_nds:∀ ts:List Tm,sizL ts=ndsL ts
 | []=>rfl
 | t :: ts=>by rw [sizL,ndsL,siz_nds t,sizL_nds ts]
end
theorem tree_ok {s:ByteArray} {l:List Wd} {e f m:Nat} {ts:List Tm} (hs:s.size≤1000) (hw:wordsFrom isT lang.kept s 0=.ok l) (h:parse lang l e f (.several true) 0=some (.ok ts m)):∃ t,ts=[t]∧FoF lang lex6 t∧Wf lang t∧(form t).size≤2000∧siz t≤5000∧Txt 2000 t∧TyOk t:=by
 obtain ⟨t,rfl,h1,_⟩:=parsed_ok (X:=lex6) oper_in hw h
 have h2:=parsed_size (X:=lex6) oper_in hw h
 have h3:Wf lang t:=fo_wf h1
 have h4:(form t).size=len (pcs t):=by unfold form len;rw [← bytesOf_length,bytes_of]
 obtain ⟨h5,h6⟩:=nds_le _ t (Nat.lt_succ_self _) h3
 have h7:=Txt.mono (by omega:len (pcs t)≤2000) t h6
 exact ⟨t,rfl,h1,h3,by omega,by rw [siz_nds];omega,h7,tyOk_of (by omega:2000≤100000) t h3 h7⟩
def lastOf (t:Tm) (T:Except Nat Nat):Except (Nat × Nat) Tm:=match T with
 | .error c=>.error (0,c)
 | .ok _=>.ok t
def AfterIs (l:List Wd) (e:Nat) (r0:Re) (r:Except (Nat × Nat) Tm):Prop:=match r0 with
 | .bad p=>r=.error (p,4)
 | .ok ts m=>∀ t,ts=[t]→r=(if m < l.length then .error (placeOf l e m,4) else if 24 < dep t then .error (0,3) else lastOf t (typK t []))
def PIs (s:ByteArray) (r:Except (Nat × Nat) Tm):Prop:=
 if 1000 < s.size then r=.error (0,3) else match wordsFrom isT lang.kept s 0 with
  | .error p=>r=.error (p,4)
  | .ok l=>∃ f r0,parse lang l s.size f (.several true) 0=some r0∧AfterIs l s.size r0 r
theorem pis_long {s:ByteArray} (h:1000 < s.size) (r:Except (Nat × Nat) Tm):PIs s r ↔ r=.error (0,3):=by unfold PIs;rw [if_pos h]
theorem pis_words {s:ByteArray} (h:¬ 1000 < s.size) {p:Nat} (hw:wordsFrom isT lang.kept s 0=.error p) (r:Except (Nat × Nat) Tm):PIs s r ↔ r=.error (p,4):=by unfold PIs;rw [if_neg h,hw]
theorem pis_tree {s:ByteArray} (h:¬ 1000 < s.size) {l:List Wd} (hw:wordsFrom isT lang.kept s 0=.ok l) (r:Except (Nat × Nat) Tm):PIs s r ↔ ∃ f r0,parse lang l s.size f (.several true) 0=some r0∧AfterIs l s.size r0 r:=by unfold PIs;rw [if_neg h,hw]
theorem pis_some (s:ByteArray):∃ r,PIs s r:=by
 by_cases h:1000 < s.size
 ·
  exact ⟨_,(pis_long h _).2 rfl⟩
 ·
  cases hw:wordsFrom isT lang.kept s 0 with
  | error p=>exact ⟨_,(pis_words h hw _).2 rfl⟩
  | ok l=>
   obtain ⟨f,r0,hr⟩:=parse_halts lang l s.size (.several true) 0
   cases r0 with
   | bad p=>exact ⟨_,(pis_tree h hw _).2 ⟨f,_,hr,rfl⟩⟩
   | ok ts m=>
    obtain ⟨t,rfl,_⟩:=tree_ok (by omega) hw hr
    exact ⟨_,(pis_tree h hw _).2 ⟨f,_,hr,fun u hu=>by injection hu with hu;subst hu;rfl⟩⟩
def spRes (r:Except (Nat × Nat) Tm) (E:Ending) (w':World):Prop:=match r with
 | .ok t=>∃ (cs:List Value) (A:Nat→Prop) (lo:Nat),E=.returned (.tuple #[.agg cs.toArray,.int .i64 0,.int .u8 0])∧TmAt w' A lo t cs
 | .error (p,c)=>E=.returned (.tuple #[zT,.int .i64 (p:Nat),.int .u8 (c:Nat)])
end Go.Proofs.YthbdlnflmfchjaaGreatDoor
namespace Go.Proofs.YthbdlnflmfchjaaGreatDoor
open Go.RowKit Go.Proofs.Fm Go.Proofs.MapEnt
theorem ent_name {x:ByteArray} {e:Ent} (h:findE x=some e):e ∈ table∧e.name=x:=by
 unfold findE at h
 exact ⟨List.mem_of_find?_eq_some h,of_decide_eq_true (List.find?_some (p:=fun y:Ent=>decide (y.name=x)) h)⟩
theorem names_ok:∀ e ∈ table,e.name ≠ sNot∧e.name ≠ sAll∧e.name ≠ sAny∧e.name ≠ sOpen∧e.name ≠ sSource∧e.name ≠ sTarget:=by decide +kernel
theorem opers_ok:∀ x ∈ operL,x ≠ sStar∧x ≠ sPlus∧x ≠ sMinus:=by decide +kernel
theorem ent_kept {x:ByteArray} {e:Ent} (h:findE x=some e):lang.kept x=true:=by
 unfold lang;dsimp only;rw [h];rfl
theorem lang_ok:LangOk lang where
 not_:=by decide +kernel
 all_:=by decide +kernel
 any_:=by decide +kernel
 in_:=by decide +kernel
 or_:=by decide +kernel
 and_:=by decide +kernel
 src:=by decide +kernel
 tgt:=by decide +kernel
 test x h:=by obtain ⟨e,h1,_⟩:=test_ent h;exact ent_kept h1
 func x h:=by obtain ⟨e,h1,_⟩:=func_ent h;exact ent_kept h1
 apart x h h':=by
  obtain ⟨e,h1,h2⟩:=func_ent h
  obtain ⟨e',h1',h2'⟩:=test_ent h'
  rw [h1] at h1'
  injection h1' with h1'
  subst h1'
  exact h2 h2'
 testW x h:=by
  obtain ⟨e,h1,_⟩:=test_ent h
  obtain ⟨h2,rfl⟩:=ent_name h1
  exact names_ok e h2
 funcW x h:=by
  obtain ⟨e,h1,_⟩:=func_ent h
  obtain ⟨h2,rfl⟩:=ent_name h1
  obtain ⟨a,b,c,d,_⟩:=names_ok e h2
  exact ⟨a,b,c,d⟩
 oper x h:=by
  have h:(operL.any fun y=>decide (y=x))=true:=h
  obtain ⟨y,hy,e⟩:=List.any_eq_true.1 h
  have e:=of_decide_eq_true e
  subst e
  exact opers_ok y hy
mutual
def Nm:Tm→Prop
 | .mk _ _ n subs=>n≤1000000∧Nms subs
def Nms:List Tm→Prop
 | []=>True
 | t :: ts=>Nm t∧Nms ts
end
theorem nms_of:∀ (ts:List Tm),(∀ t ∈ ts,Nm t)→Nms ts
 | [],_=>by rw [Nms];trivial
 | t :: ts,h=>by rw [Nms];exact ⟨h t (by simp),nms_of ts (fun u hu=>h u (by simp [hu]))⟩
theorem nm_mk {k n:Nat} {x:ByteArray} {subs:List Tm} (h1:n≤1000000) (h2:∀ t ∈ subs,Nm t):Nm (.mk k x n subs):=by rw [Nm];exact ⟨h1,nms_of _ h2⟩
theorem sub_size {k n:Nat} {x:ByteArray} {subs:List Tm} {t:Tm} {N:Nat} (h:t ∈ subs) (hN:SizeOf.sizeOf (Tm.mk k x n subs) < N+1):SizeOf.sizeOf t < N:=by
 have h1:SizeOf.sizeOf t < SizeOf.sizeOf subs:=List.sizeOf_lt_of_mem h
 have h2:SizeOf.sizeOf (Tm.mk k x n subs)=1+SizeOf.sizeOf k+SizeOf.sizeOf x+SizeOf.sizeOf n+SizeOf.sizeOf subs:=by simp
 omega
theorem nm_terms {X:Lex}:∀ (N:Nat) (t:Tm),SizeOf.sizeOf t < N→(AtF lang X t→Nm t)∧(PrF lang X t→Nm t)∧(TeF lang X t→Nm t)
 | 0,_,h=>absurd h (Nat.not_lt_zero _)
 | N+1,t,hN=>by
  have ih:=nm_terms (X:=X) N
  have h1:AtF lang X t→Nm t:=fun h=>by
   cases h with
   | num n hn=>exact nm_mk hn (fun t h=>by cases h)
   | text x _=>exact nm_mk (by decide) (fun t h=>by cases h)
   | name x _ _=>exact nm_mk (by decide) (fun t h=>by cases h)
   | src=>exact nm_mk (by decide) (fun t h=>by cases h)
   | tgt=>exact nm_mk (by decide) (fun t h=>by cases h)
   | call x a xs hf _ _ _ ha hxs=>
    refine nm_mk (by decide) (fun b hb=>?_)
    have:=ih b (sub_size hb hN)
    rcases List.mem_cons.1 hb with rfl | hb
    ·
     exact this.2.2 ha
    ·
     exact this.2.2 (hxs b hb)
  have h2:PrF lang X t→Nm t:=fun h=>by
   cases h with
   | atom _ h=>exact h1 h
   | mul p a hp ha=>
    refine nm_mk (by decide) (fun b hb=>?_)
    have:=ih b (sub_size hb hN)
    rcases List.mem_cons.1 hb with rfl | hb
    ·
     exact this.2.1 hp
    ·
     rw [List.mem_singleton.1 hb] at this ⊢;exact this.1 ha
  refine ⟨h1,h2,fun h=>?_⟩
  cases h with
  | prod _ h=>exact h2 h
  | add u p hu hp=>
   refine nm_mk (by decide) (fun b hb=>?_)
   have:=ih b (sub_size hb hN)
   rcases List.mem_cons.1 hb with rfl | hb
   ·
    exact this.2.2 hu
   ·
    rw [List.mem_singleton.1 hb] at this ⊢;exact this.2.1 hp
  | sub u p hu hp=>
   refine nm_mk (by decide) (fun b hb=>?_)
   have:=ih b (sub_size hb hN)
   rcases List.mem_cons.1 hb with rfl | hb
   ·
    exact this.2.2 hu
   ·
    rw [List.mem_singleton.1 hb] at this ⊢;exact this.2.1 hp
theorem nm_te {X:Lex} {t:Tm} (h:TeF lang X t):Nm t:=(nm_terms _ t (Nat.lt_succ_self _)).2.2 h
theorem nm_fo {X:Lex}:∀ (N:Nat) (t:Tm),SizeOf.sizeOf t < N→FoF lang X t→Nm t
 | 0,_,h,_=>absurd h (Nat.not_lt_zero _)
 | N+1,t,hN,h=>by
  have ih:=nm_fo (X:=X) N
  cases h with
  | cmp x a b _ _ ha hb=>
   refine nm_mk (by decide) (fun c hc=>?_)
   rcases List.mem_cons.1 hc with rfl | hc
   ·
    exact nm_te ha
   ·
    rw [List.mem_singleton.1 hc];exact nm_te hb
  | test x a xs ht _ ha hxs=>
   refine nm_mk (by decide) (fun c hc=>?_)
   rcases List.mem_cons.1 hc with rfl | hc
   ·
    exact nm_te ha
   ·
    exact nm_te (hxs c hc)
  | not a ha=>
   refine nm_mk (by decide) (fun c hc=>?_)
   have:=ih c (sub_size hc hN)
   rw [List.mem_singleton.1 hc] at this ⊢;exact this ha
  | and a b xs ha hb hxs=>
   refine nm_mk (by decide) (fun c hc=>?_)
   have:=ih c (sub_size hc hN)
   rcases List.mem_cons.1 hc with rfl | hc
   ·
    exact this ha
   ·
    rcases List.mem_cons.1 hc with rfl | hc
    ·
     exact this hb
    ·
     exact this (hxs c hc)
  | or a b xs ha hb hxs=>
   refine nm_mk (by decide) (fun c hc=>?_)
   have:=ih c (sub_size hc hN)
   rcases List.mem_cons.1 hc with rfl | hc
   ·
    exact this ha
   ·
    rcases List.mem_cons.1 hc with rfl | hc
    ·
     exact this hb
    ·
     exact this (hxs c hc)
  | each k x a b hk _ _ ha hb=>
   refine nm_mk (by decide) (fun c hc=>?_)
   have:=ih c (sub_size hc hN)
   rcases List.mem_cons.1 hc with rfl | hc
   ·
    exact nm_te ha
   ·
    rw [List.mem_singleton.1 hc] at this ⊢;exact this hb
theorem sizL_length:∀ ts:List Tm,ts.length≤sizL ts
 | []=>Nat.zero_le _
 | t :: ts=>by
  have:=sizL_length ts
  have:1≤siz t:=by cases t;rw [siz];omega
  rw [List.length_cons,sizL];omega
mutual
theorem n64_of {B:Nat}:∀ t:Tm,Nm t→Txt 2000 t→siz t≤B→B≤100000→N64 t
 | .mk k x n subs,h1,h2,h3,hB=>by
  rw [Nm] at h1
  rw [Txt] at h2
  rw [siz] at h3
  rw [N64]
  have:=sizL_length subs
  exact ⟨⟨by omega,by unfold maxLen;omega,by unfold maxLen;omega⟩,n64s_of subs h1.2 h2.2 (by omega:sizL subs≤B) hB⟩
theorem n64s_of {B:Nat}:∀ ts:List Tm,Nms ts→TxtL 2000 ts→sizL ts≤B→B≤100000→N64s ts
 | [],_,_,_,_=>by rw [N64s];trivial
 | t :: ts,h1,h2,h3,hB=>by
  rw [Nms] at h1
  rw [TxtL] at h2
  rw [sizL] at h3
  rw [N64s]
  exact ⟨n64_of t h1.1 h2.1 (by omega) hB,n64s_of ts h1.2 h2.2 (by omega) hB⟩
end
theorem text_sum {K:Lang} {k:Nat} {x:ByteArray} {n:Nat} {subs:List Tm} (h:WfHere K k x subs):x.size+(subs.map fun t=>len (pcs t)).sum≤len (pcs (.mk k x n subs)):=by
 have hlo:=h.lo
 have hhi:=h.hi
 have h0:ByteArray.empty.size=0:=rfl
 have hj:=join_ge (if k=14 then 1 else 2) (sepOf k x) subs
 rw [pcs_len]
 by_cases ht:k=1 ∨ k=4 ∨ k=5 ∨ k=7 ∨ k=8 ∨ k=9 ∨ k=12 ∨ k=13 ∨ k=14
 ·
  rw [h.text ht,h0]
  rw [h.text ht] at hj
  omega
 have hc:k=2 ∨ k=3 ∨ k=6 ∨ k=10 ∨ k=11 ∨ k=15 ∨ k=16:=by omega
 rcases hc with rfl | rfl | rfl | rfl | rfl | rfl | rfl
 ·
  have e:len (headOf 2 x n)=(34 :: (esc (bytesOf x) ++ [34])).length:=by
   show (bytesPs [.word .string x]).length=_
   rw [bytesPs,bytesPs,List.append_nil];rfl
  have:(bytesOf x).length≤(esc (bytesOf x)).length:=by
   generalize bytesOf x=l
   induction l with
   | nil=>exact Nat.zero_le _
   | cons c l ih=>rw [esc];split <;> simp <;> omega
  rw [bytesOf_length] at this
  have e2:(34 :: (esc (bytesOf x) ++ [34])).length=(esc (bytesOf x)).length+2:=by simp
  rw [e,e2];omega
 ·
  have e:len (headOf 3 x n)=x.size:=by show len [lt x]=_;rw [len_lt,len_nil];rfl
  omega
 ·
  have e:len (headOf 6 x n)=x.size+(1+0):=by show len [lt x,sg sOpen]=_;rw [len_lt,len_sg,len_nil];rfl
  omega
 ·
  obtain ⟨a,b,e,_,_⟩:=h.two (by decide)
  have h3:=len_sep_cmp x
  rw [e] at hj ⊢
  simp only [List.length_cons,List.length_nil] at hj
  omega
 ·
  have e:len (headOf 11 x n)=x.size+(1+0):=by show len [lt x,sg sOpen]=_;rw [len_lt,len_sg,len_nil];rfl
  omega
 ·
  have e:len (headOf 15 x n)=3+(1+(x.size+(1+(2+(1+0))))):=by show len [lt sAll,.blank,lt x,.blank,lt sIn,.blank]=_;rw [len_lt,len_blank,len_lt,len_blank,len_lt,len_blank,len_nil];rfl
  omega
 ·
  have e:len (headOf 16 x n)=3+(1+(x.size+(1+(2+(1+0))))):=by show len [lt sAny,.blank,lt x,.blank,lt sIn,.blank]=_;rw [len_lt,len_blank,len_lt,len_blank,len_lt,len_blank,len_nil];rfl
  omega
mutual
theorem wtZ_of {K:Lang}:∀ t:Tm,Wf K t→wtZ (zOf t)≤siz t+len (pcs t)
 | .mk k x n subs,h=>by
  obtain ⟨h1,h2⟩:=wf_mk.1 h
  have h3:=wtZs_of subs h2
  have h4:=text_sum (n:=n) h1
  rw [zOf,wtZ,siz]
  omega
theorem wtZs_of {K:Lang}:∀ ts:List Tm,Wfs K ts→wtZs (zsOf ts)≤sizL ts+(ts.map fun t=>len (pcs t)).sum
 | [],_=>by rw [zsOf,wtZs];exact Nat.zero_le _
 | t :: ts,h=>by
  rw [Wfs] at h
  have h1:=wtZ_of t h.1
  have h2:=wtZs_of ts h.2
  rw [zsOf,wtZs,sizL,List.map_cons,List.sum_cons]
  omega
end
structure Good (t:Tm):Prop where
 wf:Wf lang t
 n64:N64 t
 form:ofBytes (fz (zOf t))=form t
 siz:siz t≤5000
 wt:wtZ (zOf t)≤10000
 back:(Fm.form t).size≤1000→PIs (Fm.form t) (.ok t)
theorem pis_good {s:ByteArray} {t:Tm} (h:PIs s (.ok t)):Good t∧s.size≤1000∧(form t).size≤2 * s.size:=by
 by_cases hs:1000 < s.size
 ·
  rw [pis_long hs] at h;cases h
 cases hw:wordsFrom isT lang.kept s 0 with
 | error p=>rw [pis_words hs hw] at h;cases h
 | ok l=>
  rw [pis_tree hs hw] at h
  obtain ⟨f,r0,h1,h2⟩:=h
  cases r0 with
  | bad p=>have h2:(Except.ok t:Except (Nat × Nat) Tm)=.error (p,4):=h2;cases h2
  | ok ts m=>
   obtain ⟨t',rfl,h3,h4,h5,h6,h7,h8⟩:=tree_ok (by omega) hw h1
   have h9:=h2 t' rfl
   by_cases hm:m < l.length
   ·
    rw [if_pos hm] at h9;cases h9
   by_cases hd:24 < dep t'
   ·
    rw [if_neg hm,if_pos hd] at h9;cases h9
   rw [if_neg hm,if_neg hd] at h9
   have ht:t=t':=by
    unfold lastOf at h9
    cases hk:typK t' [] with
    | error c=>rw [hk] at h9;cases h9
    | ok a=>rw [hk] at h9;injection h9
   subst ht
   refine ⟨⟨h4,n64_of t (nm_fo _ t (Nat.lt_succ_self _) h3) h7 h6 (by decide),fz_form h4,h6,by
    have h10:=wtZ_of t h4
    have h11:(Fm.form t).size=len (pcs t):=by unfold Fm.form len;rw [← bytesOf_length,bytes_of]
    omega,fun hf=>?_⟩,by omega,parsed_size (X:=lex6) oper_in hw h1⟩
   obtain ⟨l',q1,f',q2⟩:=form_reads (X:=lex6) lang_ok (words6 lex6) h3 (form t).size
   refine (pis_tree (by omega) q1 _).2 ⟨f',_,q2,fun u hu=>?_⟩
   injection hu with hu
   subst hu
   rw [if_neg (by omega),if_neg hd]
   exact h9
end Go.Proofs.YthbdlnflmfchjaaGreatDoor
namespace Go.Proofs.YthbdlnflmfchjaaGreatDoor
open Go.RowKit Go.Proofs.Fm Go.Proofs.MapEnt
def ptypRes (r:Except Nat Nat):Ending:=match r with
 | .ok a=>.returned (.tuple #[.int .u8 (a:Nat),.int .u8 0])
 | .error e=>.returned (.tuple #[.int .u8 0,.int .u8 (e:Nat)])
def PTypC (K:Nat):Prop:=∀ (t:Tm) (ns:List ByteArray) (w:World) (A:Nat→Prop) (lo:Nat) (cs:List Value) (Gn:Option Addr) (cn:Nat),siz t≤K→TyOk t→ns.length+dep t≤1000→TmAt w A lo t cs→NsAt w Gn ns→(Gn=none→cn=0)→Tabs w →
 Calls Tryz.prog 41 #[.agg cs.toArray,.slice Gn ns.length cn] w fun E w'=>E=ptypRes (typK t ns)∧w.Since w.heap.size w'
end Go.Proofs.YthbdlnflmfchjaaGreatDoor
namespace Go.Proofs.YthbdlnflmfchjaaGreatDoor
open Go.RowKit Go.Proofs.Fm Go.Proofs.MapEnt
set_option maxHeartbeats 3200000
set_option maxRecDepth 1000000
theorem eqZ_mk (k k':Nat) (x x':ByteArray) (n n':Int) (subs subs':List Tz):eqZ (.mk k x n subs) (.mk k' x' n' subs')=(decide (k=k') && decide (x=x') && decide (n=n') && eqZs subs subs'):=by rw [eqZ]
theorem eqZs_len:∀ {ts us:List Tz},ts.length ≠ us.length→eqZs ts us=false:=fun {ts us} h=>by
 cases he:eqZs ts us with
 | false=>rfl
 | true=>exact absurd (congrArg List.length ((eqZs_iff ts us).1 he)) h
theorem eqZs_drop {ts us:List Tz} {i:Nat} (h1:i < ts.length) (h2:i < us.length):eqZs (ts.drop i) (us.drop i)=(eqZ ts[i] us[i] && eqZs (ts.drop (i+1)) (us.drop (i+1))):=by
 rw [List.drop_eq_getElem_cons h1,List.drop_eq_getElem_cons h2,eqZs]
theorem eqZs_end {ts us:List Tz} {i:Nat} (h:ts.length=us.length) (h1:¬ i < ts.length):eqZs (ts.drop i) (us.drop i)=true:=by
 rw [List.drop_of_length_le (by omega),List.drop_of_length_le (by omega),eqZs]
theorem rsame_says:∀ (K:Nat) (t u:Tz) (w:World) (cs ds:List Value),wtZ t≤K→K≤1000000→TzAt w t cs→TzAt w u ds →
  Calls Tryz.prog 19 #[.agg cs.toArray,.agg ds.toArray] w fun E w'=>E=.returned (.bool (eqZ t u))∧w.Since w.heap.size w'
 | 0,.mk k x n subs,u,w,cs,ds,hK,_,_,_=>by rw [wtZ] at hK;omega
 | K+1,.mk k x n subs,.mk k' x' n' subs',w,cs,ds,hK,hM,h,h'=>by
  have IH:=Lib.hid (fun (t u:Tz) (w:World) (cs ds:List Value) h1 h2 h3=>rsame_says K t u w cs ds h1 (by omega) h2 h3)
  rw [wtZ] at hK
  unfold TzAt at h h'
  obtain ⟨G,c,us,rfl,_,hr,hs⟩:=h
  obtain ⟨G',c',us',rfl,_,hr',hs'⟩:=h'
  have HG:=Lib.hid (fun i h=>zrow_get hr hs i h)
  have HG':=Lib.hid (fun i h=>zrow_get hr' hs' i h)
  have HSB:=Lib.hid (fun i h=>wtZs_le subs i h)
  have HK:Hid (wtZs subs≤K):=Lib.hid (by omega)
  have HR:=Lib.hid (eqZ_mk k k' x x' n n' subs subs')
  have hlen:subs.length≤1000000:=by have:=wtZs_length subs;omega
  generalize eqZ (.mk k x n subs) (.mk k' x' n' subs')=R at HR ⊢
  have S1:Hid (w.Since w.heap.size ((w.alloc (.cells #[.int .u8 (k:Nat),.string x,.int .i64 n,.slice G subs.length c] 39)).alloc (.cells #[.int .u8 (k':Nat),.string x',.int .i64 n',.slice G' subs'.length c'] 39))):=Lib.hid (((World.Since.refl _ _).alloc (Nat.le_refl _) _).alloc (by simp) _)
  have B1:=Lib.hid ((Go.Deep.blk_alloc_lt (w.alloc (.cells #[.int .u8 (k:Nat),.string x,.int .i64 n,.slice G subs.length c] 39)) (.cells #[.int .u8 (k':Nat),.string x',.int .i64 n',.slice G' subs'.length c'] 39) w.heap.size (by simp)).trans (heap_alloc_new w (.cells #[.int .u8 (k:Nat),.string x,.int .i64 n,.slice G subs.length c] 39)))
  have B2:=Lib.hid (heap_alloc_new (w.alloc (.cells #[.int .u8 (k:Nat),.string x,.int .i64 n,.slice G subs.length c] 39)) (.cells #[.int .u8 (k':Nat),.string x',.int .i64 n',.slice G' subs'.length c'] 39))
  rw [World.size_alloc] at B2
  obtain ⟨-,-,-,y3,-⟩:=cells4 B1.out
  obtain ⟨-,-,-,y4,-⟩:=cells4 B2.out
  clear hr hs hr' hs' hK
  by_cases q1:k=k'
  ·
   by_cases q2:x=x'
   ·
    by_cases q3:n=n'
    ·
     by_cases q4:subs.length=subs'.length
     ·
      have f1:((k:Int) != (k':Int))=false:=by subst q1;simp
      have f2:(x.toList == x'.toList)=true:=by subst q2;exact beq_self_eq_true _
      have f3:(n != n')=false:=by subst q3;simp
      have f4:((subs.length:Int) != (subs'.length:Int))=false:=by rw [q4];simp
      have hR:Hid (R=eqZs (subs.drop 0) (subs'.drop 0)):=Lib.hid (by rw [HR.out,decide_eq_true q1,decide_eq_true q2,decide_eq_true q3];simp)
      have HL:=Lib.hid q4
      clear q1 q2 q3 q4 HR
      go_enter Tryz.func19,Tryz.ntmps19
      go_wp2_with fail
      go_loopg [5] subs.length (fun gg o5 wr=>∃ (i:Nat),gg=subs.length - i∧i≤subs.length∧o5=.int .i64 (i:Nat)∧Hid (R=eqZs (subs.drop i) (subs'.drop i))∧Hid (w.Since w.heap.size wr)∧Hid (wr.heap[w.heap.size]?=some (.cells #[.int .u8 (k:Nat),.string x,.int .i64 n,.slice G subs.length c] 39))∧Hid (wr.heap[w.heap.size+1]?=some (.cells #[.int .u8 (k':Nat),.string x',.int .i64 n',.slice G' subs'.length c'] 39)))
      case atStart=>exact ⟨0,by omega,by omega,rfl,hR,S1,B1,B2⟩
      case round=>
       obtain ⟨i,rfl,hi,rfl,hE,hW,hB,hB'⟩:=hrel
       obtain ⟨-,-,-,p3,-⟩:=cells4 hB.out
       obtain ⟨-,-,-,p4,-⟩:=cells4 hB'.out
       by_cases h1:i < subs.length
       ·
        have h2:i < subs'.length:=by have:=HL.out;omega
        obtain ⟨a,k1,x1,n1,G1,m1,c1,hG1,ha,ht1,g0,g1,g2,g3⟩:=HG.out i h1
        obtain ⟨a',k2,x2,n2,G2,m2,c2,hG2,ha',ht2,g0',g1',g2',g3'⟩:=HG'.out i h2
        have hS:wr.Since wr.heap.size wr.drew:=(World.Since.refl _ _).drew
        have HT1:=Lib.hid (TzAt.up ⟨hW.out.os,hW.out.tape,hW.out.output,hW.out.size,hW.out.block⟩ _ _ ht1)
        have HT2:=Lib.hid (TzAt.up ⟨hW.out.os,hW.out.tape,hW.out.output,hW.out.size,hW.out.block⟩ _ _ ht2)
        have KI:=Lib.hid (fun W (h:wr.Since wr.heap.size W)=>IH.out subs[i] subs'[i] W _ _ (by have:=HSB.out i h1;have:=HK.out;omega) (TzAt.up h _ _ HT1.out) (TzAt.up h _ _ HT2.out))
        have hE2:=Lib.hid (hE.out.trans (eqZs_drop h1 h2))
        obtain ⟨cc,cd⟩:=lift_add hW.out ha (i * 4)
        obtain ⟨cc',cd'⟩:=lift_add hW.out ha' (i * 4)
        have d0:=cc _ g0
        have d1:=cd _ _ g1
        have d2:=cd _ _ g2
        have d3:=cd _ _ g3
        have e0:=cc' _ g0'
        have e1:=cd' _ _ g1'
        have e2:=cd' _ _ g2'
        have e3:=cd' _ _ g3'
        have i1:(i:Int) < (subs.length:Int):=by omega
        have i2:(i:Int) < (subs'.length:Int):=by omega
        have z5:IntKind.i64.wrap ((i:Int)+1)=(i:Int)+1:=IntWalk.i64_in _ (by omega)
        generalize eqZ subs[i] subs'[i]=q at *
        subst hG1 hG2
        clear ht1 ht2 g0 g1 g2 g3 g0' g1' g2' g3' cc cc' cd cd' hS HT1 HT2
        go_wp2_with fail
        have HL0:Hid (w.heap.size < wr.heap.size∧w.heap.size+1 < wr.heap.size):=Lib.hid ⟨blk_lt hB.out,blk_lt hB'.out⟩
        have HLa:Hid (a.block < wr.heap.size∧a'.block < wr.heap.size):=Lib.hid (by have:=hW.out.size;exact ⟨by omega,by omega⟩)
        have HS0:Hid (wr.Since wr.heap.size wr.drew):=Lib.hid ((World.Since.refl _ _).drew)
        have HA:=Lib.hid (And.intro p3 (And.intro p4 (And.intro d0 (And.intro d1 (And.intro d2 (And.intro d3 (And.intro e0 (And.intro e1 (And.intro e2 e3)))))))))
        go_region_held3 (fun w'=>w'.cell? ⟨w.heap.size,3,none⟩=some (.slice (some a) subs.length c)∧w'.cell? ⟨w.heap.size+1,3,none⟩=some (.slice (some a') subs'.length c')∧
          w'.cell? (a.add (i * 4))=some (.int .u8 (k1:Nat))∧w'.cell? ⟨(a.add (i * 4)).block,(a.add (i * 4)).off+1,none⟩=some (.string x1)∧w'.cell? ⟨(a.add (i * 4)).block,(a.add (i * 4)).off+2,none⟩=some (.int .i64 n1)∧w'.cell? ⟨(a.add (i * 4)).block,(a.add (i * 4)).off+3,none⟩=some (.slice G1 m1 c1)∧
          w'.cell? (a'.add (i * 4))=some (.int .u8 (k2:Nat))∧w'.cell? ⟨(a'.add (i * 4)).block,(a'.add (i * 4)).off+1,none⟩=some (.string x2)∧w'.cell? ⟨(a'.add (i * 4)).block,(a'.add (i * 4)).off+2,none⟩=some (.int .i64 n2)∧w'.cell? ⟨(a'.add (i * 4)).block,(a'.add (i * 4)).off+3,none⟩=some (.slice G2 m2 c2))
         (first | exact HA.out | exact HA3.out)
         ((
          go_at_call 19;refine (KI.out _ HS0.out).mono ?_;rintro r0 w3 ⟨rfl,hs3⟩;
          have W3:=Lib.hid (wr_since HS0.out hs3);
          have HA3:=Lib.hid (And.intro ((W3.out.cell (a:=⟨w.heap.size,3,none⟩) HL0.out.1).trans HA.out.1) (And.intro ((W3.out.cell (a:=⟨w.heap.size+1,3,none⟩) HL0.out.2).trans HA.out.2.1) (And.intro ((lift_add W3.out HLa.out.1 _).1 _ HA.out.2.2.1) (And.intro ((lift_add W3.out HLa.out.1 _).2 _ _ HA.out.2.2.2.1) (And.intro ((lift_add W3.out HLa.out.1 _).2 _ _ HA.out.2.2.2.2.1) (And.intro ((lift_add W3.out HLa.out.1 _).2 _ _ HA.out.2.2.2.2.2.1)
           (And.intro ((lift_add W3.out HLa.out.2 _).1 _ HA.out.2.2.2.2.2.2.1) (And.intro ((lift_add W3.out HLa.out.2 _).2 _ _ HA.out.2.2.2.2.2.2.2.1) (And.intro ((lift_add W3.out HLa.out.2 _).2 _ _ HA.out.2.2.2.2.2.2.2.2.1) ((lift_add W3.out HLa.out.2 _).2 _ _ HA.out.2.2.2.2.2.2.2.2.2))))))))));
          clear hs3))
        have W3':=Lib.hid (wr_since hW.out W3.out)
        have B3:=Lib.hid ((W3.out.block w.heap.size HL0.out.1).trans hB.out)
        have B3':=Lib.hid ((W3.out.block (w.heap.size+1) HL0.out.2).trans hB'.out)
        cases q with
        | false=>
         have hR2:Hid (R=false):=Lib.hid (by rw [hE2.out];rfl)
         go_wp2_with fail
         go_ret
         exact ⟨by rw [hR2.out];rfl,W3'.out⟩
        | true=>
         have hE3:Hid (R=eqZs (subs.drop (i+1)) (subs'.drop (i+1))):=Lib.hid (by rw [hE2.out];rfl)
         go_wp2_with fail
         go_roundg (subs.length - (i+1))
         case measure=>omega
         case rel=>exact ⟨i+1,rfl,by omega,by simp,hE3,W3',B3,B3'⟩
       ·
        have i1:¬ (i:Int) < (subs.length:Int):=by omega
        have hR2:Hid (R=true):=Lib.hid (hE.out.trans (eqZs_end HL.out h1))
        go_wp2_with fail
        go_ret
        exact ⟨by rw [hR2.out];rfl,hW.out⟩
     ·
      have hR:Hid (R=false):=Lib.hid (by rw [HR.out,eqZs_len q4];simp)
      have f1:((k:Int) != (k':Int))=false:=by subst q1;simp
      have f2:(x.toList == x'.toList)=true:=by subst q2;exact beq_self_eq_true _
      have f3:(n != n')=false:=by subst q3;simp
      have f4:((subs.length:Int) != (subs'.length:Int))=true:=bne_iff_ne.2 (by omega)
      clear q1 q2 q3 q4 HR
      go_enter Tryz.func19,Tryz.ntmps19
      go_wp2_with fail
      go_ret
      exact ⟨by rw [hR.out];rfl,S1.out⟩
    ·
     have hR:Hid (R=false):=Lib.hid (by rw [HR.out,decide_eq_false q3];simp)
     have f1:((k:Int) != (k':Int))=false:=by subst q1;simp
     have f2:(x.toList == x'.toList)=true:=by subst q2;exact beq_self_eq_true _
     have f3:(n != n')=true:=bne_iff_ne.2 q3
     clear q1 q2 q3 HR
     go_enter Tryz.func19,Tryz.ntmps19
     go_wp2_with fail
     go_ret
     exact ⟨by rw [hR.out];rfl,S1.out⟩
   ·
    have hR:Hid (R=false):=Lib.hid (by rw [HR.out,decide_eq_false q2];simp)
    have f1:((k:Int) != (k':Int))=false:=by subst q1;simp
    have f2:(x.toList == x'.toList)=false:=by rw [bytes_beq,decide_eq_false q2]
    clear q1 q2 HR
    go_enter Tryz.func19,Tryz.ntmps19
    go_wp2_with fail
    go_ret
    exact ⟨by rw [hR.out];rfl,S1.out⟩
  ·
   have hR:Hid (R=false):=Lib.hid (by rw [HR.out,decide_eq_false q1];simp)
   have f1:((k:Int) != (k':Int))=true:=bne_iff_ne.2 (by omega)
   clear q1 HR
   go_enter Tryz.func19,Tryz.ntmps19
   go_wp2_with fail
   go_ret
   exact ⟨by rw [hR.out];rfl,S1.out⟩
end Go.Proofs.YthbdlnflmfchjaaGreatDoor
namespace Go.Proofs.YthbdlnflmfchjaaGreatDoor
open Go.RowKit Go.Proofs.Fm Go.Proofs.MapEnt
set_option maxHeartbeats 3200000
set_option maxRecDepth 1000000
def SameC (K:Nat):Prop:=∀ (t u:Tz) (w:World) (cs ds:List Value),wtZ t≤K→TzAt w t cs→TzAt w u ds →
 Calls Tryz.prog 20 #[.agg cs.toArray,.agg ds.toArray] w fun E w'=>E=.returned (.bool (eqZ t u))∧w.Since w.heap.size w'
theorem equalFunc_says (K:Nat) (hC:SameC K) (subs subs':List Tz) (w:World) (G G':Option Addr) (c c':Nat) (us us':List Value) (hK:wtZs subs≤K) (hM:K≤1000000) (hr:ZRow w G us) (hs:TzsAt w subs us) (hr':ZRow w G' us') (hs':TzsAt w subs' us'):
  Calls Tryz.prog 48 #[.slice G subs.length c,.slice G' subs'.length c',.func (.func 20) #[] #[]] w fun E w'=>E=.returned (.bool (eqZs subs subs'))∧w.Since w.heap.size w':=by
 have HC:=Lib.hid hC
 have HG:=Lib.hid (fun i h=>zrow_get hr hs i h)
 have HG':=Lib.hid (fun i h=>zrow_get hr' hs' i h)
 have HSB:=Lib.hid (fun i h=>wtZs_le subs i h)
 have HK:=Lib.hid hK
 have hlen:subs.length≤1000000:=by have:=wtZs_length subs;omega
 have HR:Hid (eqZs subs subs'=eqZs (subs.drop 0) (subs'.drop 0)):=Lib.hid rfl
 have HF:=Lib.hid (fun h=>eqZs_len (ts:=subs) (us:=subs') h)
 generalize eqZs subs subs'=R at *
 clear hC hr hs hr' hs' hK
 by_cases q4:subs.length=subs'.length
 ·
  have f4:((subs.length:Int) != (subs'.length:Int))=false:=by rw [q4];simp
  have HL:=Lib.hid q4
  clear q4 HF
  go_enter Tryz.func48,Tryz.ntmps48
  go_wp2_with fail
  go_loopg [17] subs.length (fun gg o5 wr=>∃ (i:Nat),gg=subs.length - i∧i≤subs.length∧o5=.int .i64 (i:Nat)∧Hid (R=eqZs (subs.drop i) (subs'.drop i))∧Hid (w.Since w.heap.size wr))
  case atStart=>exact ⟨0,by omega,by omega,rfl,HR,Lib.hid (World.Since.refl _ _)⟩
  case round=>
   obtain ⟨i,rfl,hi,rfl,hE,hW⟩:=hrel
   by_cases h1:i < subs.length
   ·
    have h2:i < subs'.length:=by have:=HL.out;omega
    obtain ⟨a,k1,x1,n1,G1,m1,c1,hG1,ha,ht1,g0,g1,g2,g3⟩:=HG.out i h1
    obtain ⟨a',k2,x2,n2,G2,m2,c2,hG2,ha',ht2,g0',g1',g2',g3'⟩:=HG'.out i h2
    have HT1:=Lib.hid (TzAt.up ⟨hW.out.os,hW.out.tape,hW.out.output,hW.out.size,hW.out.block⟩ _ _ ht1)
    have HT2:=Lib.hid (TzAt.up ⟨hW.out.os,hW.out.tape,hW.out.output,hW.out.size,hW.out.block⟩ _ _ ht2)
    have KI:=Lib.hid (fun W (h:wr.Since wr.heap.size W)=>HC.out subs[i] subs'[i] W _ _ (by have:=HSB.out i h1;have:=HK.out;omega) (TzAt.up h _ _ HT1.out) (TzAt.up h _ _ HT2.out))
    have hE2:=Lib.hid (hE.out.trans (eqZs_drop h1 h2))
    obtain ⟨cc,cd⟩:=lift_add hW.out ha (i * 4)
    have hW2:=hW.out.alloc hW.out.size (.cells #[.int .u8 (k1:Nat),.string x1,.int .i64 n1,.slice G1 m1 c1] 39)
    obtain ⟨cc',cd'⟩:=lift_add hW2 ha' (i * 4)
    have d0:=cc _ g0
    have d1:=cd _ _ g1
    have d2:=cd _ _ g2
    have d3:=cd _ _ g3
    have e0:=cc' _ g0'
    have e1:=cd' _ _ g1'
    have e2:=cd' _ _ g2'
    have e3:=cd' _ _ g3'
    have i1:(i:Int) < (subs.length:Int):=by omega
    have i2:(i:Int) < (subs'.length:Int):=by omega
    have z5:IntKind.i64.wrap ((i:Int)+1)=(i:Int)+1:=IntWalk.i64_in _ (by omega)
    have HS1:Hid (wr.Since wr.heap.size ((wr.alloc (.cells #[.int .u8 (k1:Nat),.string x1,.int .i64 n1,.slice G1 m1 c1] 39)).alloc (.cells #[.int .u8 (k2:Nat),.string x2,.int .i64 n2,.slice G2 m2 c2] 39))):=Lib.hid (((World.Since.refl _ _).alloc (Nat.le_refl _) _).alloc (by simp) _)
    have B1:=(Go.Deep.blk_alloc_lt (wr.alloc (.cells #[.int .u8 (k1:Nat),.string x1,.int .i64 n1,.slice G1 m1 c1] 39)) (.cells #[.int .u8 (k2:Nat),.string x2,.int .i64 n2,.slice G2 m2 c2] 39) wr.heap.size (by simp)).trans (heap_alloc_new wr (.cells #[.int .u8 (k1:Nat),.string x1,.int .i64 n1,.slice G1 m1 c1] 39))
    have B2:=heap_alloc_new (wr.alloc (.cells #[.int .u8 (k1:Nat),.string x1,.int .i64 n1,.slice G1 m1 c1] 39)) (.cells #[.int .u8 (k2:Nat),.string x2,.int .i64 n2,.slice G2 m2 c2] 39)
    rw [World.size_alloc] at B2
    obtain ⟨p0,p1,p2,p3,-⟩:=cells4 B1
    obtain ⟨r0,r1,r2,r3,-⟩:=cells4 B2
    generalize eqZ subs[i] subs'[i]=q at *
    subst hG1 hG2
    clear ht1 ht2 g0 g1 g2 g3 g0' g1' g2' g3' cc cc' cd cd' HT1 HT2 B1 B2 hW2
    go_wp2_with fail
    refine (KI.out _ HS1.out).mono ?_
    rintro rr w3 ⟨rfl,hs3⟩
    have W3':=Lib.hid (wr_since hW.out (wr_since HS1.out hs3))
    clear hs3
    cases q with
    | false=>
     have hR2:Hid (R=false):=Lib.hid (by rw [hE2.out];rfl)
     go_wp2_with fail
     go_ret
     exact ⟨by rw [hR2.out];rfl,W3'.out⟩
    | true=>
     have hE3:Hid (R=eqZs (subs.drop (i+1)) (subs'.drop (i+1))):=Lib.hid (by rw [hE2.out];rfl)
     go_wp2_with fail
     go_roundg (subs.length - (i+1))
     case measure=>omega
     case rel=>exact ⟨i+1,rfl,by omega,by simp,hE3,W3'⟩
   ·
    have i1:¬ (i:Int) < (subs.length:Int):=by omega
    have hR2:Hid (R=true):=Lib.hid (hE.out.trans (eqZs_end HL.out h1))
    go_wp2_with fail
    go_ret
    exact ⟨by rw [hR2.out];rfl,hW.out⟩
 ·
  have f4:((subs.length:Int) != (subs'.length:Int))=true:=bne_iff_ne.2 (by omega)
  have hR:Hid (R=false):=Lib.hid (HF.out q4)
  clear q4 HF HR
  go_enter Tryz.func48,Tryz.ntmps48
  go_wp2_with fail
  go_ret
  exact ⟨by rw [hR.out];rfl,World.Since.refl _ _⟩
theorem psame_all:∀ K,K≤1000000→SameC K
 | 0,_,.mk k x n subs,u,w,cs,ds,hK,_,_=>by rw [wtZ] at hK;omega
 | K+1,hM,.mk k x n subs,.mk k' x' n' subs',w,cs,ds,hK,h,h'=>by
  have IH:=Lib.hid (equalFunc_says K (psame_all K (by omega)) subs subs')
  rw [wtZ] at hK
  unfold TzAt at h h'
  obtain ⟨G,c,us,rfl,_,hr,hs⟩:=h
  obtain ⟨G',c',us',rfl,_,hr',hs'⟩:=h'
  have HR:=Lib.hid (eqZ_mk k k' x x' n n' subs subs')
  generalize eqZ (.mk k x n subs) (.mk k' x' n' subs')=R at HR ⊢
  have hS1:w.Since w.heap.size ((w.alloc (.cells #[.int .u8 (k:Nat),.string x,.int .i64 n,.slice G subs.length c] 39)).alloc (.cells #[.int .u8 (k':Nat),.string x',.int .i64 n',.slice G' subs'.length c'] 39)):=((World.Since.refl _ _).alloc (Nat.le_refl _) _).alloc (by simp) _
  have KI:=Lib.hid (IH.out _ G G' c c' us us' (by omega) (by omega) (hr.up hS1) (TzsAt.up hS1 _ _ hs) (hr'.up hS1) (TzsAt.up hS1 _ _ hs'))
  have S1:=Lib.hid hS1
  have B1:=(Go.Deep.blk_alloc_lt (w.alloc (.cells #[.int .u8 (k:Nat),.string x,.int .i64 n,.slice G subs.length c] 39)) (.cells #[.int .u8 (k':Nat),.string x',.int .i64 n',.slice G' subs'.length c'] 39) w.heap.size (by simp)).trans (heap_alloc_new w (.cells #[.int .u8 (k:Nat),.string x,.int .i64 n,.slice G subs.length c] 39))
  have B2:=heap_alloc_new (w.alloc (.cells #[.int .u8 (k:Nat),.string x,.int .i64 n,.slice G subs.length c] 39)) (.cells #[.int .u8 (k':Nat),.string x',.int .i64 n',.slice G' subs'.length c'] 39)
  rw [World.size_alloc] at B2
  obtain ⟨-,-,-,y3,-⟩:=cells4 B1
  obtain ⟨-,-,-,y4,-⟩:=cells4 B2
  clear hr hs hr' hs' hK hS1 B1 B2 IH
  by_cases q1:k=k'
  ·
   have f1:((k:Int) == (k':Int))=true:=by subst q1;simp
   by_cases q2:x=x'
   ·
    have f2:(x.toList == x'.toList)=true:=by subst q2;exact beq_self_eq_true _
    by_cases q3:n=n'
    ·
     have f3:(n == n')=true:=by subst q3;simp
     have hR:Hid (R=eqZs subs subs'):=Lib.hid (by rw [HR.out,decide_eq_true q1,decide_eq_true q2,decide_eq_true q3];simp)
     clear q1 q2 q3 HR
     go_enter Tryz.func20,Tryz.ntmps20
     go_wp2_with fail
     refine KI.out.mono ?_
     rintro rr w3 ⟨rfl,hs3⟩
     have W3:=Lib.hid (wr_since S1.out hs3)
     clear hs3
     go_wp2_with fail
     go_ret
     exact ⟨by rw [hR.out];rfl,W3.out⟩
    ·
     have hR:Hid (R=false):=Lib.hid (by rw [HR.out,decide_eq_false q3];simp)
     have f3:(n == n')=false:=beq_eq_false_iff_ne.2 q3
     clear q1 q2 q3 HR
     go_enter Tryz.func20,Tryz.ntmps20
     go_wp2_with fail
     go_ret
     exact ⟨by rw [hR.out];rfl,S1.out⟩
   ·
    have hR:Hid (R=false):=Lib.hid (by rw [HR.out,decide_eq_false q2];simp)
    have f2:(x.toList == x'.toList)=false:=by rw [bytes_beq,decide_eq_false q2]
    clear q1 q2 HR
    go_enter Tryz.func20,Tryz.ntmps20
    go_wp2_with fail
    go_ret
    exact ⟨by rw [hR.out];rfl,S1.out⟩
  ·
   have hR:Hid (R=false):=Lib.hid (by rw [HR.out,decide_eq_false q1];simp)
   have f1:((k:Int) == (k':Int))=false:=beq_eq_false_iff_ne.2 (by omega)
   clear q1 HR
   go_enter Tryz.func20,Tryz.ntmps20
   go_wp2_with fail
   go_ret
   exact ⟨by rw [hR.out];rfl,S1.out⟩
end Go.Proofs.YthbdlnflmfchjaaGreatDoor
namespace Go.Proofs.YthbdlnflmfchjaaGreatDoor
open Go.RowKit Go.Proofs.Fm Go.Proofs.MapEnt
set_option maxHeartbeats 3200000
set_option maxRecDepth 1000000
def LeftOf (left:Int) (a:Nat) (r:Int):Prop:=((a:Int)≤left→r=left - a)∧(left < (a:Int)→r < 0)
theorem wtZs_take:∀ (ts:List Tz) (i:Nat) (h:i < ts.length),wtZs (ts.take (i+1))=wtZs (ts.take i)+wtZ ts[i]
 | [],i,h=>absurd h (Nat.not_lt_zero _)
 | t :: ts,0,h=>by
  simp [wtZs]
 | t :: ts,i+1,h=>by
  have h':i < ts.length:=Nat.lt_of_succ_lt_succ h
  have:=wtZs_take ts i h'
  show wtZs (t :: ts.take (i+1))=wtZs (t :: ts.take i)+wtZ ts[i]
  rw [wtZs,wtZs];omega
theorem wtZs_take_le:∀ (ts:List Tz) (i:Nat),wtZs (ts.take i)≤wtZs ts
 | [],i=>by simp
 | t :: ts,0=>by rw [List.take_zero,wtZs];exact Nat.zero_le _
 | t :: ts,i+1=>by
  have:=wtZs_take_le ts i
  show wtZs (t :: ts.take i)≤_
  rw [wtZs,wtZs];omega
theorem great_says:∀ (K left:Nat),left < K→K≤1000→∀ (t:Tz) (w:World) (cs:List Value),TzAt w t cs →
  Calls Tryz.prog 16 #[.agg cs.toArray,.int .i64 (left:Nat)] w fun E w'=>(∃ r:Int,E=.returned (.int .i64 r)∧LeftOf left (wtZ t) r)∧w.Since w.heap.size w'
 | 0,left,h,_,_,_,_,_=>absurd h (Nat.not_lt_zero _)
 | K+1,left,hlt,hM,.mk k x n subs,w,cs,h=>by
  have IH:=Lib.hid (fun (l:Nat) h (t:Tz) (w:World) (cs:List Value) h2=>great_says K l h (by omega) t w cs h2)
  unfold TzAt at h
  obtain ⟨G,c,us,rfl,⟨_,hx,hsl⟩,hr,hs⟩:=h
  unfold maxLen at hx hsl
  have HG:=Lib.hid (fun i h=>zrow_get hr hs i h)
  have HW:Hid (wtZ (.mk k x n subs)=1+x.size+wtZs subs):=Lib.hid (by rw [wtZ])
  generalize wtZ (.mk k x n subs)=T at *
  have HT:=Lib.hid (fun i h=>wtZs_take subs i h)
  have HTL:=Lib.hid (fun i=>wtZs_take_le subs i)
  have HTE:Hid (wtZs (subs.take subs.length)=wtZs subs):=Lib.hid (by rw [List.take_length])
  have HT0:Hid (wtZs (subs.take 0)=0):=Lib.hid (by rw [List.take_zero,wtZs])
  have S1:Hid (w.Since w.heap.size (w.alloc (.cells #[.int .u8 (k:Nat),.string x,.int .i64 n,.slice G subs.length c] 39))):=Lib.hid ((World.Since.refl _ _).alloc (Nat.le_refl _) _)
  have B1:=Lib.hid (heap_alloc_new w (.cells #[.int .u8 (k:Nat),.string x,.int .i64 n,.slice G subs.length c] 39))
  have z1:IntKind.i64.wrap ((left:Int) - 1)=(left:Int) - 1:=IntWalk.i64_in _ (by omega)
  have z2:IntKind.i64.wrap ((left:Int) - 1 - (x.size:Int))=(left:Int) - 1 - (x.size:Int):=IntWalk.i64_in _ (by omega)
  have HL0:Hid (LeftOf left (1+x.size) ((left:Int) - 1 - (x.size:Int))):=Lib.hid ⟨fun _=>by omega,fun _=>by omega⟩
  have Hl0:Hid ((left:Int) - 1 - (x.size:Int) < left):=Lib.hid (by omega)
  clear hr hs
  go_enter Tryz.func16,Tryz.ntmps16
  go_wp2_with fail
  go_loopg [1,5] subs.length (fun gg o1 o5 wr=>∃ (i:Nat) (r:Int),gg=subs.length - i∧i≤subs.length∧o1=.int .i64 r∧o5=.int .i64 (i:Nat)∧Hid (LeftOf left (1+x.size+wtZs (subs.take i)) r)∧Hid (r < left)∧Hid (w.Since w.heap.size wr)∧Hid (wr.heap[w.heap.size]?=some (.cells #[.int .u8 (k:Nat),.string x,.int .i64 n,.slice G subs.length c] 39)))
  case atStart=>exact ⟨0,_,by omega,by omega,rfl,rfl,Lib.hid (by rw [HT0.out];exact HL0.out),Hl0,S1,B1⟩
  case round=>
   obtain ⟨i,r,rfl,hi,rfl,rfl,hE,hrl,hW,hB⟩:=hrel
   obtain ⟨-,-,-,p3,-⟩:=cells4 hB.out
   by_cases h1:i < subs.length
   ·
    have i1:(i:Int) < (subs.length:Int):=by omega
    by_cases h2:0≤r
    ·
     obtain ⟨rn,rfl⟩:=Int.eq_ofNat_of_zero_le h2
     obtain ⟨a,k1,x1,n1,G1,m1,c1,hG1,ha,ht1,g0,g1,g2,g3⟩:=HG.out i h1
     have HT1:=Lib.hid (TzAt.up ⟨hW.out.os,hW.out.tape,hW.out.output,hW.out.size,hW.out.block⟩ _ _ ht1)
     have KI:=Lib.hid (IH.out rn (by have:=hrl.out;omega) subs[i] wr _ HT1.out)
     obtain ⟨cc,cd⟩:=lift_add hW.out ha (i * 4)
     have d0:=cc _ g0
     have d1:=cd _ _ g1
     have d2:=cd _ _ g2
     have d3:=cd _ _ g3
     have z5:IntKind.i64.wrap ((i:Int)+1)=(i:Int)+1:=IntWalk.i64_in _ (by omega)
     have HT2:=Lib.hid (HT.out i h1)
     have HP:=Lib.hid (wtZ_pos subs[i])
     generalize wtZ subs[i]=q at *
     subst hG1
     clear ht1 g0 g1 g2 g3 cc cd HT1
     go_wp2_with fail
     refine KI.out.mono ?_
     rintro rr w3 ⟨⟨r',rfl,hr'⟩,hs3⟩
     have W3:=Lib.hid (wr_since hW.out hs3)
     have B3:=Lib.hid ((hs3.block w.heap.size (blk_lt hB.out)).trans hB.out)
     have HR':=Lib.hid hr'
     clear hs3 hr'
     go_wp2_with fail
     go_roundg (subs.length - (i+1))
     case measure=>omega
     case rel=>
      refine ⟨i+1,r',rfl,by omega,rfl,by simp,Lib.hid ?_,Lib.hid ?_,W3,B3⟩
      ·
       have h3:=hE.out
       have h4:=HR'.out
       rw [HT2.out]
       unfold LeftOf at h3 h4 ⊢
       have:=hrl.out
       constructor
       ·
        intro h5
        have h6:=h3.1 (by omega)
        have h7:=h4.1 (by omega)
        omega
       ·
        intro h5
        rcases Int.lt_or_le (left:Int) ((1+x.size+wtZs (subs.take i):Nat):Int) with h6 | h6
        ·
         have:=h3.2 h6;omega
        ·
         have h7:=h3.1 h6
         exact h4.2 (by omega)
      ·
       have h4:=HR'.out
       have:=HP.out
       have:=hrl.out
       unfold LeftOf at h4
       rcases Int.lt_or_le ((rn:Nat):Int) ((q:Nat):Int) with h6 | h6
       ·
        have:=h4.2 h6;omega
       ·
        have:=h4.1 h6;omega
    ·
     have i2:¬ 0≤r:=h2
     have HF:Hid (LeftOf left T r):=Lib.hid (by
      have h3:=hE.out
      have:=HTL.out i
      have:=HW.out
      unfold LeftOf at h3 ⊢
      constructor
      ·
       intro h5
       have h6:=h3.1 (by omega)
       omega
      ·
       intro _;omega)
     go_wp2_with fail
     go_ret
     exact ⟨⟨r,rfl,HF.out⟩,hW.out⟩
   ·
    have i1:¬ (i:Int) < (subs.length:Int):=by omega
    have HF:Hid (LeftOf left T r):=Lib.hid (by
     have h3:=hE.out
     rw [show i=subs.length by omega,HTE.out,← HW.out] at h3
     exact h3)
    go_wp2_with fail
    go_ret
    exact ⟨⟨r,rfl,HF.out⟩,hW.out⟩
end Go.Proofs.YthbdlnflmfchjaaGreatDoor
