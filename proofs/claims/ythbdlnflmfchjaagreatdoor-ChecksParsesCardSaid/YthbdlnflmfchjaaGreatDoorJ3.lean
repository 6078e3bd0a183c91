/- The engine, third part: activations, drawn regions, loops. -/
import Derived.Test.YthbdlnflmfchjaaGreatDoorJ2
import Derived.OrdersIn
import Derived.TacticsIn
import Derived.LoopNIn
import Derived.RangeFuncLeaves
section
set_option linter.unusedSimpArgs false
set_option linter.unusedVariables false
namespace Go.Proofs.Eng
variable{P:Program}{ρ:br}
structure bG where
 tm:Tr Value
 n:Nat
 df:List Deferred
def bG.at(x:bG)(t:Nat):Value:=(x.tm.get t).getD undef
def bG.put(x:bG)(dst:Option Tmp)(v:Value):bG:=match dst with
 |some d=>if d<x.n then{x with tm:=x.tm.set 21 d (some v)}else x
 |none=>x
structure cK(ρ:br)(x:bG)(a:Act):Prop where
 size:a.tmps.size=x.n
 lt:x.n≤jo
 tm:∀t,aX ρ (x.at t) (a.tmps.getD t undef)
 df:fu ρ x.df a.defers
theorem cK.mono{ρ ρ':br}(hl:ρ.le ρ'){x:bG}{a:Act}(h:cK ρ x a):cK ρ' x a:=⟨h.size,h.lt,fun t=>(h.tm t).mono hl,h.df.mono hl⟩
theorem bG.at_put{x:bG}{d:Tmp}{v:Value}(hd:d<x.n)(hl:x.n≤jo)(t:Nat):(x.put (some d) v).at t=if t=d then v else x.at t:=by
 unfold bG.at bG.put;dsimp only;rw[if_pos hd];show((x.tm.set 21 d (some v)).get t).getD undef=_;rw[Tr.get_set _ _ _ _ _ (gi (Nat.lt_of_lt_of_le hd hl))];by_cases ht:t=d;·simp[ht]
 ·simp[ht]
theorem cK.put{x:bG}{a:Act}(h:cK ρ x a)(dst:Option Tmp){v v':Value}(hv:aX ρ v v'):cK ρ (x.put dst v) (a.put dst v'):=by
 cases dst with
 |none=>exact h
 |some d=>
  by_cases hd:d<x.n;·
   have hn:(x.put (some d) v).n=x.n:=by unfold bG.put;dsimp only;rw[if_pos hd]
   have hdf:(x.put (some d) v).df=x.df:=by unfold bG.put;dsimp only;rw[if_pos hd]
   refine⟨by rw[hn];simp[Act.put,h.size],by rw[hn];exact h.lt,fun t=>?_,by rw[hdf];exact h.df⟩;rw[bG.at_put hd h.lt];simp only[Act.put,Array.getD_eq_getD_getElem?,Array.getElem?_setIfInBounds];by_cases ht:t=d;·
    subst ht;rw[if_pos rfl,if_pos rfl,if_pos (by rw[h.size];exact hd)];exact hv
   ·rw[if_neg ht,if_neg (Ne.symm ht)];have:=h.tm t;rw[Array.getD_eq_getD_getElem?]at this;exact this
  ·
   have e1:x.put (some d) v=x:=by unfold bG.put;dsimp only;rw[if_neg hd]
   have e2:a.put (some d) v'=a:=by
    unfold Act.put;dsimp only;rw[Array.setIfInBounds_eq_of_size_le (by rw[h.size];exact Nat.le_of_not_lt hd)]
   rw[e1,e2];exact h
def Gl(G:Nat)(ρ:br):Prop:=∀g,g<G→∃p,ρ g=some p∧p.b=g∧p.s=0
theorem Gl.mono{G:Nat}{ρ ρ':br}(hl:ρ.le ρ')(h:Gl G ρ):Gl G ρ':=fun g hg=>let⟨p,a,b,c⟩:=h g hg;⟨p,hl _ _ a,b,c⟩
def pJ(G:Nat):Operand→Bool
 |.const v=>bP v
 |.global g=>decide (g<G)
 |_=>true
def bG.sev(G:Nat)(x:bG):Operand→Value
 |.tmp t=>x.at t
 |.const v=>if bP v=true then v else undef
 |.global g=>if g<G then .pointer (some ⟨g,0,none⟩)else undef
 |.func f=> .func (.func f) #[] #[]
def mI(G:Nat)(a:Act)(o:Operand):Value:=if pJ G o=true then a.eval o else undef
theorem JS{P:Prop}(h:P:=by
 dsimp only;by_cases hp:bP v=true;·rw[if_pos hp,if_pos hp];exact aX.self hp
 ·rw[if_neg hp,if_neg hp];exact aX.undef):P:=h
theorem JT{P:Prop}(h:P:=by
 dsimp only;by_cases hp:g<G;·rw[if_pos hp,if_pos (by simpa using hp)];obtain⟨p,h1,h2,h3⟩:=hg g hp;exact .ptr ⟨rfl,p,h1,by simp[h2,h3]⟩
 ·rw[if_neg hp,if_neg (by simpa using hp)];exact aX.undef):P:=h
theorem jL{G:Nat}(hg:Gl G ρ){x:bG}{a:Act}(h:cK ρ x a)(o:Operand):aX ρ (x.sev G o) (mI G a o):=by
 cases o with
 |tmp t=>exact h.tm t
 |const v=>unfold bG.sev mI pJ;exact JS
 |global g=>unfold bG.sev mI pJ;exact JT
 |func f=>exact .func (.func f) .nil .nil
def EC:Op→Bool
 |.select .. =>true
 |_=>false
def iB(G:Nat)(o:Oper):Bool:=!EC o.op&&o.op.operands.toList.all (pJ G)
theorem kS{G:Nat}{o:Oper}(h:iB G o=true)(a:Act):execOp (mI G a) o=execOp a.eval o:=by
 unfold iB at h;rw[Bool.and_eq_true]at h;refine execOp_congr o (fun cs b e=>?_) fun x hx=>?_;·rw[e]at h;simp[EC]at h
 ·unfold mI;have:=(List.all_eq_true.1 h.2) x (by simpa using hx);rw[if_pos this]
def vQ(r:Option Nat):Fence:={Fence.wide with round:=r}
abbrev dC:=FuncId→Array Value→AW→Option (Value×AW)
abbrev da:=Nat→Array Value→Code→Code→AW→Option (Value×AW)
def uU(P:Program)(G:Nat)(call:dC):Prop:=∀f args A v A2,call f args A=some (v,A2)→∀ρ w args',Gl G ρ→bS ρ A w→bg ρ args args'→CallsIn Fence.wide 0 P f args' w fun e w'=>∃ρ' v',e=.returned v'∧aX ρ' v v'∧bS ρ' A2 w'∧Step ρ A w ρ' A2 w'
def Bg(P:Program)(G:Nat)(round:da):Prop:=∀l tmps as b A v A2,round l tmps as b A=some (v,A2)→∀ρ w l' f tmps',Gl G ρ→bS ρ A w→gx ρ l l'→bg ρ tmps tmps'→RoundIn Fence.wide 0 P l' f tmps' as b w fun e w'=>∃ρ' v',e=.returned v'∧aX ρ' v v'∧bS ρ' A2 w'∧Step ρ A w ρ' A2 w'
theorem pK{r:Option Nat}{f:FuncId}{args:Array Value}{w:World}{R:Ending→World→Prop}(h:CallsIn Fence.wide 0 P f args w R):CallsIn (vQ r) (0-1) P f args w R:=h
theorem xm{r:Option Nat}{l:Nat}{f:FuncId}{tmps:Array Value}{as b:Code}{w:World}{R:Ending→World→Prop}(h:RoundIn Fence.wide 0 P l f tmps as b w R):RoundIn (vQ r) (0-1) P l f tmps as b w R:=h
def zg(P:Program)(C:ie)(call:dC)(round:da)(ev:Operand→Value)(o:Oper)(A:AW):Option (Value×AW):=match bO P (Ht P C ev o) A with
 |some (nx,A1)=>match nx with
  |.value v=>some (v,A1)
  |.skip=>some (undef,A1)
  |.enter f args=>call f args A1
  |.round l _ tmps as b=>round l tmps as b A1
  |_=>none
 |none=>none
def iU:Op→Bool
 |.defer _=>true
 |_=>false
structure gP(P:Program)(C:ie)(G:Nat)(call:dC)(round:da):Prop where
 prog:oG P C
 call:uU P G call
 round:Bg P G round
theorem tN{C:ie}{G:Nat}{call:dC}{round:da}(E:gP P C G call round){r:Option Nat}{o:Oper}(hd:iU o.op=false){ev ev':Operand→Value}{v:Value}{A A2:AW}(e:zg P C call round ev o A=some (v,A2)){a:Act}{w:World}(hg:Gl G ρ)(hev:∀x,aX ρ (ev x) (ev' x))(hx:execOp ev' o=execOp a.eval o)(H:bS ρ A w){K:Act→World→Prop}{Q:Exit→Act→World→Prop}(hk:∀ρ' v' w',aX ρ' v v'→bS ρ' A2 w'→Step ρ A w ρ' A2 w'→K (a.put o.dst v') w'):o.wpIn (vQ r) 0 P a w K Q:=by
 refine⟨fun _ _=>trivial,?_⟩;have hsem:o.semAt (vQ r).round a.eval=execOp a.eval o:=Oper.semAt_eq _ _ _ fun c hc=>by rw[hc]at hd;simp[iU]at hd
 rw[hsem];unfold zg at e;cases e1:bO P (Ht P C ev o) A with
 |none=>rw[e1]at e;cases e
 |some y=>
   obtain⟨nx,A1⟩:=y;rw[e1]at e;obtain⟨ρ1,nx',w1,hrun,hN,H1,S1⟩:=(uT E.prog hev o).sound e1 H;rw[hx]at hrun;rw[hrun];cases hN with
   |value hv=>dsimp only at e;cases e;exact hk ρ1 _ _ hv H1 S1
   |skip=>dsimp only at e;cases e;exact hk ρ1 _ _ aX.undef H1 S1
   |@enter f args args' hargs=>dsimp only at e;refine⟨fun h=>by simp[vQ,Fence.wide]at h,pK ((E.call f args A1 v _ e ρ1 w1 args' (hg.mono S1.le) H1 hargs).mono fun en w' hh=>?_)⟩;obtain⟨ρ2,v',rfl,hv,H2,S2⟩:=hh;exact hk ρ2 _ _ hv H2 (S1.trans S2)
   |@round l l' f f' tmps tmps' as b hl htm=>dsimp only at e;refine⟨fun h=>by simp[vQ,Fence.wide]at h,xm ((E.round l tmps as b A1 v _ e ρ1 w1 l' f' tmps' (hg.mono S1.le) H1 hl htm).mono fun en w' hh=>?_)⟩;obtain⟨ρ2,v',rfl,hv,H2,S2⟩:=hh;exact hk ρ2 _ _ hv H2 (S1.trans S2)
   |defer hd=>cases e
   |recover=>cases e
   |other h=>
    cases nx<;>first|
     (simp[oB]at h;done)|cases e
def ED(P:Program)(C:ie)(G:Nat)(call:dC)(round:da)(inR:Bool)(o:Oper)(x:bG)(A:AW):Option (bG×AW):=if iU o.op=true then(if inR=true then none else match bO P (Ht P C (x.sev G) o) A with
 |some (.defer d,A1)=>some (({x with df:=d::x.df}:bG).put o.dst undef,A1)
 |_=>none)else match zg P C call round (x.sev G) o A with
 |some (v,A1)=>some (x.put o.dst v,A1)
 |none=>none
theorem zh{C:ie}{G:Nat}{call:dC}{round:da}(E:gP P C G call round){r:Option Nat}{inR:Bool}(hin:r.isSome=inR){o:Oper}(ho:iB G o=true){x x2:bG}{A A2:AW}(e:ED P C G call round inR o x A=some (x2,A2)){a:Act}{w:World}(hg:Gl G ρ)(ha:cK ρ x a)(H:bS ρ A w){K:Act→World→Prop}{Q:Exit→Act→World→Prop}(hk:∀ρ' a' w',cK ρ' x2 a'→bS ρ' A2 w'→Step ρ A w ρ' A2 w'→K a' w'):o.wpIn (vQ r) 0 P a w K Q:=by
 unfold ED at e;by_cases hd:iU o.op=true;·
  rw[if_pos hd]at e;split at e;·cases e
  ·
   rename_i hin';have hr:r=none:=by
    cases r with
    |none=>rfl
    |some l=>exact absurd hin.symm hin'
   subst hr;refine⟨fun _ _=>trivial,?_⟩;show Oper.uponIn _ _ _ _ _ _ _ ((execOp a.eval o).run P w);split at e;·
    rename_i d A1 e1;cases e;obtain⟨ρ1,nx',w1,hrun,hN,H1,S1⟩:=(uT E.prog (jL hg ha) o).sound e1 H;rw[kS ho]at hrun;rw[hrun];have ha1:=ha.mono S1.le;cases hN with
    |defer hdd=>exact hk ρ1 _ _ (cK.put (x:={x with df:=d::x.df}) (a:={a with defers:=_::a.defers}) ⟨ha1.size,ha1.lt,ha1.tm,.cons hdd ha1.df⟩ _ aX.undef) H1 S1
    |other h=>simp[oB]at h
   ·cases e
 ·rw[if_neg hd]at e;cases e1:zg P C call round (x.sev G) o A with
   |none=>rw[e1]at e;cases e
   |some y=>obtain⟨v,A1⟩:=y;rw[e1]at e;cases e;exact tN E (by simpa using hd) e1 hg (jL hg ha) (kS ho a) H fun ρ' v' w' hv H' S'=>hk ρ' _ w' ((ha.mono S'.le).put _ hv) H' S'
def kT(ops:Array Oper)(x:bG)(j:Nat):Option Bool:=match(ops[j]?).bind (·.dst)with
 |some t=>if t<x.n then(match x.at t with|.bool b=>some b|_=>none)else none
 |none=>none
theorem JU{P:Prop}(h:P:=by rw[hv]at h1;simp only[Option.getD_some]at h1;generalize x.at t=u at h1;cases h1<;>rfl):P:=h
theorem xn{x:bG}{a:Act}(h:cK ρ x a)(ops:Array Oper)(j:Nat):yielded ops a.tmps j=kT ops x j:=by
 unfold yielded kT;cases(ops[j]?).bind (·.dst)with
 |none=>rfl
 |some t=>
   dsimp only[Option.bind];by_cases ht:t<x.n;·
    rw[if_pos ht];have h1:=h.tm t;rw[Array.getD_eq_getD_getElem?]at h1;cases hv:a.tmps[t]? with
    |none=>rw[Array.getElem?_eq_none_iff,h.size]at hv;exact absurd ht (Nat.not_lt.2 hv)
    |some v=> exact JU
   ·
    rw[if_neg ht];have:a.tmps[t]?=none:=by rw[Array.getElem?_eq_none_iff,h.size];exact Nat.not_lt.1 ht
    rw[this]
def dQ(ops:Array Oper)(x:bG)(o:Oper):Bool:=Region.wanted o (kT ops x)
theorem rf{x:bG}{a:Act}(h:cK ρ x a)(ops:Array Oper)(o:Oper):Region.wanted o (yielded ops a.tmps)=dQ ops x o:=by unfold dQ;congr 1;funext j;exact xn h ops j
def Ox(ρ:br)(A:AW)(w:World)(outs:List (bG×AW))(K:Act→World→Prop):Prop:=∀z∈outs,∀ρ' a' w',cK ρ' z.1 a'→bS ρ' z.2 w'→Step ρ A w ρ' z.2 w'→K a' w'
def tO{α β:Type}(f:α→Option (List β)):List α→Option (List β)
 |[]=>some []
 |z::l=>match l with
  |[]=>f z
  |_=>match f z with
   |some a=>match tO f l with
    |some b=>some (a++b)
    |none=>none
   |none=>none
theorem lI{α β:Type}{f:α→Option (List β)}:∀{l:List α}{r:List β},tO f l=some r→∀z∈l,∃a,f z=some a∧∀b∈a,b∈r
 |[],r,h,z,hz=>by cases hz
 |[y],r,h,z,hz=>by
   cases hz with
   |head=>exact⟨r,h,fun b hb=>hb⟩
   |tail _ hz=>cases hz
 |y::y2::l,r,h,z,hz=>by
   unfold tO at h;dsimp only at h;split at h;case h_2=>cases h
   rename_i a ha;split at h;case h_2=>cases h
   rename_i b hb;cases h;cases hz with
   |head=>exact⟨a,ha,fun b hb=>List.mem_append_left _ hb⟩
   |tail _ hz=>obtain⟨a',h1,h2⟩:=lI hb z hz;exact⟨a',h1,fun b hb=>List.mem_append_right _ (h2 b hb)⟩
def bU(es:Array MapEntry)(since:Nat)(seen:Array Nat):Array (Option MapEntry):=let left:=es.filter fun e=>!seen.contains e.born;let old:=left.filter (·.born<since);let new:=left.filter (·.born≥since);(if old.isEmpty then#[none]else#[])++(old++new).map some
def C4(A:AW)(r m since:Nat)(seen:Array Nat)(clock:Nat)(c:Option MapEntry):Value×AW:=match c with
 |some e=>(.tuple #[.bool true,e.key,e.val],A.put r (.mapIter (some m) since (seen.push e.born) clock))
 |none=>(.tuple #[.bool false],A)
def zk(it:Value)(A:AW):Option (List (Value×AW)):=match it with
 |.pointer (some a)=>if a.off=0 then match A.get a.block with
  |some (.mapIter (some m) since seen last)=>match A.get m with
   |some (.map es clock)=>if(!seen.isEmpty&&!es.isEmpty&&es.all (·.born≥last))=true then none else if A.ro≤a.block then some ((bU es since seen).toList.map (C4 A a.block m since seen clock))else none
   |_=>none
  |_=>none else none
 |_=>none
theorem cq.filter{ρ:br}(q:Nat→Bool):∀{l l':List MapEntry},cq ρ l l'→cq ρ (l.filter fun e=>q e.born) (l'.filter fun e=>q e.born)
 |_,_,.nil=> .nil
 |_,_,.cons (k:=k) (k':=k') (v:=v) (v':=v') (n:=n) hk hv t=>by
   cases hq:q n with
   |true=>simp only[List.filter_cons,hq,if_true];exact .cons hk hv (t.filter q)
   |false=>simp only[List.filter_cons,hq,Bool.false_eq_true,if_false];exact t.filter q
theorem cq.alls{ρ:br}(q:Nat→Bool):∀{l l':List MapEntry},cq ρ l l'→(l'.all fun e=>q e.born)=l.all fun e=>q e.born
 |_,_,.nil=>rfl
 |_,_,.cons _ _ t=>by simp only[List.all_cons,t.alls q]
def JV(ρ:br)(c c':Option MapEntry):Prop:=(c=none∧c'=none)∨∃e e',c=some e∧c'=some e'∧yW ρ e e'
theorem C5{ρ:br}{es es':Array MapEntry}(h:cq ρ es.toList es'.toList)(since:Nat)(seen:Array Nat):(bU es since seen).size=(bU es' since seen).size∧(bU es since seen).size≠0∧∀(c:Nat)x,(bU es since seen)[c]?=some x→∃x',(bU es' since seen)[c]?=some x'∧JV ρ x x':=by
 have hl:cq ρ (es.filter fun e=>!seen.contains e.born).toList (es'.filter fun e=>!seen.contains e.born).toList:=by rw[Array.toList_filter,Array.toList_filter];exact h.filter (fun b=>!seen.contains b)
 have ho:cq ρ ((es.filter fun e=>!seen.contains e.born).filter (·.born<since)).toList ((es'.filter fun e=>!seen.contains e.born).filter (·.born<since)).toList:=by have:=hl.filter (fun b=>decide (b<since));rw[←Array.toList_filter,←Array.toList_filter]at this;exact this
 have hn:cq ρ ((es.filter fun e=>!seen.contains e.born).filter (·.born≥since)).toList ((es'.filter fun e=>!seen.contains e.born).filter (·.born≥since)).toList:=by have:=hl.filter (fun b=>decide (b≥since));rw[←Array.toList_filter,←Array.toList_filter]at this;exact this
 unfold bU;dsimp only;generalize(es.filter fun e=>!seen.contains e.born).filter (·.born<since)=o at ho⊢;generalize(es'.filter fun e=>!seen.contains e.born).filter (·.born<since)=o' at ho⊢;generalize(es.filter fun e=>!seen.contains e.born).filter (·.born≥since)=m at hn⊢;generalize(es'.filter fun e=>!seen.contains e.born).filter (·.born≥since)=m' at hn⊢;have hom:cq ρ (o++m).toList (o'++m').toList:=by rw[Array.toList_append,Array.toList_append];exact ho.app hn
 have hemp:=cq.isEmpty ho;have hsz:(o++m).size=(o'++m').size:=by simpa using hom.length
 have hget:∀(c:Nat)x,((o++m).map some)[c]?=some x→∃x',((o'++m').map some)[c]?=some x'∧JV ρ x x':=fun c x hx=>by
  rw[Array.getElem?_map]at hx⊢;have:=hom.get c;simp only[Array.getElem?_toList]at this;rcases this with⟨h1,h2⟩|⟨e,e',h1,h2,h3⟩;·rw[h1]at hx;cases hx
  ·rw[h1]at hx;cases hx;rw[h2];exact⟨some e',rfl,.inr ⟨e,e',rfl,rfl,h3⟩⟩
 by_cases he:o.isEmpty=true;·
  rw[hemp,if_pos he];refine⟨by simp only[Array.size_append,Array.size_map]at hsz⊢;omega,by simp only[Array.size_append,Array.size_map];simp,fun c x hx=>?_⟩;rw[Array.getElem?_append]at hx⊢;by_cases hc:c<1;·
   rw[if_pos (by simpa using hc)]at hx⊢;have:c=0:=by omega
   subst this;cases hx;exact⟨none,rfl,.inl ⟨rfl,rfl⟩⟩
  ·rw[if_neg (by simpa using hc)]at hx⊢;exact hget _ x hx
 ·
  rw[hemp,if_neg he];refine⟨by simp only[Array.size_append,Array.size_map]at hsz⊢;omega,?_,fun c x hx=>?_⟩;·simp only[Array.isEmpty_iff_size_eq_zero]at he;simp only[Array.size_append,Array.size_map,List.size_toArray,List.length_nil];omega
  ·rw[Array.getElem?_append]at hx⊢;simp only[List.size_toArray,List.length_nil,Nat.not_lt_zero,if_false,Nat.sub_zero]at hx⊢;exact hget _ x hx
theorem xp {ρ : br} {A : AW} {w : World} {it it' : Value} {t : TypeId} {outs : List (Value × AW)} (h : zk it A = some outs) (H : bS ρ A w) (hit : aX ρ it it') :
    ∃ z ∈ outs, ∃ ρ' v' w', (Instr.next it' false t).run P w = .ok v' w' ∧ aX ρ' z.1 v' ∧ bS ρ' z.2 w' ∧ Step ρ A w ρ' z.2 w' := by
  unfold zk at h
  split at h
  case h_2 => cases h
  rename_i a
  split at h
  case isFalse => cases h
  rename_i h0
  split at h
  case h_2 => cases h
  rename_i m since seen last hga
  split at h
  case h_2 => cases h
  rename_i es clock hgm
  split at h
  · cases h
  rename_i hgone
  split at h
  case isFalse => cases h
  rename_i hro
  cases h
  cases hit with
  | @ptr _ a' ha =>
    obtain ⟨p, oi, hp, hw, hoi⟩ := H.obj _ _ hga
    obtain ⟨q, om, hq, hwm, hom⟩ := H.obj _ _ hgm
    cases hoi with
    | @mapIter hs0 _ m' hmb _ _ _ =>
      cases hom with
      | @map _ es' _ hs1 hes =>
        obtain ⟨q2, hq2, hq3, hq4⟩ := hmb
        rw [hq] at hq2; cases hq2
        have ea : a' = ⟨p.b, 0, none⟩ := by
          obtain ⟨_, p2, hp2, rfl⟩ := ha
          rw [hp] at hp2; cases hp2
          rw [hs0, h0]
        subst ea
        obtain ⟨c1, c2, c3⟩ := C5 hes since seen
        have hgone' : (!seen.isEmpty && !es'.isEmpty && es'.all (·.born ≥ last)) = false := by
          have e1 := cq.isEmpty hes
          have e2 : es'.all (·.born ≥ last) = es.all (·.born ≥ last) := by
            rw [← Array.all_toList, ← Array.all_toList]
            exact hes.alls (fun b => decide (b ≥ last))
          rw [e1, e2]
          simpa using hgone
        have hrun : ∃ c x', c < (bU es' since seen).size ∧ (bU es' since seen)[c]? = some x' ∧ ∃ w1 : World, w1.heap = w.heap ∧ w1.tape = w.tape ∧ w1.os = w.os ∧ w1.output = w.output ∧
            (Instr.next (.pointer (some ⟨p.b, 0, none⟩)) false t).run P w = (match x' with
              | some e => (do setObj p.b (.mapIter (some m') since (seen.push e.born) clock); pure (.tuple #[.bool true, e.key, e.val]) : Sem Value)
              | none => pure (.tuple #[.bool false])).run P w1 := by
          have hlook : ∃ k : Nat → Sem Value, (Instr.next (.pointer (some ⟨p.b, 0, none⟩)) false t).run P w = (choose (.mapNext (bU es' since seen).size) >>= k).run P w ∧
              (∀ (n : Nat) (e : MapEntry), (bU es' since seen)[n]? = some (some e) → k n = (do setObj p.b (.mapIter (some m') since (seen.push e.born) clock); pure (.tuple #[.bool true, e.key, e.val]))) ∧
              (∀ (n : Nat), (bU es' since seen)[n]? = some none → k n = pure (.tuple #[.bool false])) := by
            refine ⟨?_, ?_, ?_, ?_⟩
            case refine_2 =>
              show Sem.run P (.getObj p.b _) w = _
              simp only [Sem.run, hw]
              show Sem.run P (.getObj m' _) w = _
              rw [← hq3]
              simp only [Sem.run, hwm]
              show Sem.run P (if (!seen.isEmpty && !es'.isEmpty && es'.all fun x => decide (x.born ≥ last)) = true then _ else _) w = _
              rw [if_neg (by rw [hgone']; simp)]
              exact rfl
            case refine_3 =>
              intro n e he
              unfold bU at he
              dsimp only at he
              rw [he, hq3]
            case refine_4 =>
              intro n he
              unfold bU at he
              dsimp only at he
              rw [he]
          obtain ⟨k, hl1, hl2, hl3⟩ := hlook
          have hne : (bU es' since seen).size ≠ 0 := by rw [← c1]; exact c2
          have fin : ∀ c, c < (bU es' since seen).size → ∃ x', (bU es' since seen)[c]? = some x' ∧ k c = (match x' with
              | some e => (do setObj p.b (.mapIter (some m') since (seen.push e.born) clock); pure (.tuple #[.bool true, e.key, e.val]) : Sem Value)
              | none => pure (.tuple #[.bool false])) := fun c hc => by
            have h1 : (bU es' since seen)[c]? = some (bU es' since seen)[c] := Array.getElem?_eq_getElem hc
            generalize (bU es' since seen)[c] = x' at h1
            cases x' with
            | none => exact ⟨none, h1, hl3 c h1⟩
            | some e => exact ⟨some e, h1, hl2 c e h1⟩
          by_cases hf : (Question.mapNext (bU es' since seen).size).forced = true
          · obtain ⟨x', h1, h2⟩ := fin 0 (by omega)
            refine ⟨0, x', by omega, h1, w, rfl, rfl, rfl, rfl, ?_⟩
            rw [hl1]
            show Sem.run P (.choose _ _) w = _
            simp only [Sem.run, hf, if_true]
            show Sem.run P (k 0) w = _
            rw [h2]
          · have hlt : (Question.mapNext (bU es' since seen).size).cut (w.tape w.drawn (.mapNext (bU es' since seen).size)) < (bU es' since seen).size := Nat.mod_lt _ (by omega)
            obtain ⟨x', h1, h2⟩ := fin _ hlt
            refine ⟨_, x', hlt, h1, { w with drawn := w.drawn + 1 }, rfl, rfl, rfl, rfl, ?_⟩
            rw [hl1]
            show Sem.run P (.choose _ _) w = _
            simp only [Sem.run, hf, if_false, Bool.false_eq_true]
            show Sem.run P (k _) _ = _
            rw [h2]
        obtain ⟨c, x', hc, hx', w1, e1, e2, e3, e4, hr⟩ := hrun
        have hcs : c < (bU es since seen).size := by rw [c1]; exact hc
        have hx : (bU es since seen)[c]? = some (bU es since seen)[c] := Array.getElem?_eq_getElem hcs
        obtain ⟨x2, h2, h3⟩ := c3 c _ hx
        rw [hx'] at h2; cases h2
        have H1 : bS ρ A w1 := H.heap e1
        have S1 : Step ρ A w ρ A w1 := Step.heap e1 e2 e3 e4
        refine ⟨_, List.mem_map.2 ⟨(bU es since seen)[c], ?_, rfl⟩, ?_⟩
        · rw [Array.mem_toList_iff]; exact Array.getElem_mem hcs
        rw [hr]
        rcases h3 with ⟨h4, rfl⟩ | ⟨en, en', h4, rfl, h5⟩
        · rw [h4]
          exact ⟨ρ, _, w1, rfl, .tuple (.cons (.bool _) .nil), H1, S1⟩
        · rw [h4]
          have hs := (bj.setObj (P := P) (R := lX) (k := .pure ()) (k' := .pure ()) (r := a.block) (r' := p.b) (o := .mapIter (some m) since (seen.push en.born) clock) (o' := .mapIter (some m') since (seen.push en.born) clock) (ρ := ρ) ⟨p, hp, rfl⟩
            (fun q2 hq2 => .mapIter hq2 ⟨q, hq, hq3, hq4⟩ _ _ _) (.pure rfl)).sound (A := A) (A' := A.put a.block (.mapIter (some m) since (seen.push en.born) clock)) (a := ()) (w := w1) (by
              simp only [bO, hga, if_pos hro]) H1
          obtain ⟨ρ2, u, w2, r2, _, H2, S2⟩ := hs
          refine ⟨ρ2, .tuple #[.bool true, en'.key, en'.val], w2, ?_, ?_, H2, S1.trans S2⟩
          · show Sem.run P (setObj p.b (.mapIter (some m') since (seen.push en'.born) clock) >>= fun _ => pure _) w1 = _
            rw [Sem.run_bind, h5.born, show Sem.run P (setObj p.b (.mapIter (some m') since (seen.push en.born) clock)) w1 = .ok u w2 from r2]
            rfl
          · exact .tuple (.cons (.bool _) (.cons (h5.key.mono S2.le) (.cons (h5.val.mono S2.le) .nil)))
def EE(o:Op):Option Operand:=match o with
 |.next it false=>some it
 |_=>none
def zl(P:Program)(C:ie)(G:Nat)(call:dC)(round:da)(inR:Bool)(o:Oper)(x:bG)(A:AW):Option (List (bG×AW)):=match EE o.op with
 |some it=>match zk (x.sev G it) A with
  |some outs=>some (outs.map fun z=>(x.put o.dst z.1,z.2))
  |none=>none
 |none=>match ED P C G call round inR o x A with
  |some z=>some [z]
  |none=>none
theorem xq{C:ie}{G:Nat}{call:dC}{round:da}(E:gP P C G call round){r:Option Nat}{inR:Bool}(hin:r.isSome=inR){o:Oper}(ho:iB G o=true){x:bG}{A:AW}{outs:List (bG×AW)}(e:zl P C G call round inR o x A=some outs){a:Act}{w:World}(hg:Gl G ρ)(ha:cK ρ x a)(H:bS ρ A w){K:Act→World→Prop}{Q:Exit→Act→World→Prop}(hk:Ox ρ A w outs K):o.wpIn (vQ r) 0 P a w K Q:=by
 unfold zl at e;split at e;·
  rename_i it hit;split at e;·
   rename_i vs hvs;cases e;have hop:o.op=.next it false:=by
    unfold EE at hit;split at hit;·rename_i it2 h;cases hit;exact h
    ·cases hit
   obtain⟨z,hz,ρ',v',w',hrun,hv,H',S'⟩:=xp (P:=P) (t:=o.type) hvs H (jL hg ha it);refine⟨fun _ _=>trivial,?_⟩;have hsem:o.semAt (vQ r).round a.eval=execOp a.eval o:=Oper.semAt_eq _ _ _ fun c hc=>by rw[hop]at hc;cases hc
   have hrun':(execOp a.eval o).run P w=.ok (.value v') w':=by
    rw[←kS ho];have hx:execOp (mI G a) o=(Instr.next (mI G a it) false o.type>>=fun v=>pure (Next.value v)):=by unfold execOp;rw[hop]
    rw[hx];show Sem.run P (Instr.next (mI G a it) false o.type>>=fun v=>pure (Next.value v)) w=_;rw[Sem.run_bind,hrun];rfl
   rw[hsem,hrun'];exact hk (x.put o.dst z.1,z.2) (List.mem_map.2 ⟨z,hz,rfl⟩) ρ' _ w' ((ha.mono S'.le).put _ hv) H' S'
  ·cases e
 ·
  split at e;·rename_i z hz;cases e;exact zh E hin ho hz hg ha H fun ρ' a' w' h1 h2 h3=>hk z (.head _) ρ' a' w' h1 h2 h3
  ·cases e
def C6(P:Program)(C:ie)(G:Nat)(call:dC)(round:da)(inR:Bool)(ops:Array Oper):List Oper→bG→AW→Option (List (bG×AW))
 |[],x,A=>some [(x,A)]
 |o::l,x,A=>if dQ ops x o=true then match zl P C G call round inR o x A with
  |some outs=>tO (fun z=>C6 P C G call round inR ops l z.1 z.2) outs
  |none=>none else C6 P C G call round inR ops l (x.put o.dst undef) A
theorem mJ{C:ie}{G:Nat}{call:dC}{round:da}(E:gP P C G call round){r:Option Nat}{inR:Bool}(hin:r.isSome=inR){ops:Array Oper}{Q:Exit→Act→World→Prop}:∀{l:List Oper}{ρ:br}{x:bG}{A:AW}{outs:List (bG×AW)},l.all (iB G)=true→C6 P C G call round inR ops l x A=some outs→∀{a:Act}{w:World},Gl G ρ→cK ρ x a→bS ρ A w→Ox ρ A w outs (Q .normal)→wpListIn (vQ r) 0 P ops Q l a w
 |[],ρ,x,A,outs,_,e,a,w,hg,ha,H,hk=>by simp only[C6,Option.some.injEq]at e;subst e;exact hk (x,A) (.head _) ρ a w ha H (.refl _ _ _)
 |o::l,ρ,x,A,outs,hok,e,a,w,hg,ha,H,hk=>by
  simp only[List.all_cons,Bool.and_eq_true]at hok;unfold wpListIn;rw[rf ha];unfold C6 at e;by_cases hw:dQ ops x o=true;·
   rw[if_pos hw]at e⊢;split at e;·
    rename_i os hos;exact xq E hin hok.1 hos hg ha H fun y hy ρ' a' w' ha' H' S'=>by obtain⟨b,hb1,hb2⟩:=lI e y hy;exact mJ E hin hok.2 hb1 (hg.mono S'.le) ha' H' fun u hu ρ2 a2 w2 ha2 H2 S2=>hk u (hb2 u hu) ρ2 a2 w2 ha2 H2 (S'.trans S2)
   ·cases e
  ·rw[if_neg hw]at e⊢;exact⟨fun _ _=>trivial,mJ E hin hok.2 e hg (ha.put _ aX.undef) H hk⟩
end Go.Proofs.Eng
end
section
set_option linter.unusedSimpArgs false
set_option linter.unusedVariables false
namespace Go.Proofs.Eng
structure Since(lo:Nat)(ρ:br)(A:AW)(w:World)(ρ':br)(A':AW)(w':World):Prop where
 nid:A.nid≤A'.nid
 stop:A'.stop=A.stop
 ro:A'.ro=A.ro
 le:ρ.le ρ'
 agree:∀k,(k<lo∨A'.nid≤k)→ρ' k=ρ k
 keep:∀k,k<A.ro→(k<lo∨A'.nid≤k)→A'.get k=A.get k
 frame:∀b,b<w.heap.size→(∀k o p,A.ro≤k→A.get k=some o→ρ k=some p→p.b≠b)→w'.heap[b]?=w.heap[b]?
 size:w.heap.size≤w'.heap.size
 fresh:∀k o p,A'.get k=some o→ρ' k=some p→w.heap.size≤p.b∨(∃k0 o0 p0,A.ro≤k0∧A.get k0=some o0∧ρ k0=some p0∧p0.b=p.b)∨(A'.get k=A.get k∧ρ k=some p)
 tape:w'.tape=w.tape
 os:w'.os=w.os
 out:w'.output=w.output
theorem Since.step{ρ ρ':br}{A A':AW}{w w':World}(S:Since A.nid ρ A w ρ' A' w'):Step ρ A w ρ' A' w':=⟨S.nid,S.stop,S.ro,S.le,S.agree,S.keep,S.frame,S.size,S.fresh,S.tape,S.os,S.out⟩
theorem Step.since{lo:Nat}{ρ ρ':br}{A A':AW}{w w':World}(h:lo≤A.nid)(S:Step ρ A w ρ' A' w'):Since lo ρ A w ρ' A' w':=⟨S.nid,S.stop,S.ro,S.le,fun k hk=>S.agree k (by omega),fun k h1 hk=>S.keep k h1 (by omega),S.frame,S.size,S.fresh,S.tape,S.os,S.out⟩
theorem Since.trans {lo : Nat} {ρ₀ ρ₁ ρ₂ : br} {A₀ A₁ A₂ : AW} {w₀ w₁ w₂ : World} (S : Since lo ρ₀ A₀ w₀ ρ₁ A₁ w₁) (T : Since lo ρ₁ A₁ w₁ ρ₂ A₂ w₂) : Since lo ρ₀ A₀ w₀ ρ₂ A₂ w₂ where
  nid := Nat.le_trans S.nid T.nid
  stop := T.stop.trans S.stop
  ro := T.ro.trans S.ro
  le := S.le.trans T.le
  agree := fun k h => by
    have h2 := T.nid
    rw [T.agree k (by omega), S.agree k (by omega)]
  keep := fun k hr h => by
    have h2 := T.nid
    rw [T.keep k (by rw [S.ro]; exact hr) (by omega), S.keep k hr (by omega)]
  frame := fun b hb h => by
    rw [T.frame b (Nat.lt_of_lt_of_le hb S.size) ?_, S.frame b hb h]
    intro k o p hk hg hp
    rcases S.fresh k o p hg hp with h1 | ⟨k0, o0, p0, hk0, hg0, hp0, he⟩ | ⟨h1, h2⟩
    · omega
    · rw [← he]; exact h k0 o0 p0 hk0 hg0 hp0
    · exact h k o p (by rw [← S.ro]; exact hk) (h1 ▸ hg) h2
  size := Nat.le_trans S.size T.size
  fresh := fun k o p hg hp => by
    rcases T.fresh k o p hg hp with h1 | ⟨k0, o0, p0, hk0, hg0, hp0, he⟩ | ⟨h1, h2⟩
    · exact .inl (Nat.le_trans S.size h1)
    · rcases S.fresh k0 o0 p0 hg0 hp0 with h2 | ⟨k1, o1, p1, hk1, hg1, hp1, he1⟩ | ⟨h2, h3⟩
      · exact .inl (by omega)
      · exact .inr (.inl ⟨k1, o1, p1, hk1, hg1, hp1, he1.trans he⟩)
      · exact .inr (.inl ⟨k0, o0, p0, by rw [← S.ro]; exact hk0, h2 ▸ hg0, h3, he⟩)
    · rcases S.fresh k o p (h1 ▸ hg) h2 with h3 | h3 | ⟨h3, h4⟩
      · exact .inl h3
      · exact .inr (.inl h3)
      · exact .inr (.inr ⟨h1.trans h3, h4⟩)
  tape := T.tape.trans S.tape
  os := T.os.trans S.os
  out := T.out.trans S.out
theorem bS.sub{ρ:br}{A B:AW}{w:World}(H:bS ρ A w)(hs:∀j o,B.get j=some o→A.get j=some o)(hn:∀k,B.nid≤k→k<B.stop→ρ k=Option.none)(hi:B.nid≤B.stop∧B.stop≤jo):bS ρ B w:=⟨fun k o h=>H.obj k o (hs k o h),fun k k' o o' p p' h h'=>H.inj k k' o o' p p' (hs k o h) (hs k' o' h'),hn,fun k o h=>H.low k o (hs k o h),hi⟩
theorem bS.same{ρ:br}{A B:AW}{w:World}(H:bS ρ A w)(hg:∀j,B.get j=A.get j)(hn:B.nid=A.nid)(hs:B.stop=A.stop):bS ρ B w:=H.sub (fun j o h=>by rw[←hg];exact h) (fun k h1 h2=>H.none k (by omega) (by omega)) (by rw[hn,hs];exact H.ids)
theorem Since.same{lo:Nat}{ρ ρ':br}{A A' B:AW}{w w':World}(S:Since lo ρ A w ρ' A' w')(hg:∀j,B.get j=A'.get j)(hn:B.nid=A'.nid)(hs:B.stop=A'.stop)(hr:B.ro=A'.ro):Since lo ρ A w ρ' B w':=⟨by rw[hn];exact S.nid,by rw[hs];exact S.stop,by rw[hr];exact S.ro,S.le,fun k h=>S.agree k (by rw[←hn];exact h),fun k h1 h2=>by
 rw[hg];exact S.keep k h1 (by rw[←hn];exact h2),S.frame,S.size,fun k o p h hp=>by rw[hg]at h⊢;exact S.fresh k o p h hp,S.tape,S.os,S.out⟩
theorem tP{ρ ρ':br}{T G G' T':AW}{w w':World}(HT:bS ρ T w)(hsub:∀j o,G.get j=some o→T.get j=some o)(hn:G.nid=T.nid)(hs:G.stop=T.stop)(hr:G.ro=T.ro)(HG':bS ρ' G' w')(S:Step ρ G w ρ' G' w')(ht:∀j,T'.get j=if(T.get j).isSome=true∧G.get j=none then T.get j else G'.get j)(tn:T'.nid=G'.nid)(ts:T'.stop=G'.stop)(tr:T'.ro=G'.ro):bS ρ' T' w'∧Step ρ T w ρ' T' w'∧∀j o,T.get j=some o→G.get j=none→G'.get j=none:=by
 have key:∀j o,T.get j=some o→G.get j=none→∃p o',ρ j=some p∧ρ' j=some p∧w'.heap[p.b]?=some o'∧fP ρ p o o'∧p.b<w.heap.size∧G'.get j=none:=by
  intro j o hj hg;obtain⟨p,o',h1,h2,h3⟩:=HT.obj j o hj;have hlt:=HT.lt hj h1;refine⟨p,o',h1,S.le _ _ h1,?_,h3,hlt,?_⟩;·rw[S.frame p.b hlt ?_,h2];intro k o2 p2 hk hgk hp2 he;have:=HT.inj k j _ _ _ _ (hsub k o2 hgk) hj hp2 h1 he;subst this;rw[hg]at hgk;cases hgk
  ·cases hg':G'.get j with
    |none=>rfl
    |some o2=>
     rcases S.fresh j o2 p hg' (S.le _ _ h1)with h|⟨k0,o0,p0,_,hg0,hp0,he⟩|⟨h,_⟩;·omega
     ·have:=HT.inj k0 j _ _ _ _ (hsub k0 o0 hg0) hj hp0 h1 he;subst this;rw[hg]at hg0;cases hg0
     ·rw[hg',hg]at h;cases h
 have cases':∀j o,T'.get j=some o→(T.get j=some o∧G.get j=none)∨G'.get j=some o:=by
  intro j o h;rw[ht]at h;split at h;·rename_i hc;exact .inl ⟨h,hc.2⟩
  ·exact .inr h
 have cross:∀j j' o o' p p',T.get j=some o→G.get j=none→G'.get j'=some o'→ρ' j=some p→ρ' j'=some p'→p.b=p'.b→j=j':=by
  intro j j' o o' p p' hj hg hj' hp hp' he;obtain⟨q,oq,h1,h2,h3,h4,h5,h6⟩:=key j o hj hg;rw[h2]at hp;cases hp;rcases S.fresh j' o' p' hj' hp' with h|⟨k0,o0,p0,_,hg0,hp0,he0⟩|⟨h,hq⟩;·omega
  ·have:=HT.inj k0 j _ _ _ _ (hsub k0 o0 hg0) hj hp0 h1 (he0.trans he.symm);subst this;rw[hg]at hg0;cases hg0
  ·rw[hj']at h;exact HT.inj j j' _ _ _ _ hj (hsub j' _ h.symm) h1 hq he
 refine⟨⟨fun j o h=>?_,fun j j' o o' p p' h h' hp hp' he=>?_,fun k h1 h2=>HG'.none k (by omega) (by omega),fun j o h=>?_,by rw[tn,ts];exact HG'.ids⟩,?_,fun j o h1 h2=>(key j o h1 h2).choose_spec.choose_spec.2.2.2.2.2⟩;·
  rcases cases' j o h with⟨h1,h2⟩|h1;·obtain⟨p,o',q1,q2,q3,q4,_⟩:=key j o h1 h2;exact⟨p,o',q2,q3,q4.mono S.le⟩
  ·exact HG'.obj j o h1
 ·
  rcases cases' j o h with⟨h1,h2⟩|h1;·
   rcases cases' j' o' h' with⟨h3,h4⟩|h3;·obtain⟨q,_,q1,q2,_⟩:=key j o h1 h2;obtain⟨q',_,q3,q4,_⟩:=key j' o' h3 h4;rw[q2]at hp;cases hp;rw[q4]at hp';cases hp';exact HT.inj j j' _ _ _ _ h1 h3 q1 q3 he
   ·exact cross j j' o o' p p' h1 h2 h3 hp hp' he
  ·
   rcases cases' j' o' h' with⟨h3,h4⟩|h3;·exact(cross j' j o' o p' p h3 h4 h1 hp' hp he.symm).symm
   ·exact HG'.inj j j' _ _ _ _ h1 h3 hp hp' he
 ·
  rcases cases' j o h with⟨h1,_⟩|h1;·exact HT.low j o h1
  ·exact HG'.low j o h1
 ·
  refine⟨by rw[tn,←hn];exact S.nid,by rw[ts,S.stop,hs],by rw[tr,S.ro,hr],S.le,fun k h=>S.agree k (by rw[hn,←tn];exact h),fun k h1 h2=>?_,fun b hb h=>?_,S.size,fun j o p h hp=>?_,S.tape,S.os,S.out⟩;·
   have hk:=S.keep k (by rw[hr];exact h1) (by rw[hn,←tn];exact h2);rw[ht];split;·rfl
   ·rename_i hc;rw[hk];cases hT:T.get k with
     |none=>cases hG:G.get k with
             |none=>rfl
             |some o=>rw[hsub k o hG]at hT;cases hT
     |some o=>
       rw[hT]at hc;simp only[Option.isSome_some,true_and]at hc;cases hG:G.get k with
       |none=>exact absurd hG hc
       |some o2=>rw[hsub k o2 hG]at hT;exact hT
  ·exact S.frame b hb fun k o p hk hg hp=>h k o p (by rw[←hr];exact hk) (hsub k o hg) hp
  ·
   rcases cases' j o h with⟨h1,h2⟩|h1;·obtain⟨q,_,q1,q2,_⟩:=key j o h1 h2;rw[q2]at hp;cases hp;exact .inr (.inr ⟨h.trans h1.symm,q1⟩)
   ·
    rcases S.fresh j o p h1 hp with h2|⟨k0,o0,p0,hk0,hg0,hp0,he⟩|⟨h2,h3⟩;·exact .inl h2
    ·exact .inr (.inl ⟨k0,o0,p0,by rw[←hr];exact hk0,hsub _ _ hg0,hp0,he⟩)
    ·exact .inr (.inr ⟨h.trans (hsub j o (by rw[←h2];exact h1)).symm,h3⟩)
theorem C7{lo:Nat}{ρ ρ':br}{T G G' T':AW}{w w':World}(HT:bS ρ T w)(hsub:∀j o,G.get j=some o→T.get j=some o)(hro:G.ro=jo)(HG:bS ρ G w)(HG':bS ρ' G' w')(S:Step ρ G w ρ' G' w')(hb:G.stop≤T.nid)(hlo:lo≤G.nid)(ht:∀j,T'.get j=if G.nid≤j∧j<G'.nid then G'.get j else T.get j)(tn:T'.nid=T.nid)(ts:T'.stop=T.stop)(tr:T'.ro=T.ro):bS ρ' T' w'∧Since lo ρ T w ρ' T' w':=by
 have hst:G'.nid≤G.stop:=by have:=HG'.ids.1;rw[S.stop]at this;exact this
 have same:∀b,b<w.heap.size→w'.heap[b]?=w.heap[b]?:=fun b hb=>S.frame b hb fun k o p hk hg _=>by have:=HG.low k o hg;omega
 have win:∀j o p,G.nid≤j→j<G'.nid→G'.get j=some o→ρ' j=some p→w.heap.size≤p.b:=fun j o p h1 h2 hg hp=>by
  rcases S.fresh j o p hg hp with h|⟨k0,o0,p0,hk0,hg0,_,_⟩|⟨_,h⟩;·exact h
  ·have:=HG.low k0 o0 hg0;omega
  ·rw[HG.none j h1 (by omega)]at h;cases h
 have cases':∀j o,T'.get j=some o→(G.nid≤j∧j<G'.nid∧G'.get j=some o)∨(¬(G.nid≤j∧j<G'.nid)∧T.get j=some o):=fun j o h=>by
  rw[ht]at h;split at h;·rename_i hc;exact .inl ⟨hc.1,hc.2,h⟩
  ·rename_i hc;exact .inr ⟨hc,h⟩
 have old:∀j o p,T.get j=some o→ρ' j=some p→ρ j=some p∧p.b<w.heap.size:=fun j o p h hp=>by obtain⟨q,o',h1,h2,_⟩:=HT.obj j o h;have:=S.le _ _ h1;rw[hp]at this;cases this;exact⟨h1,HT.lt h h1⟩
 refine⟨⟨fun j o h=>?_,fun j j' o o' p p' h h' hp hp' he=>?_,fun k h1 h2=>?_,fun j o h=>?_,by rw[tn,ts];exact HT.ids⟩,?_⟩;·
  rcases cases' j o h with⟨_,_,h1⟩|⟨_,h1⟩;·exact HG'.obj j o h1
  ·obtain⟨p,o',q1,q2,q3⟩:=HT.obj j o h1;exact⟨p,o',S.le _ _ q1,by rw[same _ (HT.lt h1 q1)];exact q2,q3.mono S.le⟩
 ·
  rcases cases' j o h with⟨a1,a2,h1⟩|⟨_,h1⟩;·
   rcases cases' j' o' h' with⟨_,_,h2⟩|⟨_,h2⟩;·exact HG'.inj j j' _ _ _ _ h1 h2 hp hp' he
   ·have:=win j o p a1 a2 h1 hp;have:=(old j' o' p' h2 hp').2;omega
  ·
   rcases cases' j' o' h' with⟨a1,a2,h2⟩|⟨_,h2⟩;·have:=win j' o' p' a1 a2 h2 hp';have:=(old j o p h1 hp).2;omega
   ·exact HT.inj j j' _ _ _ _ h1 h2 (old j o p h1 hp).1 (old j' o' p' h2 hp').1 he
 ·rw[S.agree k (by omega)];exact HT.none k (by omega) (by omega)
 ·
  rcases cases' j o h with⟨_,_,h1⟩|⟨_,h1⟩;·exact HG'.low j o h1
  ·exact HT.low j o h1
 ·
  refine⟨by rw[tn];exact Nat.le_refl _,ts,tr,S.le,fun k h=>S.agree k (by omega),fun k _ h=>?_,fun b hb _=>same b hb,S.size,fun j o p h hp=>?_,S.tape,S.os,S.out⟩;·rw[ht,if_neg (by omega)]
  ·
   rcases cases' j o h with⟨a1,a2,h1⟩|⟨hc,h1⟩;·exact .inl (win j o p a1 a2 h1 hp)
   ·refine .inr (.inr ⟨by rw[ht,if_neg hc],(old j o p h1 hp).1⟩)
end Go.Proofs.Eng
end
section
set_option linter.unusedSimpArgs false
set_option linter.unusedVariables false
namespace Go.Proofs.Eng
variable{P:Program}{ρ:br}
mutual
def nz:Value→Value→Bool
 |.bool a,.bool b=>a==b
 |.int k a,.int l b=>decide (k=l)&&decide (a=b)
 |.float k a,.float l b=>decide (k=l)&&decide (a=b)
 |.string a,.string b=>decide (a.data.toList=b.data.toList)
 |.pointer none,.pointer none=>true
 |.pointer (some a),.pointer (some b)=>decide (a=b)
 |.slice none n c,.slice none m d=>decide (n=m)&&decide (c=d)
 |.slice (some a) n c,.slice (some b) m d=>decide (a=b)&&decide (n=m)&&decide (c=d)
 |.map none,.map none=>true
 |.map (some a),.map (some b)=>decide (a=b)
 |.func (.func f) ⟨x⟩ ⟨y⟩,.func (.func g) ⟨u⟩ ⟨v⟩=>decide (f=g)&&qd x u&&qd y v
 |.func (.yield f) ⟨x⟩ ⟨y⟩,.func (.yield g) ⟨u⟩ ⟨v⟩=>decide (f=g)&&qd x u&&qd y v
 |.nilFunc,.nilFunc=>true
 |.iface t a,.iface u b=>decide (t=u)&&nz a b
 |.nilIface,.nilIface=>true
 |.agg ⟨x⟩,.agg ⟨y⟩=>qd x y
 |.tuple ⟨x⟩,.tuple ⟨y⟩=>qd x y
 |_,_=>false
def qd:List Value→List Value→Bool
 |[],[]=>true
 |a::l,b::m=>nz a b&&qd l m
 |_,_=>false
end
theorem JW{P:Prop}(h:P:=by
 cases b<;>try
  (simp[nz]at h;done)
 rename_i b;cases b<;>simp[nz]at h;rfl):P:=h
theorem JX{P:Prop}(h:P:=by
 cases b<;>try
  (simp[nz]at h;done)
 rename_i b;cases b<;>simp[nz]at h;rw[h]):P:=h
theorem JY{P:Prop}(h:P:=by
 cases b<;>try
  (simp[nz]at h;done)
 rename_i y;obtain⟨y⟩:=y;simp[nz]at h;rw[iV x y h]):P:=h
mutual
theorem mK:∀(a b:Value),nz a b=true→a=b
 |.bool a,b,h=>by cases b<;>simp[nz]at h;rw[h]
 |.int k a,b,h=>by cases b<;>simp[nz]at h;rw[h.1,h.2]
 |.float k a,b,h=>by cases b<;>simp[nz]at h;rw[h.1,h.2]
 |.complex k a c,b,h=>by cases b<;>simp[nz]at h
 |.string a,b,h=>by cases b<;>simp[nz]at h;rename_i b;obtain⟨⟨a⟩⟩:=a;obtain⟨⟨b⟩⟩:=b;simp at h;rw[h]
 |.pointer none,b,h=>by exact JW
 |.pointer (some a),b,h=>by exact JX
 |.slice none n c,b,h=>by
  cases b<;>try
   (simp[nz]at h;done)
  rename_i b _ _;cases b<;>simp[nz]at h;rw[h.1,h.2]
 |.slice (some a) n c,b,h=>by
  cases b<;>try
   (simp[nz]at h;done)
  rename_i b _ _;cases b<;>simp[nz]at h;rw[h.1.1,h.1.2,h.2]
 |.map none,b,h=>by exact JW
 |.map (some a),b,h=>by exact JX
 |.chan a,b,h=>by cases b<;>simp[nz]at h
 |.func f ⟨x⟩ ⟨y⟩,b,h=>by
  cases b<;>try
   (cases f<;>simp[nz]at h;done)
  rename_i g u v;obtain⟨u⟩:=u;obtain⟨v⟩:=v;cases f<;>cases g<;>simp[nz]at h;·rw[h.1.1,iV x u h.1.2,iV y v h.2]
  ·rw[h.1.1,iV x u h.1.2,iV y v h.2]
 |.nilFunc,b,h=>by cases b<;>simp[nz]at h;rfl
 |.iface t a,b,h=>by cases b<;>simp[nz]at h;rw[h.1,mK a _ h.2]
 |.nilIface,b,h=>by cases b<;>simp[nz]at h;rfl
 |.agg ⟨x⟩,b,h=>by exact JY
 |.tuple ⟨x⟩,b,h=>by exact JY
theorem iV:∀(a b:List Value),qd a b=true→a=b
 |[],b,h=>by cases b<;>simp[qd]at h;rfl
 |a::l,b,h=>by cases b<;>simp[qd]at h;rw[mK a _ h.1,iV l _ h.2]
end
def C8:List MapEntry→List MapEntry→Bool
 |[],[]=>true
 |a::l,b::m=>nz a.key b.key&&nz a.val b.val&&decide (a.born=b.born)&&C8 l m
 |_,_=>false
theorem Bh:∀(a b:List MapEntry),C8 a b=true→a=b
 |[],[],_=>rfl
 |[],_::_,h=>by simp[C8]at h
 |_::_,[],h=>by simp[C8]at h
 |⟨k,v,n⟩::l,⟨k',v',n'⟩::m,h=>by simp only[C8,Bool.and_eq_true,decide_eq_true_eq]at h;rw[mK _ _ h.1.1.1,mK _ _ h.1.1.2,h.1.2,Bh l m h.2]
def Oy:Obj→Obj→Bool
 |.cells ⟨a⟩ e f,.cells ⟨b⟩ g h=>qd a b&&decide (e=g)&&decide (f=h)
 |.map ⟨a⟩ c,.map ⟨b⟩ d=>C8 a b&&decide (c=d)
 |.stringIter s n,.stringIter t m=>decide (s.data.toList=t.data.toList)&&decide (n=m)
 |_,_=>false
theorem EF:∀(a b:Obj),Oy a b=true→a=b:=by
 intro a b h;unfold Oy at h;split at h;·simp only[Bool.and_eq_true,decide_eq_true_eq]at h;rw[iV _ _ h.1.1,h.1.2,h.2]
 ·simp only[Bool.and_eq_true,decide_eq_true_eq]at h;rw[Bh _ _ h.1,h.2]
 ·rename_i s n t m;simp only[Bool.and_eq_true,decide_eq_true_eq]at h;obtain⟨⟨s⟩⟩:=s;obtain⟨⟨t⟩⟩:=t;have h1:s=t:=h.1;rw[h1,h.2]
 ·cases h
def JZ:Op→Bool
 |.move _|.assign _|.pick .. |.alloc _|.box .. |.build .. |.buildSlice .. |.load .. |.nilCheck _|.binOp .. |.unOp .. |.convert .. |.makeInterface .. |.makeFunc .. |.makeMap .. |.makeSlice .. |.slice .. |.fieldAddr .. |.field .. |.indexAddr .. |.index .. |.lookup .. |.range .. |.entry _|.typeAssert .. |.extract .. =>false
 |.call c=>match c.callee with
  |.builtin b=>!(b==.len||b==.cap||b==.min||b==.max)
  |_=>true
 |_=>true
def oH:List Operand→List Tmp
 |[]=>[]
 |.tmp t::l=>t::oH l
 |_::l=>oH l
theorem rh:∀{l:List Operand}{t:Tmp},.tmp t∈l→t∈oH l
 |[],t,h=>by cases h
 |x::l,t,h=>by
   cases h with
   |head=>exact .head _
   |tail _ h=>have:=rh h;cases x<;>first|exact this|exact .tail _ this
def fT(ops:Array Oper)(j:Nat):Option Tmp:=(ops[j]?).bind (·.dst)
def iW(ops:Array Oper)(o:Oper):List Tmp:=match o.guard with
 |some (g,_)=>(fT ops g).toList++oH o.op.operands.toList
 |none=>oH o.op.operands.toList
def qe(l:List Tmp)(ev:Operand→Value):Operand→Value
 |.tmp t=>if l.contains t=true then ev (.tmp t)else undef
 |x=>ev x
theorem xr{G:Nat}{l:List Tmp}(hg:Gl G ρ){x:bG}{a:Act}(h:∀t∈l,aX ρ (x.at t) (a.tmps.getD t undef))(o:Operand):aX ρ (qe l (x.sev G) o) (qe l (mI G a) o):=by
 cases o with
 |tmp t=>
  unfold qe;dsimp only;by_cases ht:l.contains t=true;·rw[if_pos ht,if_pos ht];exact h t (by simpa using ht)
  ·rw[if_neg ht,if_neg ht];exact aX.undef
 |const v=>unfold qe bG.sev mI pJ;exact JS
 |global g=>unfold qe bG.sev mI pJ;exact JT
 |func f=>exact .func (.func f) .nil .nil
theorem EG{ops:Array Oper}{o:Oper}{t:Tmp}(h:t∈oH o.op.operands.toList):t∈iW ops o:=by
 unfold iW;split;·exact List.mem_append_right _ h
 ·exact h
theorem tQ{G:Nat}{ops:Array Oper}{o:Oper}(h:iB G o=true)(a:Act):execOp (qe (iW ops o) (mI G a)) o=execOp a.eval o:=by
 rw[←kS h];unfold iB at h;rw[Bool.and_eq_true]at h;refine execOp_congr o (fun cs b e=>?_) fun x hx=>?_;·rw[e]at h;simp[EC]at h
 ·cases x with
   |tmp t=>unfold qe;dsimp only;rw[if_pos];have:t∈iW ops o:=EG (rh (by simpa using hx));simpa using this
   |_=>rfl
theorem ri{ops:Array Oper}{o:Oper}{x:bG}{a:Act}(hs:a.tmps.size=x.n)(h:∀t∈iW ops o,aX ρ (x.at t) (a.tmps.getD t undef)):Region.wanted o (yielded ops a.tmps)=dQ ops x o:=by
 unfold dQ Region.wanted;cases hg:o.guard with
 |none=>rfl
 |some gw=>
   obtain⟨g,want⟩:=gw;dsimp only;have:yielded ops a.tmps g=kT ops x g:=by
    unfold yielded kT;cases hd:(ops[g]?).bind (·.dst)with
    |none=>rfl
    |some t=>
      dsimp only[Option.bind];have h1:=h t (by unfold iW;rw[hg];exact List.mem_append_left _ (by simp[fT,hd]));by_cases ht:t<x.n;·
       rw[if_pos ht];rw[Array.getD_eq_getD_getElem?]at h1;cases hv:a.tmps[t]? with
       |none=>rw[Array.getElem?_eq_none_iff,hs]at hv;exact absurd ht (Nat.not_lt.2 hv)
       |some v=> exact JU
      ·
       rw[if_neg ht];have:a.tmps[t]?=none:=by rw[Array.getElem?_eq_none_iff,hs];exact Nat.not_lt.1 ht
       rw[this]
   rw[this]
def Bi(B:List Nat)(o:Oper):Nat:=o.after.toList.foldl (fun s e=>if Region.binds .any e=true then s|||2^e.on|||B.getD e.on 0 else s) 0
def rj(ops:Array Oper):List Nat:=ops.toList.foldl (fun B o=>B++[Bi B o]) []
def Oz(ops:Array Oper)(B:List Nat):Bool:=(List.range ops.size).all fun i=>match ops[i]? with
 |some o=>B.getD i 0==Bi B o&&o.after.toList.all fun e=>!Region.binds .any e||decide (e.on<i)
 |none=>true
def rk(ops:Array Oper):Bool:=(List.range ops.size).all fun i=>(List.range i).all fun j=>match fT ops i,fT ops j with
 |some s,some t=>s !=t
 |_,_=>true
def Hu(ops:Array Oper)(B:List Nat):Bool:=(List.range ops.size).all fun i=>match ops[i]? with
 |some o=>(iW ops o).all fun t=>(List.range ops.size).all fun j=>decide (j=i)||fT ops j !=some t||(if j<i then(B.getD i 0).testBit j else(B.getD j 0).testBit i)
 |none=>true
def EH(G:Nat)(ops:Array Oper):Bool:=ops.toList.all (fun o=>iB G o&&!iU o.op)&&Oz ops (rj ops)&&rk ops&&Hu ops (rj ops)
theorem rl{B:List Nat}{j:Nat}:∀(l:List Edge)(s:Nat),(l.foldl (fun s e=>if Region.binds .any e=true then s|||2^e.on|||B.getD e.on 0 else s) s).testBit j=true→s.testBit j=true∨∃e∈l,Region.binds .any e=true∧(e.on=j∨(B.getD e.on 0).testBit j=true)
 |[],s,h=> .inl h
 |e::l,s,h=>by
  rw[List.foldl_cons]at h;rcases rl l _ h with h1|⟨e',h1,h2⟩;·
   by_cases hb:Region.binds .any e=true;·
    rw[if_pos hb]at h1;rw[Nat.testBit_or,Nat.testBit_or,Bool.or_eq_true,Bool.or_eq_true]at h1;rcases h1 with(h1|h1)|h1;·exact .inl h1
    ·refine .inr ⟨e,.head _,hb,.inl ?_⟩;rw[Nat.testBit_two_pow]at h1;simpa using h1
    ·exact .inr ⟨e,.head _,hb,.inr h1⟩
   ·rw[if_neg hb]at h1;exact .inl h1
  ·exact .inr ⟨e',.tail _ h1,h2⟩
theorem C9{B:List Nat}{o:Oper}{j:Nat}(h:(Bi B o).testBit j=true):∃e∈o.after,Region.binds .any e=true∧(e.on=j∨(B.getD e.on 0).testBit j=true):=by
 rcases rl _ _ h with h|⟨e,h1,h2⟩;·simp at h
 ·exact⟨e,by simpa using h1,h2⟩
def AW.nil:AW:=⟨.leaf,0,0,0⟩
def laid(p:Nat→Option Obj)(base n:Nat)(A:AW):AW:=(List.range n).foldl (fun A q=>match p q with
 |some o=>A.put (base+q) o
 |none=>A) A
theorem lJ(p:Nat→Option Obj)(base n:Nat)(A:AW):laid p base (n+1) A=match p n with
 |some o=>(laid p base n A).put (base+n) o
 |none=>laid p base n A:=by unfold laid;rw[List.range_succ,List.foldl_append];rfl
theorem eB(p:Nat→Option Obj)(base:Nat)(A:AW):∀n,(laid p base n A).nid=A.nid∧(laid p base n A).stop=A.stop∧(laid p base n A).ro=A.ro
 |0=>⟨rfl,rfl,rfl⟩
 |n+1=>by
  rw[lJ];split;·exact eB p base A n
  ·exact eB p base A n
theorem nD(p:Nat→Option Obj)(base:Nat)(A:AW)(j:Nat):∀n,base+n≤jo→(laid p base n A).get j=if base≤j∧j<base+n∧(p (j-base)).isSome=true then p (j-base)else A.get j
 |0,_=>by rw[if_neg (by omega)];rfl
 |n+1,h=>by
   rw[lJ];have ih:=nD p base A j n (by omega);by_cases hj:j=base+n;·
    have e:j-base=n:=by omega
    split;·rename_i o ho;rw[AW.get_put (by omega),if_pos hj,if_pos ⟨by omega,by omega,by rw[e,ho];rfl⟩,e,ho]
    ·rename_i ho;rw[ih,if_neg (by omega),if_neg];rw[e,ho];exact fun h=>by simp at h
   ·
    have:(match p n with
    |some o=>(laid p base n A).put (base+n) o
    |none=>laid p base n A).get j=(laid p base n A).get j:=by
     split;·rw[AW.get_put (by omega),if_neg hj]
     ·rfl
    rw[this,ih];by_cases hc:base≤j∧j<base+n∧(p (j-base)).isSome=true;·rw[if_pos hc,if_pos ⟨hc.1,by omega,hc.2.2⟩]
    ·rw[if_neg hc,if_neg (fun h=>hc ⟨h.1,by omega,h.2.2⟩)]
structure DS where
 x:bG
 xs:List bG
 vals:List Value
 qbs:List (Option Obj)
 hs:List AW
 es:List Nat
def DS.q(S:DS)(j:Nat):Option Obj:=S.qbs.getD j none
def DS.v(S:DS)(j:Nat):Value:=S.vals.getD j undef
def DS.h(S:DS)(k:Nat):AW:=S.hs.getD k AW.nil
def DS.xa(S:DS)(j:Nat):bG:=S.xs.getD j S.x
def cf(B:List Nat)(es:List Nat)(k q:Nat):Bool:=(es.take k).any fun e=>decide (q<e)&&(B.getD e 0).testBit q
def db(B:List Nat)(base:Nat)(S:DS)(k i:Nat):AW:=laid (fun q=>if((B.getD i 0).testBit q&&!cf B S.es k q)=true then S.q q else none) base i (S.h k)
def lK(base i:Nat)(A:AW):AW:={A with nid:=base+i,stop:=base+i+1,ro:=jo}
def uV(B:List Nat)(es:List Nat)(i:Nat):Bool:=match es.getLast? with
 |some e=>(B.getD i 0).testBit e
 |none=>true
def DS.add(S:DS)(x':bG)(v:Value)(ob:Option Obj):DS:={S with x:=x',xs:=S.xs++[S.x],vals:=S.vals++[v],qbs:=S.qbs++[ob]}
def DS.addE(S:DS)(x':bG)(v:Value)(A:AW)(i:Nat):DS:={x:=x',xs:=S.xs++[S.x],vals:=S.vals++[v],qbs:=S.qbs++[none],hs:=S.hs++[A],es:=S.es++[i]}
def Bj(P:Program)(C:ie)(G:Nat)(call:dC)(round:da)(ops:Array Oper)(B:List Nat)(base i:Nat)(o:Oper)(S:DS):Option DS:=if dQ ops S.x o=true then if JZ o.op=true then if uV B S.es i=true then match zg P C call round (qe (iW ops o) (S.x.sev G)) o (db B base S S.es.length i)with
 |some (v,A1)=>some (S.addE (S.x.put o.dst v) v A1 i)
 |none=>none else none else match bO P (Ht P C (qe (iW ops o) (S.x.sev G)) o) (lK base i (db B base S S.es.length i))with
 |some (.value v,A1)=>some (S.add (S.x.put o.dst v) v (if A1.nid=base+i then none else A1.get (base+i)))
 |_=>none else some (S.add (S.x.put o.dst undef) undef none)
def xu(P:Program)(C:ie)(G:Nat)(call:dC)(round:da)(ops:Array Oper)(B:List Nat)(base:Nat):List Oper→Nat→DS→Option DS
 |[],_,S=>some S
 |o::l,i,S=>match Bj P C G call round ops B base i o S with
  |some S1=>xu P C G call round ops B base l (i+1) S1
  |none=>none
def uW(B:List Nat)(es:List Nat)(k q:Nat):Bool:=((es.drop k).all fun e=>!(B.getD q 0).testBit e)&&((es.take k).all fun e=>!(B.getD e 0).testBit q)
def zm(P:Program)(C:ie)(G:Nat)(ops:Array Oper)(B:List Nat)(base:Nat)(S:DS)(q k:Nat)(o:Oper):Bool:=match bO P (Ht P C (qe (iW ops o) ((S.xa q).sev G)) o) (lK base q (db B base S k q))with
 |some (.value v,A1)=>nz v (S.v q)&&(match S.q q with
  |none=>decide (A1.nid=base+q)
  |some o1=>decide (A1.nid=base+q+1)&&(match A1.get (base+q)with
   |some o2=>Oy o1 o2
   |none=>false))
 |_=>false
def Hv(P:Program)(C:ie)(G:Nat)(ops:Array Oper)(B:List Nat)(base:Nat)(S:DS):Bool:=(List.range ops.size).all fun q=>match ops[q]? with
 |some o=>if S.es.contains q=true then true else if dQ ops (S.xa q) o=true then(List.range (S.es.length+1)).all fun k=>if uW B S.es k q=true then zm P C G ops B base S q k o else true else true
 |none=>true
def C_(ops:Array Oper)(n:Nat):Bool:=ops.toList.all fun o=>match o.dst with
 |some d=>decide (d<n)
 |none=>true
def EI(B:List Nat)(base n:Nat)(S:DS):AW:=laid (fun q=>if cf B S.es S.es.length q=true then none else S.q q) base n (S.h S.es.length)
def EJ(P:Program)(C:ie)(G:Nat)(call:dC)(round:da)(ops:Array Oper)(x:bG)(A:AW):Option (bG×AW):=if(EH G ops&&C_ ops x.n&&decide (A.nid+ops.size≤A.stop))=true then match xu P C G call round ops (rj ops) A.nid ops.toList 0 ⟨x,[],[],[],[{A with nid:=A.nid+ops.size}],[]⟩with
 |some S=>if Hv P C G ops (rj ops) A.nid S=true then some (S.x,EI (rj ops) A.nid ops.size S)else none
 |none=>none else none
end Go.Proofs.Eng
end
section
set_option linter.unusedSimpArgs false
set_option linter.unusedVariables false
namespace Go.Proofs.Eng
variable{P:Program}
theorem rm{α:Type}(l t:List α)(d:α){j:Nat}(h:j<l.length):(l++t).getD j d=l.getD j d:=by rw[List.getD_eq_getElem?_getD,List.getD_eq_getElem?_getD,List.getElem?_append_left h]
theorem gD{α:Type}(l:List α)(x d:α){j:Nat}(h:l.length=j):(l++[x]).getD j d=x:=by subst h;rw[List.getD_eq_getElem?_getD];simp
structure Ext(S S':DS):Prop where
 xs:∃t,S'.xs=S.xs++t
 vals:∃t,S'.vals=S.vals++t
 qbs:∃t,S'.qbs=S.qbs++t
 hs:∃t,S'.hs=S.hs++t
 es:∃t,S'.es=S.es++t
theorem Ext.refl(S:DS):Ext S S:=⟨⟨[],by simp⟩,⟨[],by simp⟩,⟨[],by simp⟩,⟨[],by simp⟩,⟨[],by simp⟩⟩
theorem Ext.trans{S S' S'':DS}(h:Ext S S')(h':Ext S' S''):Ext S S'':=by obtain⟨⟨a1,b1⟩,⟨a2,b2⟩,⟨a3,b3⟩,⟨a4,b4⟩,⟨a5,b5⟩⟩:=h;obtain⟨⟨c1,d1⟩,⟨c2,d2⟩,⟨c3,d3⟩,⟨c4,d4⟩,⟨c5,d5⟩⟩:=h';exact⟨⟨a1++c1,by rw[d1,b1,List.append_assoc]⟩,⟨a2++c2,by rw[d2,b2,List.append_assoc]⟩,⟨a3++c3,by rw[d3,b3,List.append_assoc]⟩,⟨a4++c4,by rw[d4,b4,List.append_assoc]⟩,⟨a5++c5,by rw[d5,b5,List.append_assoc]⟩⟩
theorem Ext.v{S S':DS}(h:Ext S S'){j:Nat}(hj:j<S.vals.length):S'.v j=S.v j:=by obtain⟨t,ht⟩:=h.vals;unfold DS.v;rw[ht,rm _ _ _ hj]
theorem Ext.q{S S':DS}(h:Ext S S'){j:Nat}(hj:j<S.qbs.length):S'.q j=S.q j:=by obtain⟨t,ht⟩:=h.qbs;unfold DS.q;rw[ht,rm _ _ _ hj]
theorem Ext.h'{S S':DS}(h:Ext S S'){j:Nat}(hj:j<S.hs.length):S'.h j=S.h j:=by obtain⟨t,ht⟩:=h.hs;unfold DS.h;rw[ht,rm _ _ _ hj]
theorem Ext.xa{S S':DS}(h:Ext S S'){j:Nat}(hj:j<S.xs.length):S'.xa j=S.xs.getD j S.x:=by obtain⟨t,ht⟩:=h.xs;unfold DS.xa;rw[ht,List.getD_eq_getElem?_getD,List.getD_eq_getElem?_getD,List.getElem?_append_left hj,List.getElem?_eq_getElem hj];rfl
theorem Ext.take{S S':DS}(h:Ext S S'){k:Nat}(hk:k≤S.es.length):S'.es.take k=S.es.take k:=by obtain⟨t,ht⟩:=h.es;rw[ht,List.take_append_of_le_length hk]
theorem Ext.e{S S':DS}(h:Ext S S'){k:Nat}(hk:k<S.es.length):S'.es[k]?=S.es[k]?:=by obtain⟨t,ht⟩:=h.es;rw[ht,List.getElem?_append_left hk]
theorem rp{p p':Nat→Option Obj}{base:Nat}{A:AW}:∀n,(∀q,q<n→p q=p' q)→laid p base n A=laid p' base n A
 |0,_=>rfl
 |n+1,h=>by rw[lJ,lJ,h n (by omega),rp n fun q hq=>h q (by omega)]
theorem zn{S S':DS}(h:Ext S S'){B:List Nat}{base k i:Nat}(hk:k<S.hs.length)(hk2:k≤S.es.length)(hi:i≤S.qbs.length):db B base S' k i=db B base S k i:=by unfold db;rw[h.h' hk];refine rp i fun q hq=>?_;unfold cf;rw[h.take hk2,h.q (by omega)]
structure uX(S:DS)(i:Nat):Prop where
 xs:S.xs.length=i
 vals:S.vals.length=i
 qbs:S.qbs.length=i
 hs:S.hs.length=S.es.length+1
theorem uX.add{S:DS}{i:Nat}(h:uX S i)(x':bG)(v:Value)(ob:Option Obj):uX (S.add x' v ob) (i+1):=by refine⟨?_,?_,?_,h.hs⟩<;>simp[DS.add,h.xs,h.vals,h.qbs]
theorem uX.addE{S:DS}{i:Nat}(h:uX S i)(x':bG)(v:Value)(A:AW)(n:Nat):uX (S.addE x' v A n) (i+1):=by refine⟨?_,?_,?_,?_⟩<;>simp[DS.addE,h.xs,h.vals,h.qbs,h.hs]
theorem Hw(S:DS)(x':bG)(v:Value)(ob:Option Obj):Ext S (S.add x' v ob):=⟨⟨_,rfl⟩,⟨_,rfl⟩,⟨_,rfl⟩,⟨[],by simp[DS.add]⟩,⟨[],by simp[DS.add]⟩⟩
theorem EK(S:DS)(x':bG)(v:Value)(A:AW)(i:Nat):Ext S (S.addE x' v A i):=⟨⟨_,rfl⟩,⟨_,rfl⟩,⟨_,rfl⟩,⟨_,rfl⟩,⟨_,rfl⟩⟩
section
variable(P)(C:ie)(G:Nat)(call:dC)(round:da)(ops:Array Oper)(B:List Nat)(base:Nat)
structure EL(S:DS)(X:Nat→bG)(j:Nat)(o:Oper):Prop where
 xa:S.xa j=X j
 step:X (j+1)=(X j).put o.dst (S.v j)
 unw:dQ ops (X j) o=false→S.v j=undef∧S.q j=none
structure EM(S:DS)(X:Nat→bG)(k e:Nat)(o:Oper):Prop where
 want:dQ ops (X e) o=true
 run:zg P C call round (qe (iW ops o) ((X e).sev G)) o (db B base S k e)=some (S.v e,S.h (k+1))
 q:S.q e=none
 chain:∀e0,0<k→S.es[k-1]?=some e0→(B.getD e 0).testBit e0=true
end
theorem xw{C:ie}{G:Nat}{call:dC}{round:da}{ops:Array Oper}{B:List Nat}{base i:Nat}{o:Oper}{S S1:DS}(h:Bj P C G call round ops B base i o S=some S1):(dQ ops S.x o=true∧uV B S.es i=true∧∃v A1,zg P C call round (qe (iW ops o) (S.x.sev G)) o (db B base S S.es.length i)=some (v,A1)∧S1=S.addE (S.x.put o.dst v) v A1 i)∨(∃v ob,S1=S.add (S.x.put o.dst v) v ob∧(dQ ops S.x o=false→v=undef∧ob=none)):=by
 unfold Bj at h;by_cases hw:dQ ops S.x o=true;·
  rw[if_pos hw]at h;by_cases he:JZ o.op=true;·
   rw[if_pos he]at h;by_cases hl:uV B S.es i=true;·
    rw[if_pos hl]at h;split at h;·rename_i v A1 hv;cases h;exact .inl ⟨hw,hl,v,A1,hv,rfl⟩
    ·cases h
   ·rw[if_neg hl]at h;cases h
  ·
   rw[if_neg he]at h;split at h;·
    cases h;exact .inr ⟨_,_,rfl,fun hf=>by rw[hw]at hf;cases hf⟩
   ·cases h
 ·rw[if_neg hw]at h;cases h;exact .inr ⟨_,_,rfl,fun _=>⟨rfl,rfl⟩⟩
theorem pL{C:ie}{G:Nat}{call:dC}{round:da}{ops:Array Oper}{B:List Nat}{base:Nat}:∀{l:List Oper}{i:Nat}{S Sf:DS},xu P C G call round ops B base l i S=some Sf→uX S i→Ext S Sf∧uX Sf (i+l.length)∧∃X:Nat→bG,X i=S.x∧X (i+l.length)=Sf.x∧(∀j o,i≤j→l[j-i]?=some o→EL ops Sf X j o)∧(∀k e,S.es.length≤k→Sf.es[k]?=some e→i≤e∧∃o,l[e-i]?=some o∧EM P C G call round ops B base Sf X k e o)
 |[],i,S,Sf,h,hL=>by simp only[xu,Option.some.injEq]at h;subst h;refine⟨.refl _,hL,fun _=>S.x,rfl,rfl,fun j o _ h=>by simp at h,fun k e hk h=>?_⟩;rw[List.getElem?_eq_none_iff.2 hk]at h;cases h
 |o::l,i,S,Sf,h,hL=>by
   unfold xu at h;cases hs:Bj P C G call round ops B base i o S with
   |none=>rw[hs]at h;cases h
   |some S1=>
    rw[hs]at h;have hcases:=xw hs;have hL1:uX S1 (i+1):=by
     rcases hcases with⟨_,_,v,A1,_,rfl⟩|⟨v,ob,rfl,_⟩;·exact hL.addE _ _ _ _
     ·exact hL.add _ _ _
    have hE1:Ext S S1:=by
     rcases hcases with⟨_,_,v,A1,_,rfl⟩|⟨v,ob,rfl,_⟩;·exact EK _ _ _ _ _
     ·exact Hw _ _ _ _
    obtain⟨hE,hLf,X1,hx0,hxN,hop,hef⟩:=pL (l:=l) h hL1;have hlen:i+(o::l).length=i+1+l.length:=by simp only[List.length_cons];omega
    have hxs:S1.xs.getD i S1.x=S.x:=by rcases hcases with⟨_,_,v,A1,_,rfl⟩|⟨v,ob,rfl,_⟩<;>exact gD _ _ _ hL.xs
    have hnext:S1.x=S.x.put o.dst (S1.v i):=by
     rcases hcases with⟨_,_,v,A1,_,rfl⟩|⟨v,ob,rfl,_⟩;·show S.x.put o.dst v=_;congr 1;exact(gD _ _ _ hL.vals).symm
     ·show S.x.put o.dst v=_;congr 1;exact(gD _ _ _ hL.vals).symm
    have hvi:Sf.v i=S1.v i:=hE.v (by rw[hL1.vals];omega);have hqi:Sf.q i=S1.q i:=hE.q (by rw[hL1.qbs];omega);have hxai:Sf.xa i=S.x:=by
     rw[hE.xa (by rw[hL1.xs];omega),hxs]
    let X:Nat→bG:=fun j=>if j≤i then S.x else X1 j;have hXi:X i=S.x:=if_pos (Nat.le_refl _);have hXs:∀j,i<j→X j=X1 j:=fun j hj=>if_neg (by omega);have hX1:X (i+1)=S1.x:=by rw[hXs _ (by omega),hx0]
    refine⟨hE1.trans hE,by rw[hlen];exact hLf,X,hXi,by rw[hlen,hXs _ (by omega),hxN],fun j o' hj ho'=>?_,fun k e hk he=>?_⟩;·
     by_cases hji:j=i;·
      subst hji;rw[Nat.sub_self,List.getElem?_cons_zero]at ho';cases ho';refine⟨by rw[hXi];exact hxai,by rw[hX1,hXi,hvi];exact hnext,fun hw=>?_⟩;rw[hXi]at hw;rcases hcases with⟨hw1,_⟩|⟨v,ob,rfl,hu⟩;·rw[hw]at hw1;cases hw1
      ·obtain⟨rfl,rfl⟩:=hu hw;rw[hvi,hqi];exact⟨gD _ _ _ hL.vals,gD _ _ _ hL.qbs⟩
     ·
      have hj':j-i=(j-(i+1))+1:=by omega
      rw[hj',List.getElem?_cons_succ]at ho';obtain⟨a,b,c⟩:=hop j o' (by omega) ho';refine⟨by rw[hXs j (by omega)];exact a,by rw[hXs j (by omega),hXs (j+1) (by omega)];exact b,by rw[hXs j (by omega)];exact c⟩
    ·
     by_cases hk1:S1.es.length≤k;·
      obtain⟨g1,o',g2,g3,g4,g5,g6⟩:=hef k e hk1 he;refine⟨by omega,o',?_,?_⟩;·
       have hj':e-i=(e-(i+1))+1:=by omega
       rw[hj',List.getElem?_cons_succ];exact g2
      ·refine⟨by rw[hXs e (by omega)];exact g3,by rw[hXs e (by omega)];exact g4,g5,g6⟩
     ·
      rcases hcases with⟨hw1,hlast,v,A1,hrun,rfl⟩|⟨v,ob,rfl,hu⟩;·
       have hkl:k=S.es.length:=by simp only[DS.addE,List.length_append,List.length_cons,List.length_nil]at hk1;omega
       subst hkl;have he1:Sf.es[S.es.length]?=some i:=by rw[hE.e (by simp[DS.addE])];simp[DS.addE]
       rw[he1]at he;cases he;refine⟨Nat.le_refl _,o,by rw[Nat.sub_self,List.getElem?_cons_zero],?_⟩;refine⟨by rw[hXi];exact hw1,?_,?_,fun e0 h0 he0=>?_⟩;·
        rw[hXi,zn (hE1.trans hE) (by rw[hL.hs];omega) (Nat.le_refl _) (by rw[hL.qbs];exact Nat.le_refl _),hrun,hvi];have:Sf.h (S.es.length+1)=A1:=by rw[hE.h' (by simp[DS.addE,hL.hs])];exact gD _ _ _ hL.hs
        rw[this];congr 2;exact(gD _ _ _ hL.vals).symm
       ·rw[hqi];exact gD _ _ _ hL.qbs
       ·rw[(hE1.trans hE).e (by omega)]at he0;unfold uV at hlast;rw[List.getLast?_eq_getElem?]at hlast;rw[he0]at hlast;exact hlast
      ·exact absurd hk hk1
end Go.Proofs.Eng
end
section
set_option linter.unusedSimpArgs false
set_option linter.unusedVariables false
namespace Go.Proofs.Eng
variable{P:Program}{C:ie}{G:Nat}{call:dC}{round:da}{ops:Array Oper}{B:List Nat}{base:Nat}{x0:bG}{A0:AW}{S:DS}{X:Nat→bG}
def gJ(ops:Array Oper)(t:Tmp):Option Nat:=(List.range ops.size).find? fun j=>fT ops j==some t
theorem eJ{t:Tmp}{j:Nat}(h:gJ ops t=some j):j<ops.size∧fT ops j=some t:=by have h1:=List.mem_of_find?_eq_some h;have h2:=List.find?_some h;exact⟨List.mem_range.1 h1,by simpa using h2⟩
theorem EN(hd:rk ops=true){i j:Nat}{t:Tmp}(hi:i<ops.size)(hj:j<ops.size)(h1:fT ops i=some t)(h2:fT ops j=some t):i=j:=by
 have key:∀i j,i<ops.size→j<i→fT ops i=some t→fT ops j=some t→False:=fun i j hi hj h1 h2=>by unfold rk at hd;rw[List.all_eq_true]at hd;have:=hd i (List.mem_range.2 hi);rw[List.all_eq_true]at this;have:=this j (List.mem_range.2 hj);rw[h1,h2]at this;simp at this
 rcases Nat.lt_trichotomy i j with h|h|h;·exact(key j i hj h h2 h1).elim
 ·exact h
 ·exact(key i j hi h h1 h2).elim
theorem tR(hd:rk ops=true){j:Nat}{t:Tmp}(hj:j<ops.size)(h:fT ops j=some t):gJ ops t=some j:=by
 cases hw:gJ ops t with
 |none=>unfold gJ at hw;rw[List.find?_eq_none]at hw;exact absurd (by simpa using h) (hw j (List.mem_range.2 hj))
 |some i=>obtain⟨h1,h2⟩:=eJ hw;rw[EN hd h1 hj h2 h]
structure uY(P:Program)(C:ie)(G:Nat)(call:dC)(round:da)(ops:Array Oper)(B:List Nat)(base:Nat)(x0:bG)(A0:AW)(S:DS)(X:Nat→bG):Prop where
 oks:∀(i:Nat)o,ops[i]?=some o→iB G o=true∧iU o.op=false
 bef:∀(i:Nat)o,ops[i]?=some o→B.getD i 0=Bi B o∧∀e∈o.after,Region.binds .any e=true→e.on<i
 dsts:rk ops=true
 lks:∀(i:Nat)o t j,ops[i]?=some o→t∈iW ops o→j<ops.size→j≠i→fT ops j=some t→if j<i then(B.getD i 0).testBit j=true else(B.getD j 0).testBit i=true
 below:∀(i:Nat)o d,ops[i]?=some o→o.dst=some d→d<x0.n
 nid:A0.nid=base
 room:base+ops.size≤A0.stop
 X0:X 0=x0
 XN:X ops.size=S.x
 h0:S.h 0={A0 with nid:=base+ops.size}
 op:∀(j:Nat)o,ops[j]?=some o→EL ops S X j o
 ef:∀(k e:Nat),S.es[k]?=some e→∃o,ops[e]?=some o∧EM P C G call round ops B base S X k e o
 qc:∀(q:Nat)o(k:Nat),ops[q]?=some o→q∉S.es→dQ ops (X q) o=true→k≤S.es.length→uW B S.es k q=true→zm P C G ops B base S q k o=true
def G_(S:DS)(x0:bG)(ops:Array Oper)(L:Nat→Bool)(t:Tmp):Value:=match gJ ops t with
 |some i=>cond (L i) (S.v i) (x0.at t)
 |none=>x0.at t
theorem J5{P:Prop}(h:P:=by
 dsimp only;by_cases hij:i<j;·rw[decide_eq_true hij,decide_eq_true (show i<j+1 by omega)]
 ·rw[decide_eq_false hij,decide_eq_false (show¬i<j+1 by omega)]):P:=h
theorem uY.env(hp:uY P C G call round ops B base x0 A0 S X)(hl:x0.n≤jo):∀j,j≤ops.size→(X j).n=x0.n∧(X j).df=x0.df∧∀t,(X j).at t=G_ S x0 ops (fun i=>decide (i<j)) t
 |0,_=>by
  rw[hp.X0];refine⟨rfl,rfl,fun t=>?_⟩;unfold G_;split;·dsimp only;rw[decide_eq_false (Nat.not_lt_zero _)];rfl
  ·rfl
 |j+1,hj=>by
   obtain⟨h1,h2,h3⟩:=hp.env hl j (by omega);have hlt:j<ops.size:=by omega
   have ho:ops[j]?=some ops[j]:=Array.getElem?_eq_getElem hlt;have hs:=(hp.op j _ ho).step;rw[hs];cases hd:ops[j].dst with
   |none=>refine⟨h1,h2,fun t=>?_⟩;show(X j).at t=_;rw[h3];unfold G_;cases hw:gJ ops t with
           |none=>rfl
           |some i=>
            have:=eJ hw;have hne:i≠j:=fun e=>by subst e;have:=this.2;unfold fT at this;rw[ho]at this;simp[hd]at this
            exact J5
   |some d=>
     have hdn:d<(X j).n:=by rw[h1];exact hp.below j _ d ho hd
     refine⟨?_,?_,fun t=>?_⟩;·rw[←h1];unfold bG.put;dsimp only;rw[if_pos hdn]
     ·rw[←h2];unfold bG.put;dsimp only;rw[if_pos hdn]
     ·
      rw[bG.at_put hdn (by rw[h1];exact hl),h3];unfold G_;have hdj:fT ops j=some d:=by unfold fT;rw[ho];exact hd
      by_cases ht:t=d;·subst ht;rw[if_pos rfl,tR hp.dsts hlt hdj];dsimp only;rw[decide_eq_true (Nat.lt_succ_self j)];rfl
      ·rw[if_neg ht];cases hw:gJ ops t with
        |none=>rfl
        |some i=>
         have:=eJ hw;have hne:i≠j:=fun e=>by subst e;rw[hdj]at this;exact ht (by simpa using this.2.symm)
         exact J5
def pM(B:List Nat)(S:DS)(L:Nat→Bool)(k q:Nat):Option Obj:=if L q=true∧cf B S.es k q=false then S.q q else none
def oI(B:List Nat)(base:Nat)(S:DS)(n:Nat)(L:Nat→Bool)(k:Nat):AW:=laid (pM B S L k) base n (S.h k)
structure rq(ops:Array Oper)(B:List Nat)(base:Nat)(x0:bG)(A0:AW)(S:DS)(listed:Array Bool)(k:Nat)(ρ0:br)(w0:World)(ρ:br)(a:Act)(w:World):Prop where
 sz:listed.size=ops.size
 closed:∀i,listed.getD i false=true→∀j,(B.getD i 0).testBit j=true→listed.getD j false=true
 kle:k≤S.es.length
 pre:∀j e,S.es[j]?=some e→(listed.getD e false=true↔j<k)
 H:bS ρ (oI B base S ops.size (fun q=>listed.getD q false) k) w
 since:Since base ρ0 A0 w0 ρ (oI B base S ops.size (fun q=>listed.getD q false) k) w
 nidk:base+ops.size≤(S.h k).nid
 stp:(S.h k).stop=A0.stop
 rok:(S.h k).ro=A0.ro
 dead:∀q,q<ops.size→cf B S.es k q=false→(S.h k).get (base+q)=none
 free:∀q,q<ops.size→¬(listed.getD q false=true∧(S.q q).isSome=true)→ρ (base+q)=none
 tsz:a.tmps.size=x0.n
 tm:∀t,aX ρ (G_ S x0 ops (fun q=>listed.getD q false) t) (a.tmps.getD t undef)
 df:fu ρ x0.df a.defers
theorem kU{listed:Array Bool}{i j:Nat}(hi:i<listed.size):(listed.setIfInBounds i true).getD j false=if j=i then true else listed.getD j false:=by
 rw[Array.getD_eq_getD_getElem?,Array.getD_eq_getD_getElem?,Array.getElem?_setIfInBounds];by_cases h:j=i;·subst h;simp[hi]
 ·rw[if_neg (Ne.symm h),if_neg h]
theorem rq.looked(hp:uY P C G call round ops B base x0 A0 S X)(hl:x0.n≤jo){listed:Array Bool}{k i:Nat}{ρ0 ρ:br}{w0 w:World}{a:Act}(I:rq ops B base x0 A0 S listed k ρ0 w0 ρ a w){o:Oper}(ho:ops[i]?=some o)(hi:listed.getD i false=false)(hB:∀j,(B.getD i 0).testBit j=true→listed.getD j false=true):∀t∈iW ops o,aX ρ ((X i).at t) (a.tmps.getD t undef):=by
 intro t ht;have hlt:i<ops.size:=(Array.getElem?_eq_some_iff.1 ho).1;rw[(hp.env hl i (by omega)).2.2 t];have:=I.tm t;unfold G_ at this⊢;cases hw:gJ ops t with
 |none=>rw[hw]at this;exact this
 |some j=>
   rw[hw]at this;dsimp only at this⊢;obtain⟨hj,hd⟩:=eJ hw;by_cases hji:j=i;·subst hji;rw[hi]at this;rw[decide_eq_false (Nat.lt_irrefl _)];exact this
   ·
    have hlk:=hp.lks i o t j ho ht hj hji hd;by_cases hlt2:j<i;·rw[if_pos hlt2]at hlk;rw[hB j hlk]at this;rw[decide_eq_true hlt2];exact this
    ·
     rw[if_neg hlt2]at hlk;have hnl:listed.getD j false=false:=by
      cases h:listed.getD j false with
      |false=>rfl
      |true=>rw[I.closed j h i hlk]at hi;cases hi
     rw[hnl]at this;rw[decide_eq_false hlt2];exact this
theorem rq.temps(hp:uY P C G call round ops B base x0 A0 S X){listed:Array Bool}{k i:Nat}{ρ0 ρ ρ':br}{w0 w:World}{a:Act}(I:rq ops B base x0 A0 S listed k ρ0 w0 ρ a w){o:Oper}(ho:ops[i]?=some o)(hl:ρ.le ρ'){v':Value}(hv:aX ρ' (S.v i) v'):(a.put o.dst v').tmps.size=x0.n∧(∀t,aX ρ' (G_ S x0 ops (fun q=>(listed.setIfInBounds i true).getD q false) t) ((a.put o.dst v').tmps.getD t undef))∧fu ρ' x0.df (a.put o.dst v').defers:=by
 have hlt:i<ops.size:=(Array.getElem?_eq_some_iff.1 ho).1;have hls:i<listed.size:=by rw[I.sz];exact hlt
 have hdf:(a.put o.dst v').defers=a.defers:=by cases o.dst<;>rfl
 refine⟨?_,fun t=>?_,by rw[hdf];exact I.df.mono hl⟩;·rw[←I.tsz];cases o.dst<;>simp[Act.put]
 ·
  have h0:=(I.tm t).mono hl;have hdst:fT ops i=o.dst:=by unfold fT;rw[ho];rfl
  unfold G_ at h0⊢;cases hd:o.dst with
  |none=>show aX ρ' _ (a.tmps.getD t undef);cases hw:gJ ops t with
          |none=>rw[hw]at h0;exact h0
          |some j=>
           rw[hw]at h0;have hne:j≠i:=fun e=>by subst e;have:=(eJ hw).2;rw[hdst,hd]at this;cases this
           dsimp only at h0⊢;rw[kU hls,if_neg hne];exact h0
  |some d=>
    rw[hd]at hdst;have hdn:=hp.below i o d ho hd;have hput:(a.put (some d) v').tmps.getD t undef=if t=d then v' else a.tmps.getD t undef:=by
     simp only[Act.put,Array.getD_eq_getD_getElem?,Array.getElem?_setIfInBounds];by_cases ht:t=d;·
      subst ht;rw[if_pos rfl,if_pos rfl,if_pos (by rw[I.tsz];exact hdn)];rfl
     ·rw[if_neg ht,if_neg (Ne.symm ht)]
    rw[hput];by_cases ht:t=d;·subst ht;rw[if_pos rfl,tR hp.dsts hlt hdst];dsimp only;rw[kU hls,if_pos rfl];exact hv
    ·rw[if_neg ht];cases hw:gJ ops t with
      |none=>rw[hw]at h0;exact h0
      |some j=>
       rw[hw]at h0;have hne:j≠i:=fun e=>by subst e;have:=(eJ hw).2;rw[hdst]at this;exact ht (by simpa using this.symm)
       dsimp only at h0⊢;rw[kU hls,if_neg hne];exact h0
theorem gm{es:List Nat}{k e:Nat}(he:es[k]?=some e)(q:Nat):cf B es (k+1) q=(cf B es k q||(decide (q<e)&&(B.getD e 0).testBit q)):=by unfold cf;rw[List.take_add_one,he,List.any_append];simp
theorem J_{P:Prop}(h:P:=by have:=(List.getElem?_eq_some_iff.1 hj).1;rw[List.length_take]at this;omega):P:=h
theorem sP{es:List Nat}{k q:Nat}(h:cf B es k q=true):∃j e,j<k∧es[j]?=some e∧(B.getD e 0).testBit q=true:=by
 unfold cf at h;rw[List.any_eq_true]at h;obtain⟨e,he,h2⟩:=h;obtain⟨j,hj⟩:=List.mem_iff_getElem?.1 he;rw[Bool.and_eq_true]at h2;have hlt:j<k:=by exact J_
 refine⟨j,e,hlt,?_,h2.2⟩;rw[List.getElem?_take_of_lt hlt]at hj;exact hj
theorem iC(base:Nat)(S:DS)(k i j:Nat)(h:base+i≤jo):(db B base S k i).get j=if base≤j∧j<base+i∧(B.getD i 0).testBit (j-base)=true∧cf B S.es k (j-base)=false∧(S.q (j-base)).isSome=true then S.q (j-base)else(S.h k).get j:=by
 unfold db;rw[nD _ _ _ _ _ h];by_cases hc:(B.getD i 0).testBit (j-base)=true∧cf B S.es k (j-base)=false;·
  have e:((B.getD i 0).testBit (j-base)&&!cf B S.es k (j-base))=true:=by rw[hc.1,hc.2];rfl
  simp only[e,if_true];by_cases h2:base≤j∧j<base+i∧(S.q (j-base)).isSome=true;·rw[if_pos h2,if_pos ⟨h2.1,h2.2.1,hc.1,hc.2,h2.2.2⟩]
  ·rw[if_neg h2,if_neg (fun h=>h2 ⟨h.1,h.2.1,h.2.2.2.2⟩)]
 ·have e:¬((B.getD i 0).testBit (j-base)&&!cf B S.es k (j-base))=true:=fun h=>hc (by simpa using h);simp only[e,if_false];rw[if_neg (by simp),if_neg (fun h=>hc ⟨h.2.2.1,h.2.2.2.1⟩)]
theorem gn(base:Nat)(S:DS)(n:Nat)(L:Nat→Bool)(k j:Nat)(h:base+n≤jo):(oI B base S n L k).get j=if base≤j∧j<base+n∧L (j-base)=true∧cf B S.es k (j-base)=false∧(S.q (j-base)).isSome=true then S.q (j-base)else(S.h k).get j:=by
 unfold oI;rw[nD _ _ _ _ _ h];unfold pM;by_cases hc:L (j-base)=true∧cf B S.es k (j-base)=false;·
  simp only[hc,and_self,if_true];by_cases h2:base≤j∧j<base+n∧(S.q (j-base)).isSome=true;·rw[if_pos h2,if_pos ⟨h2.1,h2.2.1,trivial,trivial,h2.2.2⟩]
  ·rw[if_neg h2,if_neg (fun h=>h2 ⟨h.1,h.2.1,h.2.2.2.2⟩)]
 ·rw[if_neg hc];rw[if_neg (by simp),if_neg (fun h=>hc ⟨h.2.2.1,h.2.2.2.1⟩)]
theorem ru(hp:uY P C G call round ops B base x0 A0 S X){listed:Array Bool}{k i:Nat}{ρ0 ρ:br}{w0 w:World}{a:Act}(I:rq ops B base x0 A0 S listed k ρ0 w0 ρ a w)(hlim:base+ops.size≤jo)(hi:i<ops.size)(hB:∀j,(B.getD i 0).testBit j=true→listed.getD j false=true){j:Nat}{o:Obj}(h:(db B base S k i).get j=some o):(oI B base S ops.size (fun q=>listed.getD q false) k).get j=some o:=by
 rw[iC _ _ _ _ _ (by omega)]at h;rw[gn _ _ _ _ _ _ hlim];split at h;·rename_i hc;rw[if_pos ⟨hc.1,by omega,hB _ hc.2.2.1,hc.2.2.2.1,hc.2.2.2.2⟩];exact h
 ·
  split;·rename_i hc;have:=I.dead (j-base) (by omega) hc.2.2.2.1;rw[show base+(j-base)=j by omega,h]at this;cases this
  ·exact h
end Go.Proofs.Eng
end
section
set_option linter.unusedSimpArgs false
set_option linter.unusedVariables false
namespace Go.Proofs.Eng
variable{P:Program}{C:ie}{G:Nat}{call:dC}{round:da}{ops:Array Oper}{B:List Nat}{base:Nat}{x0:bG}{A0:AW}{S:DS}{X:Nat→bG}
theorem Ke{P:Prop}(h:P:=by
 rw[hls']at hq⊢;by_cases hqi:q=i;·subst hqi;rw[hB j hj];split<;>rfl
 ·rw[if_neg hqi]at hq;rw[I.closed q hq j hj];split<;>rfl):P:=h
theorem xy(hp:uY P C G call round ops B base x0 A0 S X)(E:gP P C G call round)(hl:x0.n≤jo)(hlim:base+ops.size≤jo){r:Option Nat}{listed:Array Bool}{k i:Nat}{ρ0 ρ:br}{w0 w:World}{a:Act}(I:rq ops B base x0 A0 S listed k ρ0 w0 ρ a w)(hg:Gl G ρ){o:Oper}(ho:ops[i]?=some o)(hi:listed.getD i false=false)(hB:∀j,(B.getD i 0).testBit j=true→listed.getD j false=true){k':Nat}(he:S.es[k']?=some i){Q:Exit→Act→World→Prop}{K:Act→World→Prop}(hK:∀k' ρ' a' w',ρ.le ρ'→rq ops B base x0 A0 S (listed.setIfInBounds i true) k' ρ0 w0 ρ' a' w'→K a' w'):wpOpIn (vQ r) 0 P ops Q i K a w:=by
 have hlt:i<ops.size:=(Array.getElem?_eq_some_iff.1 ho).1;have hls:i<listed.size:=by rw[I.sz];exact hlt
 obtain⟨o2,ho2,hf⟩:=hp.ef k' i he;rw[ho]at ho2;cases ho2;have hkk:k'=k:=by
  have h1:¬k'<k:=fun h=>by rw[(I.pre k' i he).2 h]at hi;cases hi
  by_cases h2:k<k';·exfalso;have hlen:=(List.getElem?_eq_some_iff.1 he).1;have h0:S.es[k'-1]?=some (S.es[k'-1]'(by omega)):=List.getElem?_eq_getElem (by omega);have h3:=(I.pre (k'-1) _ h0).1 (hB _ (hf.chain _ (by omega) h0));omega
  ·omega
 subst hkk;have hlook:=I.looked hp hl ho hi hB;unfold wpOpIn;rw[ho];dsimp only;have hn:(X i).n=x0.n:=(hp.env hl i (by omega)).1;rw[ri (x:=X i) (by rw[I.tsz,hn]) hlook,hf.want,if_pos rfl];have hG:∀j o,(db B base S k' i).get j=some o→(oI B base S ops.size (fun q=>listed.getD q false) k').get j=some o:=fun j o h=>ru hp I hlim hlt hB h;have hsm:=eB (fun q=>if((B.getD i 0).testBit q&&!cf B S.es k' q)=true then S.q q else none) base (S.h k') i;have htm:=eB (pM B S (fun q=>listed.getD q false) k') base (S.h k') ops.size;have HG:bS ρ (db B base S k' i) w:=I.H.sub (fun j o h=>hG j o h) (fun q h1 h2=>I.H.none q (by rw[show(oI B base S ops.size (fun q=>listed.getD q false) k').nid=(S.h k').nid from htm.1,←show(db B base S k' i).nid=(S.h k').nid from hsm.1];exact h1) (by rw[show(oI B base S ops.size (fun q=>listed.getD q false) k').stop=(S.h k').stop from htm.2.1,←show(db B base S k' i).stop=(S.h k').stop from hsm.2.1];exact h2)) (by have:=I.H.ids;rw[show(oI B base S ops.size (fun q=>listed.getD q false) k').nid=(S.h k').nid from htm.1,show(oI B base S ops.size (fun q=>listed.getD q false) k').stop=(S.h k').stop from htm.2.1]at this;rw[show(db B base S k' i).nid=(S.h k').nid from hsm.1,show(db B base S k' i).stop=(S.h k').stop from hsm.2.1];exact this);obtain⟨hok1,hok2⟩:=hp.oks i o ho;refine tN E hok2 hf.run hg (xr hg hlook) (tQ hok1 a) HG fun ρ' v' w' hv H' S'=>?_;have hdeadG:∀q,q<ops.size→cf B S.es (k'+1) q=false→(db B base S k' i).get (base+q)=none:=fun q hq hab=>by rw[gm he,Bool.or_eq_false_iff]at hab;rw[iC _ _ _ _ _ (by omega),if_neg,I.dead q hq hab.1];rintro⟨_,h2,h3,_,_⟩;rw[Nat.add_sub_cancel_left]at h3;have:=hab.2;rw[h3]at this;simp at this;omega
 have hls':∀q,(listed.setIfInBounds i true).getD q false=if q=i then true else listed.getD q false:=fun q=>kU hls;have hT':∀j,(oI B base S ops.size (fun q=>(listed.setIfInBounds i true).getD q false) (k'+1)).get j=if((oI B base S ops.size (fun q=>listed.getD q false) k').get j).isSome=true∧(db B base S k' i).get j=none then(oI B base S ops.size (fun q=>listed.getD q false) k').get j else(S.h (k'+1)).get j:=by
  intro j;rw[gn _ _ _ _ _ _ hlim,gn _ _ _ _ _ _ hlim];by_cases hr:base≤j∧j<base+ops.size;·
   obtain⟨hr1,hr2⟩:=hr;have hjq:base+(j-base)=j:=by omega
   by_cases hnew:(listed.setIfInBounds i true).getD (j-base) false=true∧cf B S.es (k'+1) (j-base)=false∧(S.q (j-base)).isSome=true;·
    obtain⟨n1,n2,n3⟩:=hnew;rw[if_pos ⟨hr1,hr2,n1,n2,n3⟩];have hne:j-base≠i:=fun e=>by rw[e,hf.q]at n3;simp at n3
    rw[hls',if_neg hne]at n1;have n2':=n2;rw[gm he,Bool.or_eq_false_iff]at n2';have hcond:base≤j∧j<base+ops.size∧listed.getD (j-base) false=true∧cf B S.es k' (j-base)=false∧(S.q (j-base)).isSome=true:=⟨hr1,hr2,n1,n2'.1,n3⟩;rw[if_pos hcond,if_pos];refine⟨n3,?_⟩;have:=hdeadG (j-base) (by omega) n2;rw[hjq]at this;exact this
   ·
    rw[if_neg (fun h=>hnew ⟨h.2.2.1,h.2.2.2.1,h.2.2.2.2⟩),if_neg];rintro⟨h1,h2⟩;split at h1;·
     rename_i hc;obtain⟨_,_,c1,c2,c3⟩:=hc;refine hnew ⟨by rw[hls',c1];split<;>rfl,?_,c3⟩;cases hab:cf B S.es (k'+1) (j-base)with
     |false=>rfl
     |true=>rw[gm he,c2,Bool.false_or,Bool.and_eq_true,decide_eq_true_eq]at hab;rw[iC _ _ _ _ _ (by omega),if_pos ⟨hr1,by omega,hab.2,c2,c3⟩]at h2;rw[h2]at c3;cases c3
    ·
     rw[iC _ _ _ _ _ (by omega)]at h2;split at h2;·rename_i hc;rw[h2]at hc;simp at hc
     ·rw[h2]at h1;cases h1
  ·rw[if_neg (fun h=>hr ⟨h.1,h.2.1⟩),if_neg];rintro⟨h1,h2⟩;rw[if_neg (fun h=>hr ⟨h.1,h.2.1⟩)]at h1;rw[iC _ _ _ _ _ (by omega),if_neg (fun h=>hr ⟨h.1,by omega⟩)]at h2;rw[h2]at h1;cases h1
 have htm':=eB (pM B S (fun q=>(listed.setIfInBounds i true).getD q false) (k'+1)) base (S.h (k'+1)) ops.size;obtain⟨H2,S2,hdead⟩:=tP I.H (fun j o h=>hG j o h) (hsm.1.trans htm.1.symm) (hsm.2.1.trans htm.2.1.symm) (hsm.2.2.trans htm.2.2.symm) H' S' hT' htm'.1 htm'.2.1 htm'.2.2;have hnid:(S.h k').nid≤(S.h (k'+1)).nid:=by have:=S'.nid;rw[show(db B base S k' i).nid=(S.h k').nid from hsm.1]at this;exact this
 have hfree:∀q,q<ops.size→¬((listed.setIfInBounds i true).getD q false=true∧(S.q q).isSome=true)→ρ' (base+q)=none:=fun q hq h=>by
  rw[S'.agree (base+q) (.inl (by rw[show(db B base S k' i).nid=(S.h k').nid from hsm.1];have:=I.nidk;omega))];refine I.free q hq fun⟨h1,h2⟩=>h ⟨by rw[hls',h1];split<;>rfl,h2⟩
 obtain⟨t1,t2,t3⟩:=I.temps hp ho S'.le hv;refine hK (k'+1) ρ' _ w' S'.le ⟨by rw[Array.size_setIfInBounds];exact I.sz,fun q hq j hj=>?_,?_,fun j e hj=>?_,H2,I.since.trans (S2.since ?_),by have:=I.nidk;omega,?_,?_,fun q hq hab=>?_,hfree,t1,t2,t3⟩;· exact Ke
 ·have:=(List.getElem?_eq_some_iff.1 he).1;omega
 ·
  rw[hls'];by_cases hei:e=i;·
   subst hei;rw[if_pos rfl];refine⟨fun _=>?_,fun _=>rfl⟩;by_cases hjk:j<k';·omega
   ·
    have h1:¬j<k':=hjk;by_cases h2:k'<j;·exfalso;have hlen:=(List.getElem?_eq_some_iff.1 hj).1;obtain⟨o3,ho3,hf3⟩:=hp.ef j e hj;have h0:S.es[j-1]?=some (S.es[j-1]'(by omega)):=List.getElem?_eq_getElem (by omega);have hb:=hB _ (hf3.chain _ (by omega) h0);have:=(I.pre (j-1) _ h0).1 hb;omega
    ·omega
  ·
   rw[if_neg hei,I.pre j e hj];refine⟨fun h=>by omega,fun h=>?_⟩;by_cases hjk:j=k';·subst hjk;rw[he]at hj;cases hj;exact absurd rfl hei
   ·omega
 ·rw[show(oI B base S ops.size (fun q=>listed.getD q false) k').nid=(S.h k').nid from htm.1];have:=I.nidk;omega
 ·have:=S'.stop;rw[show(db B base S k' i).stop=(S.h k').stop from hsm.2.1,I.stp]at this;exact this
 ·have:=S'.ro;rw[show(db B base S k' i).ro=(S.h k').ro from hsm.2.2,I.rok]at this;exact this
 ·have hg0:=hdeadG q hq hab;cases hT:(oI B base S ops.size (fun q=>listed.getD q false) k').get (base+q)with
   |some o3=>exact hdead _ o3 hT hg0
   |none=>cases hx:(S.h (k'+1)).get (base+q)with
           |none=>rfl
           |some o3=>
            obtain⟨p,_,hp1,_⟩:=H'.obj _ _ hx;by_cases hc:listed.getD q false=true∧(S.q q).isSome=true;·
             rw[gn _ _ _ _ _ _ hlim,if_pos]at hT;·rw[Nat.add_sub_cancel_left]at hT;rw[hT]at hc;simp at hc
             ·rw[Nat.add_sub_cancel_left];rw[gm he,Bool.or_eq_false_iff]at hab;exact⟨by omega,by omega,hc.1,hab.1,hc.2⟩
            ·
             rw[hfree q hq]at hp1;·cases hp1
             ·
              rw[hls'];by_cases hqi:q=i;·subst hqi;rw[hf.q];simp
              ·rw[if_neg hqi];exact hc
theorem zo(hp:uY P C G call round ops B base x0 A0 S X)(E:gP P C G call round)(hl:x0.n≤jo)(hlim:base+ops.size≤jo){r:Option Nat}{listed:Array Bool}{k i:Nat}{ρ0 ρ:br}{w0 w:World}{a:Act}(I:rq ops B base x0 A0 S listed k ρ0 w0 ρ a w)(hg:Gl G ρ){o:Oper}(ho:ops[i]?=some o)(hi:listed.getD i false=false)(hB:∀j,(B.getD i 0).testBit j=true→listed.getD j false=true)(he:i∉S.es){Q:Exit→Act→World→Prop}{K:Act→World→Prop}(hK:∀k' ρ' a' w',ρ.le ρ'→rq ops B base x0 A0 S (listed.setIfInBounds i true) k' ρ0 w0 ρ' a' w'→K a' w'):wpOpIn (vQ r) 0 P ops Q i K a w:=by
 have hlt:i<ops.size:=(Array.getElem?_eq_some_iff.1 ho).1;have hls:i<listed.size:=by rw[I.sz];exact hlt
 have hlook:=I.looked hp hl ho hi hB;have hls':∀q,(listed.setIfInBounds i true).getD q false=if q=i then true else listed.getD q false:=fun q=>kU hls;have hn:(X i).n=x0.n:=(hp.env hl i (by omega)).1;have hclosed:∀q,(listed.setIfInBounds i true).getD q false=true→∀j,(B.getD q 0).testBit j=true→(listed.setIfInBounds i true).getD j false=true:=fun q hq j hj=>by exact Ke
 have hpre:∀j e,S.es[j]?=some e→((listed.setIfInBounds i true).getD e false=true↔j<k):=fun j e hj=>by have hei:e≠i:=fun h=>he (h▸List.mem_iff_getElem?.2 ⟨j,hj⟩);rw[hls',if_neg hei];exact I.pre j e hj
 have hnab:cf B S.es k i=false:=by
  cases h:cf B S.es k i with
  |false=>rfl
  |true=>obtain⟨j,e,h1,h2,h3⟩:=sP h;have:=I.closed e ((I.pre j e h2).2 h1) i h3;rw[this]at hi;cases hi
 have htm:=eB (pM B S (fun q=>listed.getD q false) k) base (S.h k) ops.size;have htm':=eB (pM B S (fun q=>(listed.setIfInBounds i true).getD q false) k) base (S.h k) ops.size;unfold wpOpIn;rw[ho];dsimp only;rw[ri (x:=X i) (by rw[I.tsz,hn]) hlook];cases hw:dQ ops (X i) o with
 |false=>
  rw[if_neg (by simp)];refine⟨fun _ _=>trivial,?_⟩;obtain⟨u1,u2⟩:=(hp.op i o ho).unw hw;have hsame:∀j,(oI B base S ops.size (fun q=>(listed.setIfInBounds i true).getD q false) k).get j=(oI B base S ops.size (fun q=>listed.getD q false) k).get j:=fun j=>by
   rw[gn _ _ _ _ _ _ hlim,gn _ _ _ _ _ _ hlim];by_cases hji:j-base=i;·rw[hji,u2];simp
   ·rw[hls',if_neg hji]
  obtain⟨t1,t2,t3⟩:=I.temps hp ho (.refl _) (v':=undef) (by rw[u1];exact aX.undef);exact hK k ρ _ w (.refl _) ⟨by rw[Array.size_setIfInBounds];exact I.sz,hclosed,I.kle,hpre,I.H.same hsame (htm'.1.trans htm.1.symm) (htm'.2.1.trans htm.2.1.symm),I.since.same hsame (htm'.1.trans htm.1.symm) (htm'.2.1.trans htm.2.1.symm) (htm'.2.2.trans htm.2.2.symm),I.nidk,I.stp,I.rok,I.dead,fun q hq h=>I.free q hq fun⟨h1,h2⟩=>h ⟨by rw[hls',h1];split<;>rfl,h2⟩,t1,t2,t3⟩
 |true=>
   rw[if_pos rfl];have hslot:uW B S.es k i=true:=by
    unfold uW;rw[Bool.and_eq_true,List.all_eq_true,List.all_eq_true];constructor;·
     intro e he';obtain⟨j,hj⟩:=List.mem_iff_getElem?.1 he';rw[List.getElem?_drop]at hj;cases hb:(B.getD i 0).testBit e with
     |false=>rfl
     |true=>have:=(I.pre _ e hj).1 (hB e hb);omega
    ·
     intro e he';obtain⟨j,hj⟩:=List.mem_iff_getElem?.1 he';have hlt':j<k:=by exact J_
     rw[List.getElem?_take_of_lt hlt']at hj;cases hb:(B.getD e 0).testBit i with
     |false=>rfl
     |true=>have:=I.closed e ((I.pre j e hj).2 hlt') i hb;rw[this]at hi;cases hi
   have hq:=hp.qc i o k ho he hw I.kle hslot;unfold zm at hq;rw[(hp.op i o ho).xa]at hq;split at hq;case h_2=>cases hq
   rename_i v A1 e1;rw[Bool.and_eq_true]at hq;obtain⟨hq1,hq2⟩:=hq;have hv0:v=S.v i:=mK _ _ hq1;have hG:∀j o,(db B base S k i).get j=some o→(oI B base S ops.size (fun q=>listed.getD q false) k).get j=some o:=fun j o h=>ru hp I hlim hlt hB h;have hfreei:=I.free i hlt (fun h=>by rw[hi]at h;cases h.1);have hsub:∀j o,(lK base i (db B base S k i)).get j=some o→(oI B base S ops.size (fun q=>listed.getD q false) k).get j=some o:=fun j o h=>hG j o h;have HG:bS ρ (lK base i (db B base S k i)) w:=I.H.sub hsub (fun q h1 h2=>by
    have h1':base+i≤q:=h1;have h2':q<base+i+1:=h2;have:q=base+i:=by omega
    rw[this];exact hfreei) ⟨Nat.le_succ _,by show base+i+1≤jo;omega⟩;obtain⟨hok1,hok2⟩:=hp.oks i o ho;obtain⟨ρ',nx',w',hrun,hN,H',S'⟩:=(uT E.prog (xr hg hlook) o).sound e1 HG;rw[tQ hok1]at hrun;have hN':∃v',nx'=.value v'∧aX ρ' v v':=by
    cases hN with
    |value h=>exact⟨_,rfl,h⟩
    |other h=>simp[oB]at h
   obtain⟨v',rfl,hv⟩:=hN';rw[hv0]at hv;refine⟨fun _ _=>trivial,?_⟩;have hsem:o.semAt (vQ r).round a.eval=execOp a.eval o:=Oper.semAt_eq _ _ _ fun c hc=>by rw[hc]at hok2;simp[iU]at hok2
   rw[hsem,hrun];show K (a.put o.dst v') w';have hnidk:=I.nidk;have hTn:(oI B base S ops.size (fun q=>listed.getD q false) k).nid=(S.h k).nid:=htm.1;have hblk:(S.q i=none∧A1.nid=base+i)∨∃ob,S.q i=some ob∧A1.nid=base+i+1∧A1.get (base+i)=some ob:=by
    revert hq2;cases S.q i with
    |none=>intro h;exact .inl ⟨rfl,by simpa using h⟩
    |some ob=>
     intro h;dsimp only at h;rw[Bool.and_eq_true,decide_eq_true_eq]at h;obtain⟨h1,h2⟩:=h;split at h2;·rename_i o2 ho2;exact .inr ⟨ob,rfl,h1,by rw[ho2,EF _ _ h2]⟩
     ·cases h2
   have hT':∀j,(oI B base S ops.size (fun q=>(listed.setIfInBounds i true).getD q false) k).get j=if(lK base i (db B base S k i)).nid≤j∧j<A1.nid then A1.get j else(oI B base S ops.size (fun q=>listed.getD q false) k).get j:=by
    intro j;have hGn:(lK base i (db B base S k i)).nid=base+i:=rfl;rw[hGn,gn _ _ _ _ _ _ hlim,gn _ _ _ _ _ _ hlim];by_cases hji:j-base=i∧base≤j;·
     have hj:j=base+i:=by omega
     subst hj;rw[Nat.add_sub_cancel_left,hls',if_pos rfl];rcases hblk with⟨b1,b2⟩|⟨ob,b1,b2,b3⟩;·rw[b1,b2];rw[if_neg (by simp),if_neg (by omega),if_neg (by simp)]
     ·rw[b1,b2,b3];rw[if_pos ⟨by omega,by omega,rfl,hnab,rfl⟩,if_pos ⟨by omega,by omega⟩]
    ·
     have hwin:¬(base+i≤j∧j<A1.nid):=fun h=>by rcases hblk with⟨b1,b2⟩|⟨ob,b1,b2,b3⟩<;>omega
     rw[if_neg hwin];by_cases hb:base≤j;·have hne:j-base≠i:=fun h=>hji ⟨h,hb⟩;rw[hls',if_neg hne]
     ·rw[if_neg (fun h=>hb h.1),if_neg (fun h=>hb h.1)]
   obtain⟨H2,S2⟩:=C7 (lo:=base) I.H hsub rfl HG H' S' (by show base+i+1≤_;rw[hTn];omega) (by show base≤base+i;omega) hT' (htm'.1.trans htm.1.symm) (htm'.2.1.trans htm.2.1.symm) (htm'.2.2.trans htm.2.2.symm);obtain⟨t1,t2,t3⟩:=I.temps hp ho S'.le hv;refine hK k ρ' _ w' S'.le ⟨by rw[Array.size_setIfInBounds];exact I.sz,hclosed,I.kle,hpre,H2,I.since.trans S2,I.nidk,I.stp,I.rok,I.dead,fun q hq h=>?_,t1,t2,t3⟩;have hag:∀z,(z<base+i∨A1.nid≤z)→ρ' z=ρ z:=fun z hz=>S'.agree z hz;by_cases hqi:q=i;·
    subst hqi;rcases hblk with⟨b1,b2⟩|⟨ob,b1,b2,b3⟩;·rw[hag _ (by omega)];exact hfreei
    ·exact absurd ⟨by rw[hls',if_pos rfl],by rw[b1];rfl⟩ h
   ·rw[hag _ (by rcases hblk with⟨b1,b2⟩|⟨ob,b1,b2,b3⟩<;>omega)];rw[hls',if_neg hqi]at h;exact I.free q hq h
theorem uZ:∀(l:List Bool)(i:Nat),l[i]?=some false→((l.set i true).countP fun b=>!b)+1=l.countP fun b=>!b
 |[],i,h=>by simp at h
 |b::l,0,h=>by simp at h;subst h;simp[List.countP_cons]
 |b::l,i+1,h=>by simp only[List.getElem?_cons_succ]at h;have:=uZ l i h;simp only[List.set_cons_succ,List.countP_cons];omega
theorem EO(hp:uY P C G call round ops B base x0 A0 S X)(E:gP P C G call round)(hl:x0.n≤jo)(hlim:base+ops.size≤jo){r:Option Nat}{ρ0:br}{w0:World}(hg0:Gl G ρ0){Q:Exit→Act→World→Prop}(hQ:∀ρ a w,cK ρ S.x a→bS ρ (EI B base ops.size S) w→Step ρ0 A0 w0 ρ (EI B base ops.size S) w→Q .normal a w):∀(fuel:Nat)(listed:Array Bool)(k:Nat)(ρ:br)(a:Act)(w:World),(listed.toList.countP fun b=>!b)≤fuel→rq ops B base x0 A0 S listed k ρ0 w0 ρ a w→wpAnyIn (vQ r) 0 P .any ops Q fuel listed a w:=by
 have fin:∀(listed:Array Bool)(k:Nat)(ρ:br)(a:Act)(w:World),rq ops B base x0 A0 S listed k ρ0 w0 ρ a w→(∀i,i<ops.size→listed.getD i false=true)→Q .normal a w:=by
  intro listed k ρ a w I hall;have hk:k=S.es.length:=by
   have h1:=I.kle;by_cases h2:k<S.es.length;·have h0:S.es[k]?=some (S.es[k]'h2):=List.getElem?_eq_getElem h2;obtain⟨o,ho,_⟩:=hp.ef k _ h0;have:=(I.pre k _ h0).1 (hall _ (Array.getElem?_eq_some_iff.1 ho).1);omega
   ·omega
  subst hk;have hsame:∀j,(EI B base ops.size S).get j=(oI B base S ops.size (fun q=>listed.getD q false) S.es.length).get j:=fun j=>by
   rw[gn _ _ _ _ _ _ hlim];unfold EI;rw[nD _ _ _ _ _ hlim];by_cases hr:base≤j∧j<base+ops.size;·
    rw[hall (j-base) (by omega)];cases hab:cf B S.es S.es.length (j-base)with
    |true=>simp
    |false=>simp
   ·rw[if_neg (fun h=>hr ⟨h.1,h.2.1⟩),if_neg (fun h=>hr ⟨h.1,h.2.1⟩)]
  have e1:=eB (fun q=>if cf B S.es S.es.length q=true then none else S.q q) base (S.h S.es.length) ops.size;have e2:=eB (pM B S (fun q=>listed.getD q false) S.es.length) base (S.h S.es.length) ops.size;have hsince:=I.since.same hsame (e1.1.trans e2.1.symm) (e1.2.1.trans e2.2.1.symm) (e1.2.2.trans e2.2.2.symm);refine hQ ρ a w ?_ (I.H.same hsame (e1.1.trans e2.1.symm) (e1.2.1.trans e2.2.1.symm)) (Since.step (by rw[hp.nid];exact hsince));obtain⟨n1,n2,n3⟩:=hp.env hl ops.size (Nat.le_refl _);rw[hp.XN]at n1 n2 n3;refine⟨by rw[n1];exact I.tsz,by rw[n1];exact hl,fun t=>?_,by rw[n2];exact I.df⟩;rw[n3];have:=I.tm t;unfold G_ at this⊢;cases hw:gJ ops t with
  |none=>rw[hw]at this;exact this
  |some j=>rw[hw]at this;dsimp only at this⊢;have hj:=(eJ hw).1;rw[hall j hj]at this;rw[decide_eq_true hj];exact this
 have unl:∀(listed:Array Bool),listed.size=ops.size→Region.ready .any ops listed=[]→∀i,i<ops.size→listed.getD i false=true:=by
  intro listed hsz hr i;induction i using Nat.strongRecOn with
  |_ i ih=>
    intro hi;cases h:listed.getD i false with
    |true=>rfl
    |false=>
     have ho:ops[i]?=some ops[i]:=Array.getElem?_eq_getElem hi;have hm:i∈Region.ready .any ops listed:=by
      rw[mem_ready];refine⟨?_,_,ho,fun e he hb=>ih e.on ((hp.bef i _ ho).2 e he hb) (by have:=(hp.bef i _ ho).2 e he hb;omega)⟩;rw[Array.getD_eq_getD_getElem?,Array.getElem?_eq_getElem (by omega)]at h⊢;exact h
     rw[hr]at hm;cases hm
 intro fuel;induction fuel with
 |zero=>
   intro listed k ρ a w hc I;have hall:∀i,i<ops.size→listed.getD i false=true:=fun i hi=>by
    cases h:listed.getD i false with
    |true=>rfl
    |false=>
     rw[Array.getD_eq_getD_getElem?,Array.getElem?_eq_getElem (by rw[I.sz];exact hi)]at h;have:listed.toList[i]?=some false:=by
      rw[Array.getElem?_toList,Array.getElem?_eq_getElem (by rw[I.sz];exact hi)];exact congrArg some h
     have:=uZ _ _ this;omega
   refine⟨?_,fin listed k ρ a w I hall⟩;cases hr:Region.ready .any ops listed with
   |nil=>rfl
   |cons i l=>
    have hm:i∈Region.ready .any ops listed:=by rw[hr];exact .head _
    rw[mem_ready]at hm;obtain⟨h1,o,ho,_⟩:=hm;have hi:=(Array.getElem?_eq_some_iff.1 ho).1;have:=hall i hi;rw[Array.getD_eq_getD_getElem?,Array.getElem?_eq_getElem (by rw[I.sz];exact hi)]at h1 this;simp only[Option.getD_some]at h1 this;rw[h1]at this;cases this
 |succ fuel ih=>
  intro listed k ρ a w hc I;refine⟨fun hr=>fin listed k ρ a w I (unl listed I.sz hr),fun i hi=>?_⟩;rw[mem_ready]at hi;obtain⟨h1,o,ho,hall⟩:=hi;have hlt:=(Array.getElem?_eq_some_iff.1 ho).1;have hls:i<listed.size:=by rw[I.sz];exact hlt
  have hif:listed.getD i false=false:=by rw[Array.getD_eq_getD_getElem?,Array.getElem?_eq_getElem hls]at h1⊢;exact h1
  have hB:∀j,(B.getD i 0).testBit j=true→listed.getD j false=true:=fun j hj=>by
   rw[(hp.bef i o ho).1]at hj;obtain⟨e,he,hb,h⟩:=C9 hj;rcases h with rfl|h;·exact hall e he hb
   ·exact I.closed e.on (hall e he hb) j h
  have hcnt:((listed.setIfInBounds i true).toList.countP fun b=>!b)≤fuel:=by
   rw[Array.toList_setIfInBounds];have:listed.toList[i]?=some false:=by rw[Array.getElem?_toList,Array.getElem?_eq_getElem hls];rw[Array.getD_eq_getD_getElem?,Array.getElem?_eq_getElem hls]at hif;exact congrArg some hif
   have:=uZ _ _ this;omega
  have hg:Gl G ρ:=hg0.mono I.since.le;by_cases he:i∈S.es;·obtain⟨k',hk'⟩:=List.mem_iff_getElem?.1 he;exact xy hp E hl hlim I hg ho hif hB hk' fun k'' ρ' a' w' _ I'=>ih _ k'' ρ' a' w' hcnt I'
  ·exact zo hp E hl hlim I hg ho hif hB he fun k'' ρ' a' w' _ I'=>ih _ k'' ρ' a' w' hcnt I'
end Go.Proofs.Eng
end
