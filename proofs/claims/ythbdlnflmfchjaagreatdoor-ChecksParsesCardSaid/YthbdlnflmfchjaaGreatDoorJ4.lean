/- The engine, fourth part: code, calls, memos: what the evaluator answers is what the program does. -/
import Derived.Test.YthbdlnflmfchjaaGreatDoorJ3
import Derived.Scope
import Derived.RecoverIn
section
set_option linter.unusedSimpArgs false
set_option linter.unusedVariables false
namespace Go.Proofs.Eng
variable{P:Program}{C:ie}{G:Nat}{call:dC}{round:da}{ρ:br}
theorem mj{ops:Array Oper}{i:Nat}{o:Oper}(h:ops[i]?=some o):o∈ops.toList:=by rw[Array.mem_toList_iff];exact Array.mem_of_getElem? h
theorem xz(E:gP P C G call round)(hm:P.follows .mixedOrders=true){r:Option Nat}{id:Nat}{ops:Array Oper}{x x2:bG}{A A2:AW}(e:EJ P C G call round ops x A=some (x2,A2)){a:Act}{w:World}(hg:Gl G ρ)(ha:cK ρ x a)(H:bS ρ A w){Q:Exit→Act→World→Prop}(hk:∀ρ' a' w',cK ρ' x2 a'→bS ρ' A2 w'→Step ρ A w ρ' A2 w'→Q .normal a' w'):(Code.region id ops true).wpIn (vQ r) 0 P Q a w:=by
 unfold EJ at e;split at e;case isFalse=>cases e
 rename_i hc;split at e;case h_2=>cases e
 rename_i S hS;split at e;case isFalse=>cases e
 rename_i hq;cases e;simp only[Bool.and_eq_true,decide_eq_true_eq]at hc;obtain⟨⟨hd,hbel⟩,hroom⟩:=hc;unfold EH at hd;simp only[Bool.and_eq_true]at hd;obtain⟨⟨⟨hd1,hd2⟩,hd3⟩,hd4⟩:=hd;obtain⟨hE,hL,X,hX0,hXN,hop,hef⟩:=pL (l:=ops.toList) (i:=0) hS ⟨rfl,rfl,rfl,rfl⟩;simp only[Nat.zero_add,Array.length_toList,Nat.sub_zero]at hX0 hXN hop hef hL;have hlim:A.nid+ops.size≤jo:=Nat.le_trans hroom H.ids.2;have hp:uY P C G call round ops (rj ops) A.nid x A S X:=by
  refine⟨fun i o ho=>?_,fun i o ho=>?_,hd3,fun i o t j ho ht hj hji hdj=>?_,fun i o d ho hdd=>?_,rfl,hroom,hX0,hXN,?_,fun j o ho=>?_,fun k e he=>?_,fun q o k ho hne hw hk' hsl=>?_⟩;·have:=(List.all_eq_true.1 hd1) o (mj ho);rw[Bool.and_eq_true]at this;exact⟨this.1,by simpa using this.2⟩
  ·have hi:=(Array.getElem?_eq_some_iff.1 ho).1;have:=(List.all_eq_true.1 hd2) i (List.mem_range.2 hi);rw[ho]at this;dsimp only at this;rw[Bool.and_eq_true,List.all_eq_true]at this;refine⟨by simpa using this.1,fun e he hb=>?_⟩;have:=this.2 e (by simpa using he);rw[hb]at this;simpa using this
  ·
   have hi:=(Array.getElem?_eq_some_iff.1 ho).1;have:=(List.all_eq_true.1 hd4) i (List.mem_range.2 hi);rw[ho]at this;dsimp only at this;have:=(List.all_eq_true.1 this) t ht;have:=(List.all_eq_true.1 this) j (List.mem_range.2 hj);rw[hdj]at this;simp only[bne_self_eq_false,Bool.or_false,Bool.or_eq_true,decide_eq_true_eq,hji,false_or]at this;by_cases hlt:j<i;·rw[if_pos hlt]at this⊢;exact this
   ·rw[if_neg hlt]at this⊢;exact this
  ·have:=(List.all_eq_true.1 hbel) o (mj ho);rw[hdd]at this;simpa using this
  ·exact hE.h' (j:=0) (by simp)
  ·exact hop j o (Nat.zero_le _) (by rw[Array.getElem?_toList];exact ho)
  ·obtain⟨_,o,g1,g2⟩:=hef k e (Nat.zero_le _) he;exact⟨o,by rw[Array.getElem?_toList]at g1;exact g1,g2⟩
  ·have hqi:=(Array.getElem?_eq_some_iff.1 ho).1;have:=(List.all_eq_true.1 hq) q (List.mem_range.2 hqi);rw[ho]at this;dsimp only at this;rw[if_neg (by simpa using hne),(hop q o (Nat.zero_le _) (by rw[Array.getElem?_toList];exact ho)).xa,if_pos hw]at this;have:=(List.all_eq_true.1 this) k (List.mem_range.2 (by omega));rw[if_pos hsl]at this;exact this
 refine wpIn_region_any hm (EO (w0:=w) hp E ha.lt hlim hg hk ops.size _ 0 ρ a _ ?_ ?_);·have:((Array.replicate ops.size false).toList.countP fun b=>!b)≤(Array.replicate ops.size false).toList.length:=List.countP_le_length;simpa using this
 ·
  have hget:∀i,(Array.replicate ops.size false).getD i false=false:=fun i=>by rw[Array.getD_eq_getD_getElem?,Array.getElem?_replicate];split<;>rfl
  have hh0:S.h 0={A with nid:=A.nid+ops.size}:=hp.h0;have tget:∀j,(oI (rj ops) A.nid S ops.size (fun q=>(Array.replicate ops.size false).getD q false) 0).get j=A.get j:=fun j=>by
   rw[gn _ _ _ _ _ _ hlim,if_neg (fun h=>by rw[hget]at h;cases h.2.2.1),hh0];rfl
  have tsm:=eB (pM (rj ops) S (fun q=>(Array.replicate ops.size false).getD q false) 0) A.nid (S.h 0) ops.size;have tn:(oI (rj ops) A.nid S ops.size (fun q=>(Array.replicate ops.size false).getD q false) 0).nid=A.nid+ops.size:=tsm.1.trans (by rw[hh0]);have ts:(oI (rj ops) A.nid S ops.size (fun q=>(Array.replicate ops.size false).getD q false) 0).stop=A.stop:=tsm.2.1.trans (by rw[hh0]);have tr:(oI (rj ops) A.nid S ops.size (fun q=>(Array.replicate ops.size false).getD q false) 0).ro=A.ro:=tsm.2.2.trans (by rw[hh0]);refine⟨by simp,fun i hi=>(by rw[hget]at hi;cases hi),Nat.zero_le _,fun j e _=>(by rw[hget];simp),?_,?_,(by rw[hh0];exact Nat.le_refl _),(by rw[hh0]),(by rw[hh0]),fun q hq _=>?_,fun q hq _=>H.none _ (by omega) (by omega),ha.size,fun t=>?_,ha.df⟩;·
   exact(H.sub (fun j o h=>by rw[tget]at h;exact h) (fun k h1 h2=>H.none k (by omega) (by omega)) (by rw[tn,ts];exact⟨hroom,H.ids.2⟩)).heap rfl
  ·refine⟨by rw[tn];omega,ts,tr,.refl _,fun _ _=>rfl,fun k _ _=>tget k,fun _ _ _=>rfl,Nat.le_refl _,fun k o p h hp=> .inr (.inr ⟨rfl.trans ((tget k).symm▸rfl),hp⟩),rfl,rfl,rfl⟩
  ·rw[hh0];exact H.dead (by omega) (by omega)
  ·have:=ha.tm t;unfold G_;cases gJ ops t with
    |none=>exact this
    |some j=>dsimp only;rw[hget];exact this
def RR(ρ:br):Option Nat→Option Nat→Prop
 |none,none=>True
 |some l,some l'=>gx ρ l l'
 |_,_=>False
theorem RR.mono{ρ ρ':br}(hl:ρ.le ρ'){l r:Option Nat}(h:RR ρ l r):RR ρ' l r:=by cases l<;>cases r<;>first|exact h|exact gx.mono hl h
theorem RR.isSome{l r:Option Nat}(h:RR ρ l r):r.isSome=l.isSome:=by cases l<;>cases r<;>first|rfl|exact h.elim
theorem sQ{f f':FuncId}{t t':Array Value}(ht:bg ρ t t')(ps:Array Tmp)(as b:Code){lr r:Option Nat}(hr:RR ρ lr r):bj P (fun ρ(x:Nat×List Deferred)(y:Nat×List Deferred)=>gx ρ x.1 y.1∧fu ρ x.2 y.2) ρ (Instr.enterLoop f t ps as b lr) (Instr.enterLoop f' t' ps as b r):=by
 have tail:∀{ρ1:br}{d d':Nat}{m m':List Deferred},ρ.le ρ1→gx ρ1 d d'→fu ρ1 m m'→bj P (fun ρ(x:Nat×List Deferred)(y:Nat×List Deferred)=>gx ρ x.1 y.1∧fu ρ x.2 y.2) ρ1 (newObj (.loop {state:=.ready,pending:=none,fn:=f,tmps:=t,params:=ps,assign:=as,body:=b,defers:=d})>>=fun n=>pure (n,m)) (newObj (.loop {state:=.ready,pending:=none,fn:=f',tmps:=t',params:=ps,assign:=as,body:=b,defers:=d'})>>=fun n=>pure (n,m')):=fun hl hd hm=>(iy fun p hs _=>by exact .loop hs ⟨rfl,rfl,bg.mono hl ht,rfl,rfl,rfl,hd⟩).bnd fun _ _ _ hl2 hn=> .pure ⟨hn,hm.mono hl2⟩;cases lr with
 |none=>cases r with
         |some _=>exact hr.elim
         |none=>exact(iy fun p hs _=> .deferred hs .nil).bnd fun ρ1 n n' hl hn=>tail hl hn (.cons ⟨.collected hn,.nil⟩ .nil)
 |some l=>
   cases r with
   |none=>exact hr.elim
   |some l'=>exact(gy hr).bnd fun ρ1 q q' hl hq=>tail hl hq.defers .nil
theorem ry{l l':Nat}(h:gx ρ l l'):bj P lX ρ (Instr.beginRound l) (Instr.beginRound l'):=by
 refine(gy h).bnd fun ρ1 r r' hl hr=>?_;refine .setObj (h.mono hl).at (fun p hs=> .loop hs ⟨rfl,hr.pending,hr.tmps,hr.params,hr.assign,hr.body,hr.defers⟩) ?_;show bj P lX ρ1 (match r.state with|.ready=>pure ()|.done=>_|.busy=>_|.exhausted=>_) (match r'.state with|.ready=>pure ()|.done=>_|.busy=>_|.exhausted=>_);rw[hr.state];cases r.state<;>first|exact .pure rfl|exact lE
theorem u_{l l':Nat}(h:gx ρ l l')(j:Option Code):bj P aX ρ (Instr.endRound l j) (Instr.endRound l' j):=by refine(gy h).bnd fun ρ1 r r' hl hr=>?_;exact .setObj (h.mono hl).at (fun p hs=> .loop hs ⟨rfl,rfl,hr.tmps,hr.params,hr.assign,hr.body,hr.defers⟩) (.pure (.bool _))
theorem xA{l l':Nat}(h:gx ρ l l'):bj P lX ρ (Instr.endLoop l) (Instr.endLoop l'):=by
 refine(gy h).bnd fun ρ1 r r' hl hr=>?_;rw[hr.state];split;·exact .fails (jK (fun A=>di _ A))
 ·refine .setObj (h.mono hl).at (fun p hs=> .loop hs ⟨rfl,hr.pending,hr.tmps,hr.params,hr.assign,hr.body,hr.defers⟩) (.pure ?_);show r.pending=r'.pending;rw[hr.pending]
theorem oJ{l l':Nat}(h:gx ρ l l'):bj P fu ρ (Instr.takeDeferred l) (Instr.takeDeferred l'):=by
 refine .getObj h.at fun o o' p ho=>?_;cases ho<;>try exact .halt
 exact .setObj h.at (fun p hs=> .deferredNone hs) (.pure ‹_›)
inductive RO{α:Type}(P:Program):Sem α→Prop|pure(a:α):RO P (.pure a)|load{m:Mode}{a:Addr}{k:Value→Sem α}(h:∀v,RO P (k v)):RO P (.load m a k)|program{k:Program→Sem α}(h:RO P (k P)):RO P (.program k)|halt(h:Halt):RO P (.halt h)
theorem RO.run{α:Type}{s:Sem α}(h:RO P s):∀{w w':World}{a:α},s.run P w=.ok a w'→w'=w:=by
 induction h with
 |pure a=>intro w w' b e;simp only[Sem.run,Result.ok.injEq]at e;exact e.2.symm
 |load h ih=>
  intro w w' b e;simp only[Sem.run]at e;split at e;·exact ih _ e
  ·
   split at e;·exact ih _ e
   ·cases e
 |program h ih=>intro w w' b e;exact ih e
 |halt h=>intro w w' b e;simp[Sem.run]at e
theorem RO.bind{α β:Type}{s:Sem α}{f:α→Sem β}(h:RO P s)(hf:∀a,RO P (f a)):RO P (s>>=f):=by
 show RO P (s.bind f);induction h with
 |pure a=>exact hf a
 |load h ih=>exact .load ih
 |program h ih=>exact .program ih
 |halt h=>exact .halt h
theorem xB(t:TypeId):RO P (typeInfo t):=.program (by
 show RO P (match P.info? t with|some i=>pure i|none=>stuck _);cases P.info? t<;>first|exact .pure _|exact .halt _)
theorem sR(t:TypeId):RO P (underlying t):=.program (by
 show RO P (match P.underlying t with|some i=>pure i|none=>stuck _);cases P.underlying t<;>first|exact .pure _|exact .halt _)
theorem jr(a:Addr):∀(n i:Nat)(acc:Array Value),RO P (loadCellsFrom a i n acc)
 |0,_,_=> .pure _
 |n+1,i,acc=> .load fun v=>jr a n (i+1) _
theorem zp(t:TypeId)(a:Addr):RO P (loadVar t a):=by
 unfold loadVar isAgg;refine RO.bind (RO.bind (sR t) fun d=>by cases d<;>exact .pure _) fun b=>?_;cases b with
 |true=>exact RO.bind (RO.bind (xB t) fun _=> .pure _) fun n=>RO.bind (jr a n 0 #[]) fun _=> .pure _
 |false=>exact .load fun v=> .pure _
def rz(at_:Nat→Value):List ResultVar→Sem (List Value)
 |[]=> .pure []
 |.tmp t::l=>(rz at_ l).bind fun vs=> .pure (at_ t::vs)
 |.cell c t::l=>match at_ c with
  |.pointer (some a)=>(loadVar t a).bind fun v=>(rz at_ l).bind fun vs=> .pure (v::vs)
  |_=>no
def kV(fn:Func)(x:bG):Sem Value:=(rz x.at fn.results.toList).bind fun vs=> .pure (match vs with
 |[v]=>v
 |vs=> .tuple ⟨vs⟩)
def EP(tmps:Array Value)(r:ResultVar):Sem Value:=match r with
 |.tmp t=>pure (tmps.getD t undef)
 |.cell a t=>do loadVar t (←asAddr (tmps.getD a undef))
theorem rA(fn:Func)(tmps:Array Value):results fn tmps=fn.results.toList.mapM (EP tmps)>>=fun l=>pure (if h:l.toArray.size=1 then l.toArray[0]else .tuple l.toArray):=by show(fn.results.mapM (EP tmps))>>=_=_;rw[Array.mapM_eq_mapM_toList,map_eq_pure_bind,bind_assoc];simp only[pure_bind]
theorem mL{x:bG}{a:Act}(h:∀t,aX ρ (x.at t) (a.tmps.getD t undef)):∀(l:List ResultVar){ρ':br},ρ.le ρ'→bj P bD ρ' (rz x.at l) (l.mapM (EP a.tmps))
 |[],ρ',_=>by rw[List.mapM_nil];exact .pure .nil
 |.tmp t::l,ρ',hl=>by rw[List.mapM_cons];show bj P bD ρ' _ (pure (a.tmps.getD t undef)>>=_);rw[pure_bind];exact bj.bind (mL h l hl) fun ρ2 vs vs' hl2 hv=> .pure (.cons ((h t).mono (hl.trans hl2)) hv)
 |.cell c t::l,ρ',hl=>by
  rw[List.mapM_cons];unfold rz;have hc:=(h c).mono hl;generalize x.at c=u at hc;show bj P bD ρ' _ ((asAddr (a.tmps.getD c undef)>>=fun z=>loadVar t z)>>=_);generalize a.tmps.getD c undef=u' at hc;cases hc<;>try exact .halt
  rename_i b b' hb;show bj P bD ρ' _ (loadVar t b'>>=_);exact bj.bind (kN t hb) fun ρ2 v v' hl2 hv=>bj.bind (mL h l (hl.trans hl2)) fun ρ3 vs vs' hl3 hvs=> .pure (.cons (hv.mono hl3) hvs)
theorem xC(fn:Func){x:bG}{a:Act}(h:∀t,aX ρ (x.at t) (a.tmps.getD t undef)):bj P aX ρ (kV fn x) (results fn a.tmps):=by
 rw[rA];refine bj.bind (mL h _ (.refl _)) fun ρ1 vs vs' hl hv=> .pure ?_;cases hv with
 |nil=>exact .tuple .nil
 |cons h1 t1=>
   cases t1 with
   |nil=>exact h1
   |cons h2 t2=>rw[dif_neg (by simp)];exact .tuple (.cons h1 (.cons h2 t2))
theorem Da(v:Value):RO P (asAddr v):=by
 cases v<;>try exact .halt _
 rename_i a;cases a with
 |none=>exact .program (.halt _)
 |some a=>exact .pure _
theorem zq(fn:Func)(tmps:Array Value):RO P (results fn tmps):=by
 rw[rA];refine RO.bind ?_ fun l=> .pure _;induction fn.results.toList with
 |nil=>rw[List.mapM_nil];exact .pure _
 |cons r l ih=>
   rw[List.mapM_cons];refine RO.bind ?_ fun v=>RO.bind ih fun vs=> .pure _;cases r with
   |tmp t=>exact .pure _
   |cell c t=>exact RO.bind (Da _) fun a=>zp t a
end Go.Proofs.Eng
end
section
set_option linter.unusedSimpArgs false
set_option linter.unusedVariables false
namespace Go.Proofs.Eng
variable{P:Program}{C:ie}{G:Nat}{call:dC}{round:da}
inductive Hx where|normal|exit(id:Nat)|ret
def Hx.to:Hx→Exit
 |.normal=> .normal
 |.exit id=> .exit id
 |.ret=> .ret
def Hx.jump:Hx→Option Code
 |.normal=>none
 |.exit id=>some (.exit id)
 |.ret=>some .ret
def bG.arr(x:bG):Array Value:=⟨(List.range x.n).map x.at⟩
theorem cK.arr{ρ:br}{x:bG}{a:Act}(h:cK ρ x a):bg ρ x.arr a.tmps:=by
 refine bg.of_get (by simp[bG.arr,h.size]) fun i v v' h1 h2=>?_;have hi:i<x.n:=by have:=(Array.getElem?_eq_some_iff.1 h2).1;rw[h.size]at this;exact this
 have e1:x.arr[i]?=some (x.at i):=by show((List.range x.n).map x.at).toArray[i]?=_;simp[hi]
 rw[e1]at h1;cases h1;have:=h.tm i;rw[Array.getD_eq_getD_getElem?,h2]at this;exact this
abbrev Out:=Hx×bG×AW
def xD(f:bG→AW→Option (List Out)):Nat→bG→AW→Option (List Out)
 |0,_,_=>none
 |m+1,x,A=>match f x A with
  |some outs=>tO (fun z=>match z.1 with
   |.normal=>xD f m z.2.1 z.2.2
   |_=>some [z]) outs
  |none=>none
def OA(G:Nat)(ops:Array Oper):Bool:=ops.toList.all (iB G)
def zr(P:Program)(C:ie)(call:dC)(ps:Array Tmp)(as b:Code)(lr:Option Nat)(x:bG)(g:Value)(A:AW):Option (Hx×bG×AW):=match bO P (Instr.enterLoop 0 x.arr ps as b lr) A with
 |some ((l,mark),A1)=>match g with
  |.func fn first captured=>match bO P (uJ P C fn (first++#[.func (.yield l) #[] #[]]) captured) A1 with
   |some (.enter f args,A2)=>match call f args A2 with
    |some (_,A3)=>match bO P (Instr.endLoop l) A3 with
     |some (jump,A4)=>match jump with
      |none=>some (.normal,{x with df:=mark++x.df},A4)
      |some .ret=>some (.ret,{x with df:=mark++x.df},A4)
      |some (.exit id)=>some (.exit id,{x with df:=mark++x.df},A4)
      |_=>none
     |none=>none
    |none=>none
   |_=>none
  |_=>none
 |none=>none
def one(z:Option Out):Option (List Out):=match z with
 |some z=>some [z]
 |none=>none
def eH(P:Program)(C:ie)(G:Nat)(call:dC)(round:da)(lr:Option Nat)(L:Nat):Code→bG→AW→Option (List Out)
 |.skip,x,A=>some [(.normal,x,A)]
 |.region _ ops draw,x,A=>if draw=true then match EJ P C G call round ops x A with
  |some (x1,A1)=>some [(.normal,x1,A1)]
  |none=>none else if OA G ops=true then match C6 P C G call round lr.isSome ops ops.toList x A with
  |some outs=>some (outs.map fun z=>(.normal,z.1,z.2))
  |none=>none else none
 |.seq c d,x,A=>match eH P C G call round lr L c x A with
  |some outs=>tO (fun z=>match z.1 with
   |.normal=>eH P C G call round lr L d z.2.1 z.2.2
   |_=>some [z]) outs
  |none=>none
 |.cond c t f,x,A=>match x.sev G c with
  |.bool b=>if b=true then eH P C G call round lr L t x A else eH P C G call round lr L f x A
  |_=>none
 |.block id c,x,A=>match eH P C G call round lr L c x A with
  |some outs=>some (outs.map fun z=>match z.1 with
   |.exit i=>if i=id then(.normal,z.2.1,z.2.2)else z
   |_=>z)
  |none=>none
 |.loop c,x,A=>xD (eH P C G call round lr L c) L x A
 |.rangeFunc g ps as b,x,A=>one (zr P C call ps as b lr x (x.sev G g) A)
 |.exit id,x,A=>some [(.exit id,x,A)]
 |.label _,x,A=>some [(.normal,x,A)]
 |.ret,x,A=>some [(.ret,x,A)]
 |.scope c,x,A=>eH P C G call round lr L c x A
 |.goto _,_,_=>none
 |.refuse _,_,_=>none
def ER(ρ:br)(A:AW)(w:World)(x2:bG)(A2:AW)(K:Act→World→Prop):Prop:=∀ρ' a' w',cK ρ' x2 a'→bS ρ' A2 w'→Step ρ A w ρ' A2 w'→K a' w'
def ES(ρ:br)(A:AW)(w:World)(outs:List Out)(Q:Exit→Act→World→Prop):Prop:=∀z∈outs,ER ρ A w z.2.1 z.2.2 (Q z.1.to)
theorem pN{f:bG→AW→Option (List Out)}{F:Fence}{c:Code}{lr r:Option Nat}(hf:∀{ρ:br}{x:bG}{A:AW}{outs:List Out},f x A=some outs→∀{a:Act}{w:World}{Q:Exit→Act→World→Prop},Gl G ρ→RR ρ lr r→cK ρ x a→bS ρ A w→ES ρ A w outs Q→c.wpIn F 0 P Q a w):∀(m:Nat){ρ:br}{x:bG}{A:AW}{outs:List Out},xD f m x A=some outs→∀{a:Act}{w:World}{Q:Exit→Act→World→Prop},Gl G ρ→RR ρ lr r→cK ρ x a→bS ρ A w→ES ρ A w outs Q→Code.roundsIn F 0 P c Q m a w
 |0,_,_,_,_,h,_,_,_,_,_,_,_,_=>by simp[xD]at h
 |m+1,ρ,x,A,outs,h,a,w,Q,hg,hr,ha,H,hk=>by
   rw[roundsIn_succ];unfold xD at h;split at h;case h_2=>cases h
   rename_i os h1;refine hf h1 hg hr ha H fun z hz ρ' a' w' ha' H' S'=>?_;obtain⟨b,hb1,hb2⟩:=lI h z hz;obtain⟨e1,x1,A1⟩:=z;cases e1 with
   |normal=>exact pN hf m hb1 (hg.mono S'.le) (hr.mono S'.le) ha' H' fun u hu ρ2 a2 w2 ha2 H2 S2=>hk u (hb2 u hu) ρ2 a2 w2 ha2 H2 (S'.trans S2)
   |exit id=>cases hb1;exact hk _ (hb2 _ (.head _)) ρ' a' w' ha' H' S'
   |ret=>cases hb1;exact hk _ (hb2 _ (.head _)) ρ' a' w' ha' H' S'
theorem fu.app{ρ:br}:∀{a a' b b':List Deferred},fu ρ a a'→fu ρ b b'→fu ρ (a++b) (a'++b')
 |_,_,_,_,.nil,h=>h
 |_,_,_,_,.cons x t,h=> .cons x (t.app h)
theorem va(E:gP P C G call round){ρ:br}{lr r:Option Nat}{g:Operand}{ps:Array Tmp}{as b:Code}{x x2:bG}{A A2:AW}{e:Hx}(h:zr P C call ps as b lr x (x.sev G g) A=some (e,x2,A2)){a:Act}{w:World}{Q:Exit→Act→World→Prop}(hg:Gl G ρ)(hr:RR ρ lr r)(ha:cK ρ x a)(H:bS ρ A w)(hk:ER ρ A w x2 A2 (Q e.to)):(Code.rangeFunc g ps as b).wpIn (vQ r) 0 P Q a w:=by
 unfold zr at h;split at h;case h_2=>cases h
 rename_i l mark A1 e1;split at h;case h_2=>cases h
 rename_i fn first captured hgv;split at h;case h_2=>cases h
 rename_i f args A2' e2;split at h;case h_2=>cases h
 rename_i v A3 e3;split at h;case h_2=>cases h
 rename_i jump A4 e4;refine wpIn_rangeFunc fun fn0 _=>?_;obtain⟨ρ1,⟨l',mark'⟩,w1,hrun1,⟨hl',hm'⟩,H1,S1⟩:=(sQ (f:=0) (f':=fn0) ha.arr ps as b hr).sound e1 H;have hv:=(jL hg ha g).mono S1.le;rw[hgv]at hv;have hcv:mI G a g=a.eval g:=by
  unfold mI at hv⊢;by_cases hp:pJ G g=true;·rw[if_pos hp]
  ·rw[if_neg hp]at hv;cases hv
 rw[hcv]at hv;cases hgc:a.eval g<;>rw[hgc]at hv<;>try
  (cases hv;done)
 rename_i fn' first' captured';cases hv with
 |func hfn hfx hfy=>
   have hargs:bg ρ1 (first++#[.func (.yield l) #[] #[]]) (first'++#[.func (.yield l') #[] #[]]):=bg.append hfx (.cons (.func (.yield hl') .nil .nil) .nil);obtain⟨ρ2,nx,w2,hrun2,hN,H2,S2⟩:=(qS E.prog.cfg hfn hargs hfy).sound e2 H1;have hN':∃args',nx=.enter f args'∧bg ρ2 args args':=by
    cases hN with
    |enter h=>exact⟨_,rfl,h⟩
    |other h=>simp[oB]at h
   obtain⟨args',rfl,hargs'⟩:=hN';refine⟨l',mark',w1,{target:=.fn fn' captured',args:=first'++#[.func (.yield l') #[] #[]]},w1,f,args',w2,hrun1,?_,fun _ _=>trivial,hrun2,fun h=>by simp[vQ,Fence.wide]at h,?_⟩;·show Sem.run P (resolve a.eval (rangeCall g l') 0) w1=_;unfold resolve;dsimp only;rw[hgc];simp[Act.eval,Deferred.ofValue]
   ·
    refine pK ((E.call f args A2' v A3 e3 ρ2 w2 args' ((hg.mono S1.le).mono S2.le) H2 hargs').mono fun en w3 hh=>?_);obtain⟨ρ3,v',rfl,_,H3,S3⟩:=hh;obtain⟨ρ4,jump',w4,hrun4,hj,H4,S4⟩:=(xA ((hl'.mono S2.le).mono S3.le)).sound e4 H3;cases hj;have hS:=((S1.trans S2).trans S3).trans S4;have hact:cK ρ4 {x with df:=mark++x.df} {a with defers:=mark'++a.defers}:=by have ha4:=ha.mono hS.le;refine⟨ha4.size,ha4.lt,ha4.tm,?_⟩;exact fu.app (hm'.mono ((S2.trans S3).trans S4).le) ha4.df
    refine⟨jump,w4,hrun4,?_⟩;split at h;·cases h;exact hk ρ4 _ w4 hact H4 hS
    ·cases h;exact wpIn_ret (hk ρ4 _ w4 hact H4 hS)
    ·cases h;exact wpIn_exit (hk ρ4 _ w4 hact H4 hS)
    ·cases h
theorem zt{F:Fence}{n:Nat}{Q:Exit→Act→World→Prop}{a:Act}{w:World}{c:Code}(h:c.wpIn F n P (Exit.noGoto Q) a w):(Code.scope c).wpIn F n P Q a w:=by
 intro b k cs hro hb hr;have h0:(lone (b.atR a (.code (.scope c)::k)) cs w).fenced P F:=fenced_calm hb hr rfl;have s1:step P (lone (b.atR a (.code (.scope c)::k)) cs w)=.next (lone (b.atR a (.code c:: .inScope c::k)) cs w):=step_lone_go (by simp[stepG,stepG.exec,Frame.atR]);have s2:∀a w,step P (lone (b.atR a (.inScope c::k)) cs w)=.next (lone (b.atR a k) cs w):=fun a w=>step_lone_go (by simp[stepG,stepG.exec,Frame.atR]);obtain⟨e,a₁,w₁,hq,harr⟩:=h b (.inScope c::k) cs hro hb hr;cases e with
 |normal=>exact⟨.normal,a₁,w₁,hq,.head h0 s1 (StepsIn.trans harr (.one (fenced_calm hb hr rfl) (s2 _ _)))⟩
 |exit id'=>
  have hx:exitTo id' (.inScope c::k)=exitTo id' k:=by simp[exitTo]
  exact⟨.exit id',a₁,w₁,hq,fun k' hk=> .head h0 s1 (harr.1 k' (by rw[hx];exact hk)),fun hr' hk=>let⟨k₁,h1,h2⟩:=harr.2 hr' (by rw[hx];exact hk);⟨k₁,h1,.head h0 s1 h2⟩⟩
 |goto l=>exact hq.elim
 |ret=>exact⟨_,a₁,w₁,hq,.of_steps (.one h0 s1) harr⟩
 |panic ch=>exact⟨_,a₁,w₁,hq,.of_steps (.one h0 s1) harr⟩
 |outgrown=>exact⟨_,a₁,w₁,hq,.of_steps (.one h0 s1) harr⟩
theorem Kf{P:Prop}(h:P:=by
 have:=hv.plain rfl;unfold mI at this;by_cases hp:pJ G c=true;·rw[if_pos hp]at this;exact this
 ·rw[if_neg hp]at this;cases this):P:=h
theorem iD(E:gP P C G call round)(hm:P.follows .mixedOrders=true){L:Nat}{lr r:Option Nat}(c:Code):∀{ρ:br}{x:bG}{A:AW}{outs:List Out},eH P C G call round lr L c x A=some outs→∀{a:Act}{w:World}{Q:Exit→Act→World→Prop},Gl G ρ→RR ρ lr r→cK ρ x a→bS ρ A w→ES ρ A w outs Q→c.wpIn (vQ r) 0 P Q a w:=by
 induction c with
 |skip=>intro ρ x A outs h a w Q hg hr ha H hk;cases h;exact wpIn_skip (hk _ (.head _) ρ a w ha H (.refl _ _ _))
 |region id ops draw=>
   intro ρ x A outs h a w Q hg hr ha H hk;unfold eH at h;cases draw with
   |true=>
    rw[if_pos rfl]at h;split at h;·rename_i x1 A1 h1;cases h;exact xz E hm h1 hg ha H (hk _ (.head _))
    ·cases h
   |false=>
    rw[if_neg (by simp)]at h;split at h;·
     rename_i hok;split at h;·rename_i os h1;cases h;exact wpIn_region_list (mJ E (r:=r) hr.isSome hok h1 hg ha H fun z hz=>hk _ (List.mem_map.2 ⟨z,hz,rfl⟩))
     ·cases h
    ·cases h
 |seq c d ihc ihd=>
   intro ρ x A outs h a w Q hg hr ha H hk;unfold eH at h;split at h;case h_2=>cases h
   rename_i os h1;refine wpIn_seq (ihc h1 hg hr ha H fun z hz ρ' a' w' ha' H' S'=>?_);obtain⟨b,hb1,hb2⟩:=lI h z hz;obtain⟨e1,x1,A1⟩:=z;cases e1 with
   |normal=>exact ihd hb1 (hg.mono S'.le) (hr.mono S'.le) ha' H' fun u hu ρ2 a2 w2 ha2 H2 S2=>hk u (hb2 u hu) ρ2 a2 w2 ha2 H2 (S'.trans S2)
   |exit id=>cases hb1;exact hk _ (hb2 _ (.head _)) ρ' a' w' ha' H' S'
   |ret=>cases hb1;exact hk _ (hb2 _ (.head _)) ρ' a' w' ha' H' S'
 |cond c t f iht ihf=>
   intro ρ x A outs h a w Q hg hr ha H hk;unfold eH at h;split at h;case h_2=>cases h
   rename_i b hb;have hv:=jL hg ha c;rw[hb]at hv;have hc:a.eval c=.bool b:=by exact Kf
   refine wpIn_cond hc ?_;cases b with
   |true=>rw[if_pos rfl]at h⊢;exact iht h hg hr ha H hk
   |false=>rw[if_neg (by simp)]at h⊢;exact ihf h hg hr ha H hk
 |block id c ih=>
   intro ρ x A outs h a w Q hg hr ha H hk;unfold eH at h;split at h;case h_2=>cases h
   rename_i os h1;cases h;refine wpIn_block (ih h1 hg hr ha H fun z hz ρ' a' w' ha' H' S'=>?_);have hm:=hk _ (List.mem_map.2 ⟨z,hz,rfl⟩);obtain⟨e1,x1,A1⟩:=z;cases e1 with
   |normal=>exact hm ρ' a' w' ha' H' S'
   |exit i=>
    dsimp only at hm;show if i=id then _ else _;by_cases hi:i=id;·rw[if_pos hi]at hm⊢;exact hm ρ' a' w' ha' H' S'
    ·rw[if_neg hi]at hm⊢;exact hm ρ' a' w' ha' H' S'
   |ret=>exact hm ρ' a' w' ha' H' S'
 |loop c ih=>intro ρ x A outs h a w Q hg hr ha H hk;unfold eH at h;exact wpIn_loop_rounds L (pN ih L h hg hr ha H hk)
 |rangeFunc g ps as b _ _=>
  intro ρ x A outs h a w Q hg hr ha H hk;unfold eH one at h;split at h;·rename_i z hz;cases h;exact va E hz hg hr ha H (hk _ (.head _))
  ·cases h
 |exit id=>intro ρ x A outs h a w Q hg hr ha H hk;cases h;exact wpIn_exit (hk _ (.head _) ρ a w ha H (.refl _ _ _))
 |label l=>intro ρ x A outs h a w Q hg hr ha H hk;cases h;exact wpIn_label (hk _ (.head _) ρ a w ha H (.refl _ _ _))
 |ret=>intro ρ x A outs h a w Q hg hr ha H hk;cases h;exact wpIn_ret (hk _ (.head _) ρ a w ha H (.refl _ _ _))
 |scope c ih=>intro ρ x A outs h a w Q hg hr ha H hk;unfold eH at h;refine zt (ih h hg hr ha H fun z hz ρ' a' w' ha' H' S'=>?_);have hm:=hk z hz ρ' a' w' ha' H' S';obtain⟨e1,x1,A1⟩:=z;cases e1<;>exact hm
 |goto l=>intro ρ x A outs h;simp[eH]at h
 |refuse why=>intro ρ x A outs h;simp[eH]at h
end Go.Proofs.Eng
end
section
set_option linter.unusedSimpArgs false
set_option linter.unusedVariables false
namespace Go.Proofs.Eng
variable{P:Program}{C:ie}{G:Nat}{call:dC}{round:da}
def PS:List Value→Nat→Tr Value→Tr Value
 |[],_,t=>t
 |v::l,i,t=>PS l (i+1) (t.set 21 i (some v))
theorem Bk:∀(l:List Value)(i:Nat)(t:Tr Value)(j:Nat),i+l.length≤jo→(PS l i t).get j=if i≤j∧j<i+l.length then l[j-i]? else t.get j
 |[],i,t,j,_=>by
  rw[if_neg (by simp only[List.length_nil];omega)];rfl
 |v::l,i,t,j,h=>by
  simp only[List.length_cons]at h⊢;unfold PS;rw[Bk l (i+1) _ j (by omega)];by_cases h1:i+1≤j∧j<i+1+l.length;·
   rw[if_pos h1,if_pos (by omega)];have:j-i=(j-(i+1))+1:=by omega
   rw[this,List.getElem?_cons_succ]
  ·
   rw[if_neg h1,Tr.get_set _ _ _ _ _ (gi (by omega))];by_cases h2:j=i;·subst h2;rw[if_pos rfl,if_pos (by omega),Nat.sub_self,List.getElem?_cons_zero]
   ·rw[if_neg h2,if_neg (by omega)]
def bG.ofArr(l:Array Value)(n:Nat):bG:=⟨PS l.toList 0 .leaf,l.size+(n-l.size),[]⟩
theorem lL{ρ:br}{l l':Array Value}(h:bg ρ l l')(n:Nat)(hn:l.size+(n-l.size)≤jo):cK ρ (bG.ofArr l n) {tmps:=l'++Array.replicate (n-l'.size) undef,defers:=[]}:=by
 have hs:=h.size;refine⟨by simp[bG.ofArr,hs],hn,fun t=>?_,.nil⟩;unfold bG.at bG.ofArr;dsimp only;rw[Bk _ _ _ _ (by simp only[Array.length_toList];omega),Array.getD_eq_getD_getElem?,Array.getElem?_append];simp only[Array.length_toList,Nat.zero_add,Nat.zero_le,true_and,Nat.sub_zero];by_cases ht:t<l.size;·rw[if_pos ht,if_pos (by omega),Array.getElem?_toList];have h1:l[t]?=some l[t]:=Array.getElem?_eq_getElem ht;obtain⟨v',h2,h3⟩:=h.get h1;rw[h1,h2];exact h3
 ·rw[if_neg ht,if_neg (by omega),Tr.get_leaf,Array.getElem?_replicate];split<;>exact aX.undef
abbrev jM:=FuncId→Array Value→AW→Option AW
def rB(P:Program)(dcall:jM)(fn:Func)(x:bG):List Deferred→AW→Option (Value×AW)
 |[],A=>bO P (kV fn x) A
 |d::ds,A=>match d.target with
  |.collected r=>match bO P (Instr.takeDeferred r) A with
   |some (l,A1)=>match l with
    |[]=>rB P dcall fn x ds A1
    |_=>none
   |none=>none
  |.fn (.func f) cap=>match P.funcs[f]? with
   |some g=>if(g.name== "runtime.NumGoroutine")=true then none else if g.body.isNone=true then none else match dcall f (d.args++cap) A with
    |some A1=>rB P dcall fn x ds A1
    |none=>none
   |none=>none
  |_=>none
def qu(P:Program)(G:Nat)(dcall:jM):Prop:=∀f args A A2,dcall f args A=some A2→∀ρ w args',Gl G ρ→bS ρ A w→bg ρ args args'→CallsDIn Fence.wide 0 P f args' .returning w fun e u w'=>u=.returning∧∃ρ' v',e=.returned v'∧bS ρ' A2 w'∧Step ρ A w ρ' A2 w'
theorem ml{fn:Func}{x:bG}{A A2:AW}{v:Value}(h:bO P (kV fn x) A=some (v,A2)){ρ:br}{a:Act}{w:World}(ht:∀t,aX ρ (x.at t) (a.tmps.getD t undef))(H:bS ρ A w):∃ρ' v',(results fn a.tmps).run P w=.ok v' w∧aX ρ' v v'∧bS ρ' A2 w∧Step ρ A w ρ' A2 w:=by obtain⟨ρ',v',w',h1,h2,h3,h4⟩:=(xC fn ht).sound h H;have:=(zq (P:=P) fn a.tmps).run h1;subst this;exact⟨ρ',v',h1,h2,h3,h4⟩
theorem Kg{P:Prop}(h:P:=by exact kW hd h (hg.mono S1.le) (fun t=>(ht t).mono S1.le) H1 (hds2.mono S1.le) fun ρ' v' w' h2 h3 h4=>hR ρ' v' w' h2 h3 (S1.trans h4)):P:=h
theorem kW{dcall:jM}(hd:qu P G dcall){fn:Func}{x:bG}:∀{ds:List Deferred}{A A2:AW}{v:Value},rB P dcall fn x ds A=some (v,A2)→∀{ρ:br}{a:Act}{w:World}{ds':List Deferred},Gl G ρ→(∀t,aX ρ (x.at t) (a.tmps.getD t undef))→bS ρ A w→fu ρ ds ds'→∀{R:Ending→World→Prop},(∀ρ' v' w',aX ρ' v v'→bS ρ' A2 w'→Step ρ A w ρ' A2 w'→R (.returned v') w')→LeavesInM Fence.wide 0 P fn a.tmps R ds' .returning w
 |[],A,A2,v,h,ρ,a,w,ds',hg,ht,H,hds,R,hR=>by cases hds;obtain⟨ρ',v',h1,h2,h3,h4⟩:=ml h ht H;exact⟨v',h1,hR ρ' v' w h2 h3 h4⟩
 |d::ds,A,A2,v,h,ρ,a,w,ds',hg,ht,H,hds,R,hR=>by
   cases hds with
   |@cons _ d' _ ds2 hdd hds2=>
     obtain⟨htg,harg⟩:=hdd;obtain⟨tg,dargs⟩:=d;obtain⟨tg',dargs'⟩:=d';dsimp only at htg harg;unfold rB at h;cases htg with
     |nil=>cases h
     |builtin b ts t cs=>cases h
     |@collected r r' hr=>
       dsimp only at h;split at h;case h_2=>cases h
       rename_i l A1 h1;obtain⟨ρ1,l',w1,hrun,hl,H1,S1⟩:=(oJ hr).sound h1 H;cases l with
       |cons _ _=>cases h
       |nil=>cases hl;refine⟨by simp,.inl ⟨r',w1,rfl,hrun,?_⟩⟩;exact Kg
     |@fn f f' cap cap' hf hc=>
       cases hf with
       |func f=>
         dsimp only at h;split at h;case h_2=>cases h
         rename_i g hg0;split at h;·cases h
         ·
          rename_i hn1;split at h;·cases h
          ·
           rename_i hn2;split at h;case h_2=>cases h
           rename_i A1 h1;have hargs:bg ρ (dargs++cap) (dargs'++cap'):=bg.append harg hc;refine⟨by simp,.inr ⟨fun h=>by simp[Fence.wide]at h,.func f,cap',f,dargs'++cap',rfl,?_,fun _ _=>trivial,?_⟩⟩;·
            show Sem.run P (callFunc f (dargs'++cap')) w=_;show Sem.run P (match P.funcs[f]? with|none=>_|some fn=>_) w=_;rw[hg0];dsimp only;rw[if_neg hn1,if_neg hn2];rfl
           ·refine(hd f _ A A1 h1 ρ w _ hg H hargs).mono fun e u w1 hh=>?_;obtain⟨rfl,ρ1,v1,rfl,H1,S1⟩:=hh;exact Kg
       |_=>cases h
def Db:Op→Bool
 |.call c=>match c.callee with
  |.builtin b=>b==.recover
  |_=>false
 |_=>false
def pO(P:Program)(C:ie)(G:Nat)(ops:Array Oper):List Nat→bG→AW→Option (bG×AW)
 |[],x,A=>some (x,A)
 |i::l,x,A=>match ops[i]? with
  |none=>none
  |some o=>if(iB G o&&!iU o.op)=true then(if dQ ops x o=true then match bO P (Ht P C (x.sev G) o) A with
   |some (nx,A1)=>match nx with
    |.value v=>pO P C G ops l (x.put o.dst v) A1
    |.skip=>pO P C G ops l (x.put o.dst undef) A1
    |.recover=>pO P C G ops l (x.put o.dst .nilIface) A1
    |_=>none
   |none=>none else pO P C G ops l (x.put o.dst undef) A)else none
def vb(outs:Option (List Out)):Option Out:=match outs with
 |some [z]=>some z
 |_=>none
def jN(P:Program)(C:ie)(G:Nat)(call:dC)(round:da)(L:Nat):Code→bG→AW→Option Out
 |.seq c d,x,A=>match jN P C G call round L c x A with
  |some (e,x1,A1)=>match e with
   |.normal=>jN P C G call round L d x1 A1
   |e=>some (e,x1,A1)
  |none=>none
 |.cond c t f,x,A=>match x.sev G c with
  |.bool b=>if b=true then jN P C G call round L t x A else jN P C G call round L f x A
  |_=>none
 |.region id ops draw,x,A=>if(!draw&&ops.toList.any fun o=>Db o.op)=true then match pO P C G ops (List.range ops.size) x A with
  |some (x1,A1)=>some (.normal,x1,A1)
  |none=>none else vb (eH P C G call round none L (.region id ops draw) x A)
 |c,x,A=>vb (eH P C G call round none L c x A)
theorem gE(hP:oG P C){ops:Array Oper}{cs:List Frame}(hcs:recoverD cs=none){Q:Exit→Act→List Frame→World→Prop}:∀{l:List Nat}{ρ:br}{x x2:bG}{A A2:AW},pO P C G ops l x A=some (x2,A2)→∀{a:Act}{w:World},Gl G ρ→cK ρ x a→bS ρ A w→ER ρ A w x2 A2 (fun a' w'=>Q .normal a' cs w')→wpOpsSIn Fence.wide 0 P ops Q l a cs w
 |[],ρ,x,x2,A,A2,e,a,w,hg,ha,H,hk=>by simp only[pO,Option.some.injEq,Prod.mk.injEq]at e;obtain⟨rfl,rfl⟩:=e;exact hk ρ a w ha H (.refl _ _ _)
 |i::l,ρ,x,x2,A,A2,e,a,w,hg,ha,H,hk=>by
   unfold pO at e;unfold wpOpsSIn;cases ho:ops[i]? with
   |none=>rw[ho]at e;cases e
   |some o=>
     rw[ho]at e;dsimp only at e⊢;refine⟨fun _ _=>trivial,?_⟩;split at e;case isFalse=>cases e
     rename_i hok;rw[Bool.and_eq_true]at hok;rw[rf ha];by_cases hw:dQ ops x o=true;·
      rw[if_pos hw]at e⊢;cases e1:bO P (Ht P C (x.sev G) o) A with
      |none=>rw[e1]at e;cases e
      |some y=>
        obtain⟨nx,A1⟩:=y;rw[e1]at e;obtain⟨ρ1,nx',w1,hrun,hN,H1,S1⟩:=(uT hP (jL hg ha) o).sound e1 H;rw[kS hok.1]at hrun;rw[hrun];have ha1:=ha.mono S1.le;cases hN with
        |value hv=>dsimp only at e⊢;exact gE hP hcs e (hg.mono S1.le) (ha1.put _ hv) H1 fun ρ2 a2 w2 h1 h2 h3=>hk ρ2 a2 w2 h1 h2 (S1.trans h3)
        |skip=>dsimp only at e⊢;exact gE hP hcs e (hg.mono S1.le) (ha1.put _ aX.undef) H1 fun ρ2 a2 w2 h1 h2 h3=>hk ρ2 a2 w2 h1 h2 (S1.trans h3)
        |recover=>dsimp only at e⊢;rw[hcs];exact gE hP hcs e (hg.mono S1.le) (ha1.put _ .nilIface) H1 fun ρ2 a2 w2 h1 h2 h3=>hk ρ2 a2 w2 h1 h2 (S1.trans h3)
        |enter h=>cases e
        |round h1 h2=>cases e
        |defer h=>cases e
        |other h=>
         cases nx<;>first|
          (simp[oB]at h;done)|cases e
     ·rw[if_neg hw]at e⊢;exact gE hP hcs e hg (ha.put _ aX.undef) H hk
theorem pP(E:gP P C G call round)(hm:P.follows .mixedOrders=true){L:Nat}{c:Code}{cs:List Frame}{ρ:br}{x x2:bG}{A A2:AW}{e:Hx}(h:vb (eH P C G call round none L c x A)=some (e,x2,A2)){a:Act}{w:World}{Q:Exit→Act→List Frame→World→Prop}(hg:Gl G ρ)(ha:cK ρ x a)(H:bS ρ A w)(hk:ER ρ A w x2 A2 (fun a' w'=>Q e.to a' cs w')):c.wpSIn Fence.wide 0 P Q a cs w:=by
 unfold vb at h;split at h;·
  rename_i z hz;cases h;refine wpSIn_of_wpIn rfl (iD (r:=none) (lr:=none) E hm c hz hg trivial ha H fun y hy=>?_);cases hy with
  |tail _ hy=>cases hy
  |head=>exact hk
 ·cases h
theorem xE(E:gP P C G call round)(hm:P.follows .mixedOrders=true){L:Nat}{cs:List Frame}(hcs:recoverD cs=none)(c:Code):∀{ρ:br}{x x2:bG}{A A2:AW}{e:Hx},jN P C G call round L c x A=some (e,x2,A2)→∀{a:Act}{w:World}{Q:Exit→Act→List Frame→World→Prop},Gl G ρ→cK ρ x a→bS ρ A w→ER ρ A w x2 A2 (fun a' w'=>Q e.to a' cs w')→c.wpSIn Fence.wide 0 P Q a cs w:=by
 induction c with
 |seq c d ihc ihd=>
   intro ρ x x2 A A2 e h a w Q hg ha H hk;unfold jN at h;split at h;case h_2=>cases h
   rename_i e1 x1 A1 h1;refine wpSIn_seq (ihc h1 hg ha H fun ρ' a' w' ha' H' S'=>?_);cases e1 with
   |normal=>exact ihd h (hg.mono S'.le) ha' H' fun ρ2 a2 w2 ha2 H2 S2=>hk ρ2 a2 w2 ha2 H2 (S'.trans S2)
   |exit id=>cases h;exact hk ρ' a' w' ha' H' S'
   |ret=>cases h;exact hk ρ' a' w' ha' H' S'
 |cond c t f iht ihf=>
   intro ρ x x2 A A2 e h a w Q hg ha H hk;unfold jN at h;split at h;case h_2=>cases h
   rename_i b hb;have hv:=jL hg ha c;rw[hb]at hv;have hc:a.eval c=.bool b:=by exact Kf
   refine wpSIn_cond hc ?_;cases b with
   |true=>rw[if_pos rfl]at h⊢;exact iht h hg ha H hk
   |false=>rw[if_neg (by simp)]at h⊢;exact ihf h hg ha H hk
 |region id ops draw=>
  intro ρ x x2 A A2 e h a w Q hg ha H hk;unfold jN at h;split at h;·
   rename_i hd;rw[Bool.and_eq_true]at hd;have hdf:draw=false:=by simpa using hd.1
   subst hdf;split at h;·rename_i x1 A1 h1;cases h;exact wpSIn_region (gE E.prog hcs h1 hg ha H hk)
   ·cases h
  ·exact pP E hm h hg ha H hk
 |_=>intro ρ x x2 A A2 e h a w Q hg ha H hk;exact pP E hm h hg ha H hk
def nE(P:Program)(dcall:jM)(fn:Func)(z:Out):Option (Value×AW):=match z.1 with
 |.exit _=>none
 |_=>rB P dcall fn z.2.1 z.2.1.df z.2.2
def nF(P:Program)(dcall:jM)(fn:Func):List Out→Option (List (Value×AW))
 |[]=>some []
 |z::l=>match nE P dcall fn z with
  |some r=>match nF P dcall fn l with
   |some rs=>some (r::rs)
   |none=>none
  |none=>none
theorem nG{dcall:jM}{fn:Func}:∀{l:List Out}{rs:List (Value×AW)},nF P dcall fn l=some rs→∀z∈l,∃r∈rs,nE P dcall fn z=some r
 |[],rs,h,z,hz=>by cases hz
 |y::l,rs,h,z,hz=>by
   unfold nF at h;split at h;case h_2=>cases h
   rename_i r hr;split at h;case h_2=>cases h
   rename_i rs' hrs;cases h;cases hz with
   |head=>exact⟨r,.head _,hr⟩
   |tail _ hz=>obtain⟨r',h1,h2⟩:=nG hrs z hz;exact⟨r',.tail _ h1,h2⟩
def vc(rs:List (Value×AW)):Nat:=rs.foldr (fun r n=>max r.2.nid n) 0
theorem tS:∀{rs:List (Value×AW)}{r:Value×AW},r∈rs→r.2.nid≤vc rs
 |_::_,_,.head _=>Nat.le_max_left _ _
 |_::_,_,.tail _ h=>Nat.le_trans (tS h) (Nat.le_max_right _ _)
def Kh(A:AW)(rs:List (Value×AW)):Option (Value×AW):=match rs with
 |[]=>none
 |r::l=>if(bP r.1&&l.all (fun z=>nz r.1 z.1)&&decide (A.nid≤vc (r::l))&&decide (vc (r::l)≤A.stop))=true then some (r.1,{A with nid:=vc (r::l)})else none
def vd(P:Program)(C:ie)(G:Nat)(call:dC)(round:da)(L:Nat)(dcall:jM)(f:FuncId)(args:Array Value)(A:AW):Option (Value×AW):=match P.funcs[f]? with
 |some fn=>match fn.body with
  |some c=>if args.size+(fn.ntmps-args.size)≤jo then if(C.pure f&&decide (A.ro≤A.nid)&&decide (A.stop=jo))=true then match eH P C G call round none L c (bG.ofArr args fn.ntmps) {A with ro:=A.nid}with
   |some outs=>match nF P dcall fn outs with
    |some rs=>Kh A rs
    |none=>none
   |none=>none else match eH P C G call round none L c (bG.ofArr args fn.ntmps) A with
   |some outs=>match outs with
    |[z]=>nE P dcall fn z
    |_=>none
   |none=>none else none
  |none=>none
 |none=>none
def qv(P:Program)(C:ie)(G:Nat)(call:dC)(round:da)(L:Nat)(f:FuncId)(args:Array Value)(A:AW):Option AW:=match P.funcs[f]? with
 |some fn=>match fn.body with
  |some c=>if args.size+(fn.ntmps-args.size)≤jo then match jN P C G call round L c (bG.ofArr args fn.ntmps) A with
   |some (e,x,A1)=>match e with
    |.exit _=>none
    |_=>match x.df with
     |[]=>match bO P (kV fn x) A1 with
      |some (_,A2)=>some A2
      |none=>none
     |_=>none
   |none=>none else none
  |none=>none
 |none=>none
def ve(P:Program)(C:ie)(G:Nat)(call:dC)(round:da)(L:Nat)(l:Nat)(tmps:Array Value)(as b:Code)(A:AW):Option (Value×AW):=if tmps.size+(0-tmps.size)≤jo then match eH P C G call round (some l) L as (bG.ofArr tmps 0) A with
 |some [(.normal,x1,A1)]=>match bO P (Instr.beginRound l) A1 with
  |some (_,A2)=>match eH P C G call round (some l) L b x1 A2 with
   |some [(e,_,A3)]=>bO P (Instr.endRound l e.jump) A3
   |_=>none
  |none=>none
 |_=>none else none
theorem Dc{ρ ρ':br}{A A1:AW}{w w':World}{N:Nat}(H:bS ρ A w)(hro:A.ro≤A.nid)(hst:A.stop=jo)(H1:bS ρ' A1 w')(S:Step ρ {A with ro:=A.nid} w ρ' A1 w')(h1:A1.nid≤N)(h2:N≤A.stop)(h3:A.nid≤N):bS ρ' {A with nid:=N} w'∧Step ρ A w ρ' {A with nid:=N} w':=by
 have low:∀k o,A.get k=some o→k<A.nid:=fun k o h=>by
  by_cases hk:k<A.nid;·exact hk
  ·have:=H.low k o h;rw[H.dead (by omega) (by omega)]at h;cases h
 have same:∀k o,A.get k=some o→A1.get k=some o:=fun k o h=>by rw[S.keep k (low k o h) (.inl (low k o h))];exact h
 refine⟨H1.sub same (fun k g1 g2=>H1.none k (Nat.le_trans h1 g1) (by rw[S.stop];exact g2)) ⟨h2,H.ids.2⟩,?_⟩;refine⟨h3,rfl,rfl,S.le,fun k hk=>S.agree k (hk.imp id fun g=>Nat.le_trans h1 g),fun _ _ _=>rfl,fun b hb h=>S.frame b hb fun k o p g1 g2 g3=>?_,S.size,fun k o p g1 g2=> .inr (.inr ⟨rfl,?_⟩),S.tape,S.os,S.out⟩;·exact h k o p (Nat.le_trans hro g1) g2 g3
 ·obtain⟨q,_,q1,_⟩:=H.obj k o g1;rw[S.le _ _ q1]at g2;cases g2;exact q1
theorem kX{dcall:jM}(hd:qu P G dcall){fn:Func}{z:Out}{A2:AW}{v:Value}(h:nE P dcall fn z=some (v,A2)){ρ:br}{a:Act}{w:World}(hg:Gl G ρ)(ha:cK ρ z.2.1 a)(H:bS ρ z.2.2 w){R:Ending→World→Prop}(hR:∀ρ' v' w',aX ρ' v v'→bS ρ' A2 w'→Step ρ z.2.2 w ρ' A2 w'→R (.returned v') w'):bodyPostM Fence.wide 0 P fn R z.1.to a w:=by
 obtain⟨e,x,A1⟩:=z;cases e with
 |normal=>exact kW hd h hg ha.tm H ha.df hR
 |exit _=>cases h
 |ret=>exact kW hd h hg ha.tm H ha.df hR
theorem ET(E:gP P C G call round)(hm:P.follows .mixedOrders=true){L:Nat}{dcall:jM}(hd:qu P G dcall):uU P G (vd P C G call round L dcall):=by
 intro f args A v A2 h ρ w args' hg H ha;unfold vd at h;split at h;case h_2=>cases h
 rename_i fn hf;split at h;case h_2=>cases h
 rename_i c hb;split at h;case isFalse=>cases h
 rename_i hn;split at h;·
  rename_i hp;simp only[Bool.and_eq_true,decide_eq_true_eq]at hp;obtain⟨⟨_,hro⟩,hst⟩:=hp;split at h;case h_2=>cases h
  rename_i outs h1;split at h;case h_2=>cases h
  rename_i rs hrs;have H0:bS ρ {A with ro:=A.nid} w:=H.same (fun _=>rfl) rfl rfl;refine callsIn_of_wp_marks hf hb trivial (iD (r:=none) (lr:=none) E hm c h1 hg trivial (lL ha fn.ntmps hn) H0 fun z hz ρ1 a1 w1 ha1 H1 S1=>?_);obtain⟨⟨v1,A3⟩,hr1,hr2⟩:=nG hrs z hz;refine kX hd hr2 (hg.mono S1.le) ha1 H1 fun ρ' v' w' h2 h3 h4=>?_;unfold Kh at h;split at h;·cases h
  rename_i r l;split at h;case isFalse=>cases h
  rename_i hc;simp only[Bool.and_eq_true,decide_eq_true_eq]at hc;obtain⟨⟨⟨_,hc2⟩,hc3⟩,hc4⟩:=hc;cases h;have hv1:v1=r.1:=by
   cases hr1 with
   |head=>rfl
   |tail _ hm=>exact(mK _ _ ((List.all_eq_true.1 hc2) _ hm)).symm
  obtain⟨g1,g2⟩:=Dc H hro hst h3 (S1.trans h4) (tS hr1) hc4 hc3;exact⟨ρ',v',rfl,by rw[←hv1];exact h2,g1,g2⟩
 ·
  split at h;case h_2=>cases h
  rename_i outs h1;split at h;case h_2=>cases h
  rename_i z;refine callsIn_of_wp_marks hf hb trivial (iD (r:=none) (lr:=none) E hm c h1 hg trivial (lL ha fn.ntmps hn) H fun y hy ρ1 a1 w1 ha1 H1 S1=>?_);cases hy with
  |tail _ hy=>cases hy
  |head=>exact kX hd h (hg.mono S1.le) ha1 H1 fun ρ' v' w' h2 h3 h4=>⟨ρ',v',rfl,h2,h3,S1.trans h4⟩
theorem Dd(E:gP P C G call round)(hm:P.follows .mixedOrders=true){L:Nat}:qu P G (qv P C G call round L):=by
 intro f args A A2 h ρ w args' hg H ha;unfold qv at h;split at h;case h_2=>cases h
 rename_i fn hf;split at h;case h_2=>cases h
 rename_i c hb;split at h;case isFalse=>cases h
 rename_i hn;split at h;case h_2=>cases h
 rename_i e x A1 h1;refine callsDIn_of_wpSIn hf hb trivial fun c₀ cs hu=>?_;have hcs:recoverD (c₀::cs)=none:=by unfold recoverD;dsimp only;rw[hu]
 refine xE E hm hcs c h1 hg (lL ha fn.ntmps hn) H fun ρ1 a1 w1 ha1 H1 S1=>?_;have key:(match x.df with
 |[]=>match bO P (kV fn x) A1 with
  |some (_,A2)=>some A2
  |none=>none
 |_=>none)=some A2→a1.defers=[]∧∃u',c₀::cs={c₀ with mode:=u'}::cs∧∃v,(results fn a1.tmps).run P w1=.ok v w1∧u'=.returning∧(∃ρ' v',Ending.returned v=.returned v'∧bS ρ' A2 w1∧Step ρ A w ρ' A2 w1):=fun h=>by
  have hdf:=ha1.df;cases hx:x.df with
  |cons _ _=>rw[hx]at h;cases h
  |nil=>rw[hx]at h hdf;cases hd:a1.defers with
         |cons _ _=>rw[hd]at hdf;cases hdf
         |nil=>
          refine⟨rfl,.returning,by rw[←hu],?_⟩;dsimp only at h;split at h;·rename_i u A3 h2;cases h;obtain⟨ρ2,v2,g1,_,g3,g4⟩:=ml h2 ha1.tm H1;exact⟨v2,g1,rfl,ρ2,v2,rfl,g3,S1.trans g4⟩
          ·cases h
 cases e with
 |normal=>exact key h
 |exit _=>cases h
 |ret=>exact key h
theorem De(E:gP P C G call round)(hm:P.follows .mixedOrders=true){L:Nat}:Bg P G (ve P C G call round L):=by
 intro l tmps as b A v A2 h ρ w l' f tmps' hg H hl ha;unfold ve at h;split at h;case isFalse=>cases h
 rename_i hn;split at h;case h_2=>cases h
 rename_i x1 A1 h1;split at h;case h_2=>cases h
 rename_i u A3 h2;split at h;case h_2=>cases h
 rename_i e x2 A4 h3;have hrel:=lL ha 0 hn;have e0:(0:Nat)-tmps'.size=0:=by omega
 rw[e0]at hrel;have e1:tmps'++Array.replicate 0 undef=tmps':=by simp
 rw[e1]at hrel;refine roundIn_of_wpIn (F:=Fence.wide) trivial (iD (r:=some l') (lr:=some l) E hm as h1 hg hl hrel H fun y hy ρ1 a1 w1 ha1 H1 S1=>?_);cases hy with
 |tail _ hy=>cases hy
 |head=>obtain⟨ρ2,_,w2,hrun2,_,H2,S2⟩:=(ry (hl.mono S1.le)).sound h2 H1;refine⟨w2,hrun2,iD (r:=some l') (lr:=some l) E hm b h3 ((hg.mono S1.le).mono S2.le) ((hl.mono S1.le).mono S2.le) (ha1.mono S2.le) H2 fun y hy ρ3 a3 w3 ha3 H3 S3=>?_⟩;cases hy with
         |tail _ hy=>cases hy
         |head=>obtain⟨ρ4,v4,w4,hrun4,hv4,H4,S4⟩:=(u_ (((hl.mono S1.le).mono S2.le).mono S3.le) e.jump).sound h H3;have fin:∃v0 w',(Instr.endRound l' e.jump).run P w3=.ok v0 w'∧(∃ρ' v',Ending.returned v0=.returned v'∧aX ρ' v v'∧bS ρ' A2 w'∧Step ρ A w ρ' A2 w'):=⟨v4,w4,hrun4,ρ4,v4,rfl,hv4,H4,((S1.trans S2).trans S3).trans S4⟩;cases e with
                 |normal=>exact fin
                 |exit id=>exact fin
                 |ret=>exact fin
def Df(P:Program)(C:ie)(G L:Nat)(memo:dC):Nat→dC×da
 |0=>(memo,fun _ _ _ _ _=>none)
 |d+1=>(fun f args A=>match memo f args A with
  |some r=>some r
  |none=>vd P C G (Df P C G L memo d).1 (Df P C G L memo d).2 L (qv P C G (Df P C G L memo d).1 (Df P C G L memo d).2 L) f args A,ve P C G (Df P C G L memo d).1 (Df P C G L memo d).2 L)
theorem EU(hP:oG P C)(hm:P.follows .mixedOrders=true){L:Nat}{memo:dC}(hmemo:uU P G memo):∀d,gP P C G (Df P C G L memo d).1 (Df P C G L memo d).2
 |0=>⟨hP,hmemo,fun l tmps as b A v A2 h=>by cases h⟩
 |d+1=>by
   have ih:=EU hP hm (L:=L) hmemo d;refine⟨hP,fun f args A v A2 h=>?_,De ih hm⟩;have h':(match memo f args A with
   |some r=>some r
   |none=>vd P C G (Df P C G L memo d).1 (Df P C G L memo d).2 L (qv P C G (Df P C G L memo d).1 (Df P C G L memo d).2 L) f args A)=some (v,A2):=h;split at h';·rename_i r hr;cases h';exact hmemo f args A v A2 hr
   ·exact ET ih hm (Dd ih hm) f args A v A2 h'
end Go.Proofs.Eng
end
section
set_option linter.unusedSimpArgs false
set_option linter.unusedVariables false
namespace Go.Proofs.Eng
variable{P:Program}{C:ie}{G:Nat}
def gF:List (Nat×Obj)→Tr Obj→Tr Obj
 |[],t=>t
 |z::l,t=>(gF l t).set 21 z.1 (some z.2)
def rC:List (Nat×Obj)→Tr Obj→Tr Obj
 |[],t=>t
 |z::l,t=>(rC l t).set 21 z.1 none
def qg(l:List (Nat×Obj)):Bool:=l.all fun z=>decide (z.1<jo)
theorem tT (j : Nat) : ∀ {l : List (Nat × Obj)}, qg l = true → ∀ (t : Tr Obj), (gF l t).get j = match (gF l .leaf).get j with
    | some o => some o
    | none => t.get j
  | [], _, t => rfl
  | z :: l, h, t => by
    unfold qg at h
    simp only [List.all_cons, Bool.and_eq_true, decide_eq_true_eq] at h
    unfold gF
    rw [Tr.get_set _ _ _ _ _ (gi h.1), Tr.get_set _ _ _ _ _ (gi h.1)]
    by_cases hj : j = z.1
    · rw [if_pos hj, if_pos hj]
    · rw [if_neg hj, if_neg hj]
      exact tT j h.2 t
theorem fY(j:Nat)(o:Obj):∀{l:List (Nat×Obj)},qg l=true→(gF l .leaf).get j=some o→(j,o)∈l
 |[],_,h=>by rw[gF,Tr.get_leaf]at h;cases h
 |z::l,hl,h=>by
  unfold qg at hl;simp only[List.all_cons,Bool.and_eq_true,decide_eq_true_eq]at hl;unfold gF at h;rw[Tr.get_set _ _ _ _ _ (gi hl.1)]at h;by_cases hj:j=z.1;·rw[if_pos hj]at h;cases h;rw[hj];exact .head _
  ·rw[if_neg hj]at h;exact .tail _ (fY j o hl.2 h)
theorem rD (j : Nat) : ∀ {l : List (Nat × Obj)}, qg l = true → ∀ (t : Tr Obj), (rC l t).get j = match (gF l .leaf).get j with
    | some _ => none
    | none => t.get j
  | [], _, t => rfl
  | z :: l, h, t => by
    unfold qg at h
    simp only [List.all_cons, Bool.and_eq_true, decide_eq_true_eq] at h
    unfold rC gF
    rw [Tr.get_set _ _ _ _ _ (gi h.1), Tr.get_set _ _ _ _ _ (gi h.1)]
    by_cases hj : j = z.1
    · rw [if_pos hj, if_pos hj]
    · rw [if_neg hj, if_neg hj]
      exact rD j h.2 t
structure cj where
 f:FuncId
 args:List Value
 pre:List (Nat×Obj)
 nid:Nat
 v:Value
 post:List (Nat×Obj)
 nid':Nat
def cX(l:List (Nat×Obj))(n:Nat):AW:=⟨gF l .leaf,n,jo,0⟩
def cE(P:Program)(G:Nat)(m:cj):Prop:=∀ρ w args',Gl G ρ→bS ρ (cX m.pre m.nid) w→bg ρ ⟨m.args⟩ args'→CallsIn Fence.wide 0 P m.f args' w fun e w'=>∃ρ' v',e=.returned v'∧aX ρ' m.v v'∧bS ρ' (cX m.post m.nid') w'∧Step ρ (cX m.pre m.nid) w ρ' (cX m.post m.nid') w'
def cj.fits(m:cj):Bool:=qg m.pre&&qg m.post&&m.post.all (fun z=>((gF m.pre .leaf).get z.1).isSome||decide (m.nid≤z.1))
def cj.at(m:cj)(f:FuncId)(args:Array Value)(A:AW):Bool:=decide (f=m.f)&&(decide (A.nid=m.nid)&&decide (A.stop=jo)&&decide (A.ro=0)&&qd args.toList m.args&&m.pre.all fun z=>match A.get z.1 with
 |some o=>Oy o z.2
 |none=>false)
def cj.to(m:cj)(A:AW):AW:={A with heap:=gF m.post (rC m.pre A.heap),nid:=m.nid'}
def qw:List cj→dC
 |[],_,_,_=>none
 |m::l,f,args,A=>if m.at f args A=true then some (m.v,m.to A)else qw l f args A
theorem Ki{P:Prop}(h:P:=by
 dsimp only at this;split at this;·rename_i o2 ho2;rw[ho2,EF _ _ this]
 ·cases this):P:=h
theorem rE:∀{ms:List cj},(∀m∈ms,m.fits=true∧cE P G m)→uU P G (qw ms)
 |[],_=>fun f args A v A2 h=>by cases h
 |m::l,hm=>fun f args A v A2 h ρ w args' hg H ha=>by
   unfold qw at h;split at h;·
    rename_i hat;cases h;obtain⟨hfit,hok⟩:=hm m (.head _);unfold cj.fits at hfit;simp only[Bool.and_eq_true]at hfit;obtain⟨⟨hl1,hl2⟩,hl3⟩:=hfit;unfold cj.at at hat;simp only[Bool.and_eq_true,decide_eq_true_eq]at hat;obtain⟨hf,⟨⟨⟨hn,hst⟩,hro⟩,hv⟩,hpre⟩:=hat;subst hf;have hargs:args=⟨m.args⟩:=by obtain⟨args⟩:=args;have:args=m.args:=iV _ _ hv;rw[this]
    subst hargs;have hsub:∀j o,(cX m.pre m.nid).get j=some o→A.get j=some o:=fun j o hj=>by have hmem:=fY j o hl1 hj;have:=(List.all_eq_true.1 hpre) _ hmem;exact Ki
    have HG:bS ρ (cX m.pre m.nid) w:=H.sub hsub (fun k h1 h2=>H.none k (by rw[hn];exact h1) (by rw[hst];exact h2)) (by have:=H.ids;rw[hn,hst]at this;exact this);refine(hok ρ w args' hg HG ha).mono fun e w' hh=>?_;obtain⟨ρ',v',rfl,hv',H',S'⟩:=hh;refine⟨ρ',v',rfl,hv',?_⟩;have key:=tP (T:=A) (T':=m.to A) H hsub hn.symm hst.symm hro.symm H' S' (fun j=>?_) rfl (by show A.stop=_;exact hst) (by show A.ro=_;exact hro);·exact⟨key.1,key.2.1⟩
    ·show(gF m.post (rC m.pre A.heap)).get j=_;rw[tT j hl2,rD j hl1];show _=if(A.get j).isSome=true∧(gF m.pre .leaf).get j=none then A.get j else(gF m.post .leaf).get j;cases hpost:(gF m.post .leaf).get j with
      |some o=>
        dsimp only;rw[if_neg];rintro⟨h1,h2⟩;have hmem:=fY j o hl2 hpost;have:=(List.all_eq_true.1 hl3) _ hmem;simp only[h2,Option.isSome_none,Bool.false_or,decide_eq_true_eq]at this;cases hA:A.get j with
        |none=>rw[hA]at h1;cases h1
        |some o2=>
         have hlow:=H.low j o2 hA;rw[H.dead (by rw[hn];exact this) (by rw[hst];exact hlow)]at hA;cases hA
      |none=>dsimp only;cases hp:(gF m.pre .leaf).get j with
              |some o=>rw[if_neg (by simp)]
              |none=>cases hA:A.get j with
                      |none=>simp only[Option.isSome_none,Bool.false_eq_true,false_and,if_false];exact hA
                      |some o2=>simp only[Option.isSome_some,and_self,if_true];exact hA
   ·exact rE (fun m' hm'=>hm m' (.tail _ hm')) f args A v A2 h ρ w args' hg H ha
def b_(P:Program)(C:ie)(G L:Nat)(ms:List cj)(d:Nat)(m:cj):Bool:=m.fits&&decide (m.nid'≤jo)&&match(Df P C G L (qw ms) d).1 m.f ⟨m.args⟩ (cX m.pre m.nid)with
 |some (v,A2)=>nz v m.v&&decide (A2.nid≤m.nid')&&m.post.all fun z=>match A2.get z.1 with
  |some o=>Oy o z.2
  |none=>false
 |none=>false
theorem cr(hP:oG P C)(hm:P.follows .mixedOrders=true){L d:Nat}{ms:List cj}(hms:∀m∈ms,m.fits=true∧cE P G m){m:cj}(h:b_ P C G L ms d m=true):m.fits=true∧cE P G m:=by
 unfold b_ at h;simp only[Bool.and_eq_true,decide_eq_true_eq]at h;obtain⟨⟨hfit,hlim⟩,h⟩:=h;refine⟨hfit,fun ρ w args' hg H ha=>?_⟩;unfold cj.fits at hfit;simp only[Bool.and_eq_true]at hfit;obtain⟨⟨hl1,hl2⟩,hl3⟩:=hfit;split at h;case h_2=>cases h
 rename_i v A2 he;simp only[Bool.and_eq_true,decide_eq_true_eq]at h;obtain⟨⟨hv,hn⟩,hpost⟩:=h;refine((EU hP hm (L:=L) (rE hms) d).call m.f ⟨m.args⟩ _ v A2 he ρ w args' hg H ha).mono fun e w' hh=>?_;obtain⟨ρ',v',rfl,hv',H',S'⟩:=hh;have hsub:∀j o,(cX m.post m.nid').get j=some o→A2.get j=some o:=fun j o hj=>by have hmem:=fY j o hl2 hj;have:=(List.all_eq_true.1 hpost) _ hmem;exact Ki
 have hst:A2.stop=jo:=S'.stop;have hro:A2.ro=0:=S'.ro;refine⟨ρ',v',rfl,by rw[←mK _ _ hv];exact hv',H'.sub hsub (fun k h1 h2=>H'.none k (Nat.le_trans hn h1) (by rw[hst];exact h2)) ⟨hlim,Nat.le_refl _⟩,?_⟩;refine⟨Nat.le_trans S'.nid hn,rfl,rfl,S'.le,fun k hk=>S'.agree k (hk.imp id fun g=>Nat.le_trans hn g),fun k hk=>absurd hk (Nat.not_lt_zero _),S'.frame,S'.size,fun k o p hg hp=>?_,S'.tape,S'.os,S'.out⟩;rcases S'.fresh k o p (hsub k o hg) hp with h1|h1|⟨h1,h2⟩;·exact .inl h1
 ·exact .inr (.inl h1)
 ·refine .inr (.inr ⟨?_,h2⟩);rw[hg,←h1,hsub k o hg]
end Go.Proofs.Eng
end
