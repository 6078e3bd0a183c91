/- The engine for closed runs, first part: abstract worlds, the relation of a real world to them, steps. -/
import Derived.WalkKit
import Derived.Deep.Draws
section
namespace Go.Proofs.Eng
inductive Tr(α:Type)where|leaf|node(l:Tr α)(v:Option α)(r:Tr α)
namespace Tr
variable{α:Type}
def get:Tr α→Nat→Option α
 |leaf,_=>none
 |node l v r,k=>match Nat.beq k 0 with
  |true=>v
  |false=>match Nat.beq (Nat.mod k 2) 1 with
   |true=>l.get (Nat.div k 2)
   |false=>r.get (Nat.sub (Nat.div k 2) 1)
def set:Nat→Tr α→Nat→Option α→Tr α
 |0,t,_,_=>t
 |f+1,t,k,x=>match t with
  |leaf=>match Nat.beq k 0 with
   |true=>node leaf x leaf
   |false=>match Nat.beq (Nat.mod k 2) 1 with
    |true=>node (set f leaf (Nat.div k 2) x) none leaf
    |false=>node leaf none (set f leaf (Nat.sub (Nat.div k 2) 1) x)
  |node l v r=>match Nat.beq k 0 with
   |true=>node l x r
   |false=>match Nat.beq (Nat.mod k 2) 1 with
    |true=>node (set f l (Nat.div k 2) x) v r
    |false=>node l v (set f r (Nat.sub (Nat.div k 2) 1) x)
theorem oA{β:Type}(a b:Nat)(x y:β):(match Nat.beq a b with|true=>x|false=>y)=if a=b then x else y:=by
 cases h:Nat.beq a b with
 |true=>rw[if_pos (Nat.eq_of_beq_eq_true h)]
 |false=>rw[if_neg (Nat.ne_of_beq_eq_false h)]
theorem iv(l:Tr α)(v:Option α)(r:Tr α)(k:Nat):(node l v r).get k=if k=0 then v else if k%2=1 then l.get (k / 2)else r.get (k / 2-1):=by rw[get,oA,oA];rfl
theorem El(f k:Nat)(x:Option α):set (f+1) leaf k x=if k=0 then node leaf x leaf else if k%2=1 then node (set f leaf (k / 2) x) none leaf else node leaf none (set f leaf (k / 2-1) x):=by rw[set,oA,oA];rfl
theorem wH(f:Nat)(l:Tr α)(v:Option α)(r:Tr α)(k:Nat)(x:Option α):set (f+1) (node l v r) k x=if k=0 then node l x r else if k%2=1 then node (set f l (k / 2) x) v r else node l v (set f r (k / 2-1) x):=by rw[set,oA,oA];rfl
theorem get_leaf(k:Nat):(leaf:Tr α).get k=none:=rfl
theorem get_set:∀(f:Nat)(t:Tr α)(k:Nat)(x:Option α)(j:Nat),k+2≤2^f→(set f t k x).get j=if j=k then x else t.get j
 |0,_,k,_,_,h=>by simp at h
 |f+1,t,k,x,j,h=>by
   have hp:2^(f+1)=2*2^f:=by rw[Nat.pow_succ];omega
   rw[hp]at h;have g1:k%2=1→k / 2+2≤2^f:=fun _=>by omega
   have g2:k≠0→k%2≠1→k / 2-1+2≤2^f:=fun _ _=>by omega
   have old:∀(l r:Tr α)(v:Option α),t.get j=(node l v r).get j→set (f+1) t k x=set (f+1) (node l v r) k x→(set (f+1) t k x).get j=if j=k then x else t.get j:=by
    intro l r v e1 e2;rw[e1,e2,wH];by_cases h0:k=0;·
     subst h0;rw[if_pos rfl,iv,iv];by_cases hj:j=0;·simp[hj]
     ·simp[hj]
    ·
     rw[if_neg h0];by_cases h1:k%2=1;·
      rw[if_pos h1,iv,iv];by_cases hj:j=0;·subst hj;simp[Ne.symm h0]
      ·
       by_cases hj1:j%2=1;·
        simp only[hj,hj1,if_false,if_true,get_set f l (k / 2) x (j / 2) (g1 h1)];by_cases e:j / 2=k / 2;·
         have:j=k:=by omega
         simp[this]
        ·have:j≠k:=fun e2=>e (by rw[e2]);simp[e,this]
       ·have:j≠k:=fun e2=>hj1 (by rw[e2];exact h1);simp[hj,hj1,this]
     ·
      rw[if_neg h1,iv,iv];by_cases hj:j=0;·subst hj;simp[Ne.symm h0]
      ·
       by_cases hj1:j%2=1;·
        have:j≠k:=fun e2=>h1 (by rw[←e2];exact hj1);simp[hj,hj1,this]
       ·
        simp only[hj,hj1,if_false,get_set f r (k / 2-1) x (j / 2-1) (g2 h0 h1)];by_cases e:j / 2-1=k / 2-1;·
         have:j=k:=by omega
         simp[this]
        ·have:j≠k:=fun e2=>e (by rw[e2]);simp[e,this]
   cases t with
   |leaf=>
    refine old leaf leaf none ?_ ?_;·rw[iv,get_leaf,get_leaf,get_leaf];simp
    ·rw[El,wH]
   |node l v r=>exact old l r v rfl rfl
end Tr
structure AW where
 heap:Tr Obj
 nid:Nat
 stop:Nat
 ro:Nat
def jo:Nat:=1000000
theorem gi{k:Nat}(h:k<jo):k+2≤2^21:=by unfold jo at h;omega
namespace AW
def get(A:AW)(i:Nat):Option Obj:=A.heap.get i
def put(A:AW)(i:Nat)(o:Obj):AW:={A with heap:=A.heap.set 21 i (some o)}
def push(A:AW)(o:Obj):AW:={A with heap:=A.heap.set 21 A.nid (some o),nid:=A.nid+1}
def kill(A:AW)(i:Nat):AW:={A with heap:=A.heap.set 21 i none}
theorem get_put{A:AW}{i:Nat}{o:Obj}(h:i<jo)(j:Nat):(A.put i o).get j=if j=i then some o else A.get j:=Tr.get_set _ _ _ _ _ (gi h)
theorem get_push{A:AW}{o:Obj}(h:A.nid<jo)(j:Nat):(A.push o).get j=if j=A.nid then some o else A.get j:=Tr.get_set _ _ _ _ _ (gi h)
theorem get_kill{A:AW}{i:Nat}(h:i<jo)(j:Nat):(A.kill i).get j=if j=i then none else A.get j:=Tr.get_set _ _ _ _ _ (gi h)
end AW
structure Pos where
 b:Nat
 s:Nat
 top:Nat
 e:Nat
abbrev br:=Nat→Option Pos
def br.le(ρ ρ':br):Prop:=∀i p,ρ i=some p→ρ' i=some p
theorem br.le.refl(ρ:br):ρ.le ρ:=fun _ _ h=>h
theorem br.le.trans{a b c:br}(h:a.le b)(h':b.le c):a.le c:=fun i p e=>h' i p (h i p e)
def dM:Nat:=1180591620717411303424
def dE(ρ:br)(a a':Addr):Prop:=a.spot=none∧∃p,ρ a.block=some p∧a'=⟨p.b,p.s+a.off,none⟩
theorem dE.mono{ρ ρ':br}(h:ρ.le ρ'){a a':Addr}(r:dE ρ a a'):dE ρ' a a':=by obtain⟨h1,p,h2,h3⟩:=r;exact⟨h1,p,h _ _ h2,h3⟩
theorem dE.add{ρ:br}{a a':Addr}(r:dE ρ a a')(n:Nat):dE ρ (a.add n) (a'.add n):=by
 obtain⟨h1,p,h2,rfl⟩:=r;unfold Addr.add;by_cases hn:n=0;·simp only[hn,if_true];exact⟨h1,p,h2,rfl⟩
 ·simp only[hn,if_false];exact⟨rfl,p,h2,by simp[Nat.add_assoc]⟩
def gx(ρ:br)(r r':Nat):Prop:=∃p,ρ r=some p∧p.b=r'∧p.s=0
theorem gx.mono{ρ ρ':br}(h:ρ.le ρ'){r r':Nat}(x:gx ρ r r'):gx ρ' r r':=let⟨p,h1,h2⟩:=x;⟨p,h _ _ h1,h2⟩
def Em(ρ:br)(a a':Addr)(n c c':Nat):Prop:=(c=c'∧c<dM)∨(dM≤c∧n≤c'∧∃p,ρ a.block=some p∧a'.off+c'*(c-dM)≤p.top)
theorem Em.mono{ρ ρ':br}(h:ρ.le ρ'){a a':Addr}{n c c':Nat}(x:Em ρ a a' n c c'):Em ρ' a a' n c c':=x.imp id fun⟨h1,h2,p,h3,h4⟩=>⟨h1,h2,p,h _ _ h3,h4⟩
inductive iw(ρ:br):Fn→Fn→Prop|func(f:FuncId):iw ρ (.func f) (.func f)|method(n:String):iw ρ (.method n) (.method n)|methodOf(t:TypeId)(n:String):iw ρ (.methodOf t n) (.methodOf t n)|via(t:TypeId)(p:Array FieldStep)(f:FuncId)(q:Bool):iw ρ (.via t p f q) (.via t p f q)|yield{l l':Nat}(h:gx ρ l l'):iw ρ (.yield l) (.yield l')
mutual
inductive aX(ρ:br):Value→Value→Prop|bool(b:Bool):aX ρ (.bool b) (.bool b)|int(k:IntKind)(n:Int):aX ρ (.int k n) (.int k n)|float(k:FloatKind)(n:Nat):aX ρ (.float k n) (.float k n)|complex(k:FloatKind)(n m:Nat):aX ρ (.complex k n m) (.complex k n m)|string(s:ByteArray):aX ρ (.string s) (.string s)|ptrNone:aX ρ (.pointer none) (.pointer none)|ptr{a a':Addr}(h:dE ρ a a'):aX ρ (.pointer (some a)) (.pointer (some a'))|sliceNone(n c:Nat):aX ρ (.slice none n c) (.slice none n c)|slice{a a':Addr}{n c c':Nat}(h:dE ρ a a')(hc:Em ρ a a' n c c'):aX ρ (.slice (some a) n c) (.slice (some a') n c')|mapNone:aX ρ (.map none) (.map none)|map{r r':Nat}(h:gx ρ r r'):aX ρ (.map (some r)) (.map (some r'))|chanNone:aX ρ (.chan none) (.chan none)|func{f f':Fn}{x x' y y':Array Value}(h:iw ρ f f')(hx:bD ρ x.toList x'.toList)(hy:bD ρ y.toList y'.toList):aX ρ (.func f x y) (.func f' x' y')|nilFunc:aX ρ .nilFunc .nilFunc|iface(t:TypeId){v v':Value}(h:aX ρ v v'):aX ρ (.iface t v) (.iface t v')|nilIface:aX ρ .nilIface .nilIface|agg{x x':Array Value}(h:bD ρ x.toList x'.toList):aX ρ (.agg x) (.agg x')|tuple{x x':Array Value}(h:bD ρ x.toList x'.toList):aX ρ (.tuple x) (.tuple x')
inductive bD(ρ:br):List Value→List Value→Prop|nil:bD ρ [] []|cons{v v':Value}{l l':List Value}(h:aX ρ v v')(t:bD ρ l l'):bD ρ (v::l) (v'::l')
end
theorem iw.mono{ρ ρ':br}(h:ρ.le ρ'){f f':Fn}(r:iw ρ f f'):iw ρ' f f':=by
 cases r with
 |func f=>exact .func f
 |method n=>exact .method n
 |methodOf t n=>exact .methodOf t n
 |via t p f q=>exact .via t p f q
 |yield e=>exact .yield (e.mono h)
mutual
theorem aX.mono{ρ ρ':br}(h:ρ.le ρ'){v v':Value}:aX ρ v v'→aX ρ' v v'
 |.bool b=> .bool b
 |.int k n=> .int k n
 |.float k n=> .float k n
 |.complex k n m=> .complex k n m
 |.string s=> .string s
 |.ptrNone=> .ptrNone
 |.ptr e=> .ptr (e.mono h)
 |.sliceNone n c=> .sliceNone n c
 |.slice e c=> .slice (e.mono h) (c.mono h)
 |.mapNone=> .mapNone
 |.map e=> .map (e.mono h)
 |.chanNone=> .chanNone
 |.func e x y=> .func (e.mono h) (x.mono h) (y.mono h)
 |.nilFunc=> .nilFunc
 |.iface t e=> .iface t (e.mono h)
 |.nilIface=> .nilIface
 |.agg e=> .agg (e.mono h)
 |.tuple e=> .tuple (e.mono h)
theorem bD.mono{ρ ρ':br}(h:ρ.le ρ'){l l':List Value}:bD ρ l l'→bD ρ' l l'
 |.nil=> .nil
 |.cons e t=> .cons (e.mono h) (t.mono h)
end
theorem bD.length{ρ:br}:∀{l l':List Value},bD ρ l l'→l.length=l'.length
 |_,_,.nil=>rfl
 |_,_,.cons _ t=>by simp[t.length]
theorem bD.get?{ρ:br}:∀{l l':List Value},bD ρ l l'→∀(i:Nat)(v:Value),l[i]?=some v→∃v',l'[i]?=some v'∧aX ρ v v'
 |_,_,.nil,i,v,h=>by simp at h
 |_,_,.cons e t,0,v,h=>by simp at h;subst h;exact⟨_,by simp,e⟩
 |_,_,.cons e t,i+1,v,h=>by simp at h;simpa using t.get? i v h
theorem bD.of_get{ρ:br}:∀{l l':List Value},l.length=l'.length→(∀(i:Nat)(v v':Value),l[i]?=some v→l'[i]?=some v'→aX ρ v v')→bD ρ l l'
 |[],[],_,_=> .nil
 |v::l,v'::l',hl,h=> .cons (h 0 v v' (by simp) (by simp)) (bD.of_get (by simpa using hl) (fun i x y hx hy=>h (i+1) x y (by simpa using hx) (by simpa using hy)))
 |[],_::_,hl,_=>by simp at hl
 |_::_,[],hl,_=>by simp at hl
end Go.Proofs.Eng
end
section
set_option linter.unusedSimpArgs false
set_option linter.unusedVariables false
namespace Go.Proofs.Eng
def wI(s n top:Nat)(fr fr':Nat×Nat):Prop:=fr'.1≤fr'.2∧(∀j,fr'.1≤j→j<fr'.2→j<top→j<s∨(fr.1≤j-s∧j-s<fr.2∧j-s<n))∧(fr.1≠dM→fr'.2≤top)
inductive cq(ρ:br):List MapEntry→List MapEntry→Prop|nil:cq ρ [] []|cons{k k' v v':Value}{n:Nat}{l l':List MapEntry}(hk:aX ρ k k')(hv:aX ρ v v')(t:cq ρ l l'):cq ρ ({key:=k,val:=v,born:=n}::l) ({key:=k',val:=v',born:=n}::l')
theorem cq.mono{ρ ρ':br}(h:ρ.le ρ'):∀{l l':List MapEntry},cq ρ l l'→cq ρ' l l'
 |_,_,.nil=> .nil
 |_,_,.cons hk hv t=> .cons (hk.mono h) (hv.mono h) (t.mono h)
inductive nl(ρ:br):Target→Target→Prop|fn{f f':Fn}{x x':Array Value}(h:iw ρ f f')(hx:bD ρ x.toList x'.toList):nl ρ (.fn f x) (.fn f' x')|nil:nl ρ .nil .nil|builtin(b:Builtin)(ts:Array TypeId)(t:TypeId)(cs:Array Bool):nl ρ (.builtin b ts t cs) (.builtin b ts t cs)|collected{r r':Nat}(h:gx ρ r r'):nl ρ (.collected r) (.collected r')
theorem nl.mono{ρ ρ':br}(h:ρ.le ρ'){t t':Target}(x:nl ρ t t'):nl ρ' t t':=by
 cases x with
 |fn a b=>exact .fn (a.mono h) (b.mono h)
 |nil=>exact .nil
 |builtin b ts t cs=>exact .builtin b ts t cs
 |collected a=>exact .collected (a.mono h)
structure CH(ρ:br)(d d':Deferred):Prop where
 tg:nl ρ d.target d'.target
 args:bD ρ d.args.toList d'.args.toList
theorem CH.mono{ρ ρ':br}(h:ρ.le ρ'){d d':Deferred}(x:CH ρ d d'):CH ρ' d d':=⟨x.tg.mono h,x.args.mono h⟩
inductive fu(ρ:br):List Deferred→List Deferred→Prop|nil:fu ρ [] []|cons{d d':Deferred}{l l':List Deferred}(h:CH ρ d d')(t:fu ρ l l'):fu ρ (d::l) (d'::l')
theorem fu.mono{ρ ρ':br}(h:ρ.le ρ'):∀{l l':List Deferred},fu ρ l l'→fu ρ' l l'
 |_,_,.nil=> .nil
 |_,_,.cons a t=> .cons (a.mono h) (t.mono h)
structure En(ρ:br)(l l':Loop):Prop where
 state:l'.state=l.state
 pending:l'.pending=l.pending
 tmps:bD ρ l.tmps.toList l'.tmps.toList
 params:l'.params=l.params
 assign:l'.assign=l.assign
 body:l'.body=l.body
 defers:gx ρ l.defers l'.defers
theorem En.mono{ρ ρ':br}(h:ρ.le ρ'){l l':Loop}(x:En ρ l l'):En ρ' l l':=⟨x.state,x.pending,x.tmps.mono h,x.params,x.assign,x.body,x.defers.mono h⟩
inductive fP(ρ:br)(p:Pos):Obj→Obj→Prop|cells{c c':Array Value}{e:TypeId}{fr fr':Nat×Nat}(h0:p.s=0)(hn:p.s+c.size≤c'.size)(ht:p.top=c'.size)(hc:∀(i:Nat)(v:Value),c[i]?=some v→∃v',c'[p.s+i]?=some v'∧aX ρ v v')(hf:wI p.s c.size c'.size fr fr'):fP ρ p (.cells c e fr) (.cells c' e fr')|map{es es':Array MapEntry}{clock:Nat}(h0:p.s=0)(h:cq ρ es.toList es'.toList):fP ρ p (.map es clock) (.map es' clock)|stringIter(h0:p.s=0)(s:ByteArray)(n:Nat):fP ρ p (.stringIter s n) (.stringIter s n)|mapIterNone(h0:p.s=0)(a:Nat)(b:Array Nat)(c:Nat):fP ρ p (.mapIter none a b c) (.mapIter none a b c)|mapIter(h0:p.s=0){m m':Nat}(h:gx ρ m m')(a:Nat)(b:Array Nat)(c:Nat):fP ρ p (.mapIter (some m) a b c) (.mapIter (some m') a b c)|loop(h0:p.s=0){l l':Loop}(h:En ρ l l'):fP ρ p (.loop l) (.loop l')|deferredNone(h0:p.s=0):fP ρ p (.deferred none) (.deferred none)|deferred(h0:p.s=0){l l':List Deferred}(h:fu ρ l l'):fP ρ p (.deferred (some l)) (.deferred (some l'))
theorem fP.mono{ρ ρ':br}(h:ρ.le ρ'){p:Pos}{o o':Obj}(x:fP ρ p o o'):fP ρ' p o o':=by
 cases x with
 |cells h0 hn ht hc hf=>exact .cells h0 hn ht (fun i v e=>let⟨v',a,b⟩:=hc i v e;⟨v',a,b.mono h⟩) hf
 |map h0 a=>exact .map h0 (a.mono h)
 |stringIter h0 s n=>exact .stringIter h0 s n
 |mapIterNone h0 a b c=>exact .mapIterNone h0 a b c
 |mapIter h0 x a b c=>exact .mapIter h0 (x.mono h) a b c
 |loop h0 x=>exact .loop h0 (x.mono h)
 |deferredNone h0=>exact .deferredNone h0
 |deferred h0 x=>exact .deferred h0 (x.mono h)
structure bS(ρ:br)(A:AW)(w:World):Prop where
 obj:∀k o,A.get k=some o→∃p o',ρ k=some p∧w.heap[p.b]?=some o'∧fP ρ p o o'
 inj:∀k k' o o' p p',A.get k=some o→A.get k'=some o'→ρ k=some p→ρ k'=some p'→p.b=p'.b→k=k'
 none:∀k,A.nid≤k→k<A.stop→ρ k=none
 low:∀k o,A.get k=some o→k<jo
 ids:A.nid≤A.stop∧A.stop≤jo
theorem bS.lt{ρ:br}{A:AW}{w:World}(H:bS ρ A w){k:Nat}{o:Obj}{p:Pos}(h:A.get k=some o)(hp:ρ k=some p):p.b<w.heap.size:=by obtain⟨p',o',h1,h2,_⟩:=H.obj k o h;rw[hp]at h1;cases h1;exact(Array.getElem?_eq_some_iff.1 h2).1
theorem bS.dead{ρ:br}{A:AW}{w:World}(H:bS ρ A w){k:Nat}(h1:A.nid≤k)(h2:k<A.stop):A.get k=.none:=by
 cases h:A.get k with
 |none=>rfl
 |some o=>obtain⟨p,_,hp,_⟩:=H.obj k o h;rw[H.none k h1 h2]at hp;cases hp
structure Step(ρ:br)(A:AW)(w:World)(ρ':br)(A':AW)(w':World):Prop where
 nid:A.nid≤A'.nid
 stop:A'.stop=A.stop
 ro:A'.ro=A.ro
 le:ρ.le ρ'
 agree:∀k,(k<A.nid∨A'.nid≤k)→ρ' k=ρ k
 keep:∀k,k<A.ro→(k<A.nid∨A'.nid≤k)→A'.get k=A.get k
 frame:∀b,b<w.heap.size→(∀k o p,A.ro≤k→A.get k=some o→ρ k=some p→p.b≠b)→w'.heap[b]?=w.heap[b]?
 size:w.heap.size≤w'.heap.size
 fresh:∀k o p,A'.get k=some o→ρ' k=some p→w.heap.size≤p.b∨(∃k0 o0 p0,A.ro≤k0∧A.get k0=some o0∧ρ k0=some p0∧p0.b=p.b)∨(A'.get k=A.get k∧ρ k=some p)
 tape:w'.tape=w.tape
 os:w'.os=w.os
 out:w'.output=w.output
theorem Step.refl (ρ : br) (A : AW) (w : World) : Step ρ A w ρ A w where
  nid := Nat.le_refl _
  stop := rfl
  ro := rfl
  le := .refl _
  agree := fun _ _ => rfl
  keep := fun _ _ _ => rfl
  frame := fun _ _ _ => rfl
  size := Nat.le_refl _
  fresh := fun _ _ _ _ h => .inr (.inr ⟨rfl, h⟩)
  tape := rfl
  os := rfl
  out := rfl
theorem Step.trans {ρ₀ ρ₁ ρ₂ : br} {A₀ A₁ A₂ : AW} {w₀ w₁ w₂ : World} (S : Step ρ₀ A₀ w₀ ρ₁ A₁ w₁) (T : Step ρ₁ A₁ w₁ ρ₂ A₂ w₂) : Step ρ₀ A₀ w₀ ρ₂ A₂ w₂ where
  nid := Nat.le_trans S.nid T.nid
  stop := T.stop.trans S.stop
  ro := T.ro.trans S.ro
  le := S.le.trans T.le
  agree := fun k h => by
    have h1 := S.nid; have h2 := T.nid
    rw [T.agree k (by omega), S.agree k (by omega)]
  keep := fun k hr h => by
    have h1 := S.nid; have h2 := T.nid
    rw [T.keep k (by rw [S.ro]; exact hr) (by omega), S.keep k hr (by omega)]
  frame := fun b hb h => by
    rw [T.frame b (Nat.lt_of_lt_of_le hb S.size) ?_, S.frame b hb h]
    intro k o p hk hg hp
    rcases S.fresh k o p hg hp with h1 | ⟨k0, o0, p0, hk0, hg0, hp0, he⟩ | ⟨h1, h2⟩
    · omega
    · rw [← he]; exact h k0 o0 p0 hk0 hg0 hp0
    · exact h k o p (by rw [← S.ro]; exact hk) (h1 ▸ hg) h2
  size := Nat.le_trans S.size T.size
  fresh := fun k o p hg hp => by
    rcases T.fresh k o p hg hp with h1 | ⟨k0, o0, p0, hk0, hg0, hp0, he⟩ | ⟨h1, h2⟩
    · exact .inl (Nat.le_trans S.size h1)
    · rcases S.fresh k0 o0 p0 hg0 hp0 with h2 | ⟨k1, o1, p1, hk1, hg1, hp1, he1⟩ | ⟨h2, h3⟩
      · exact .inl (by omega)
      · exact .inr (.inl ⟨k1, o1, p1, hk1, hg1, hp1, he1.trans he⟩)
      · exact .inr (.inl ⟨k0, o0, p0, by rw [← S.ro]; exact hk0, h2 ▸ hg0, h3, he⟩)
    · rcases S.fresh k o p (h1 ▸ hg) h2 with h3 | h3 | ⟨h3, h4⟩
      · exact .inl h3
      · exact .inr (.inl h3)
      · exact .inr (.inr ⟨h1.trans h3, h4⟩)
  tape := T.tape.trans S.tape
  os := T.os.trans S.os
  out := T.out.trans S.out
structure fF(w w':World)(b:Nat):Prop where
 other:∀c,c≠b→w'.heap[c]?=w.heap[c]?
 tape:w'.tape=w.tape
 os:w'.os=w.os
 out:w'.output=w.output
theorem bS.put{ρ:br}{A:AW}{w w':World}{i:Nat}{o o1:Obj}{p:Pos}{o':Obj}(H:bS ρ A w)(hi:A.get i=some o)(hp:ρ i=some p)(hro:A.ro≤i)(hw:fF w w' p.b)(hs:w'.heap.size=w.heap.size)(hb:w'.heap[p.b]?=some o')(ho:fP ρ p o1 o'):bS ρ (A.put i o1) w'∧Step ρ A w ρ (A.put i o1) w':=by
 have hlow:=H.low i o hi;have hget:∀j,(A.put i o1).get j=if j=i then some o1 else A.get j:=AW.get_put hlow;constructor;·
  refine⟨fun k o2 h=>?_,fun k k' o2 o3 p2 p3 h h' hp2 hp3 he=>?_,H.none,fun k o2 h=>?_,H.ids⟩;·
   rw[hget]at h;by_cases hk:k=i;·subst hk;simp at h;subst h;exact⟨p,o',hp,hb,ho⟩
   ·simp[hk]at h;obtain⟨p2,o2',h1,h2,h3⟩:=H.obj k o2 h;refine⟨p2,o2',h1,?_,h3⟩;rw[hw.other _ (fun e=>hk (H.inj k i _ _ _ _ h hi h1 hp e)),h2]
  ·
   have g:∀k o2,(A.put i o1).get k=some o2→∃o3,A.get k=some o3:=fun k o2 h=>by
    rw[hget]at h;by_cases hk:k=i;·exact⟨o,hk▸hi⟩
    ·simp[hk]at h;exact⟨_,h⟩
   obtain⟨_,g1⟩:=g k o2 h;obtain⟨_,g2⟩:=g k' o3 h';exact H.inj k k' _ _ _ _ g1 g2 hp2 hp3 he
  ·
   rw[hget]at h;by_cases hk:k=i;·exact hk▸hlow
   ·simp[hk]at h;exact H.low k o2 h
 ·
  refine⟨Nat.le_refl _,rfl,rfl,.refl _,fun _ _=>rfl,fun k hk _=>?_,fun b hb' h=>?_,by rw[hs];exact Nat.le_refl _,fun k o2 p2 h hp2=>?_,hw.tape,hw.os,hw.out⟩;·rw[hget,if_neg (by omega)]
  ·exact hw.other b (fun e=>h i o p hro hi hp e.symm)
  ·
   by_cases hk:k=i;·subst hk;exact .inr (.inl ⟨k,o,p2,hro,hi,hp2,rfl⟩)
   ·refine .inr (.inr ⟨?_,hp2⟩);rw[hget,if_neg hk]
def br.set(ρ:br)(i:Nat)(p:Pos):br:=fun k=>if k=i then some p else ρ k
theorem br.set_le{ρ:br}{i:Nat}{p:Pos}(h:ρ i=none):ρ.le (ρ.set i p):=fun k q e=>by
 unfold br.set;by_cases hk:k=i;·subst hk;rw[h]at e;cases e
 ·simp[hk,e]
theorem br.set_self(ρ:br)(i:Nat)(p:Pos):ρ.set i p i=some p:=by simp[br.set]
theorem JL{P:Prop}(h:P:=by have h1':A.nid+1≤k:=h1;rw[hset k (by omega)];exact H.none k (by omega) h2):P:=h
theorem bS.push{ρ:br}{A:AW}{w w':World}{o:Obj}{p:Pos}{o':Obj}(H:bS ρ A w)(hn:A.nid<A.stop)(hpb:w.heap.size≤p.b)(hw:fF w w' p.b)(hs:w.heap.size≤w'.heap.size)(hb:w'.heap[p.b]?=some o')(ho:fP (ρ.set A.nid p) p o o'):bS (ρ.set A.nid p) (A.push o) w'∧Step ρ A w (ρ.set A.nid p) (A.push o) w':=by
 have hl:A.nid<jo:=Nat.lt_of_lt_of_le hn H.ids.2;have hget:∀j,(A.push o).get j=if j=A.nid then some o else A.get j:=AW.get_push hl;have hnone:=H.none A.nid (Nat.le_refl _) hn;have hle:ρ.le (ρ.set A.nid p):=br.set_le hnone;have hset:∀k,k≠A.nid→ρ.set A.nid p k=ρ k:=fun k hk=>by simp[br.set,hk]
 constructor;·
  refine⟨fun k o2 h=>?_,fun k k' o2 o3 p2 p3 h h' hp2 hp3 he=>?_,fun k h1 h2=>?_,fun k o2 h=>?_,⟨hn,H.ids.2⟩⟩;·
   rw[hget]at h;by_cases hk:k=A.nid;·subst hk;simp at h;subst h;exact⟨p,o',br.set_self _ _ _,hb,ho⟩
   ·simp[hk]at h;obtain⟨p2,o2',h1,h2,h3⟩:=H.obj k o2 h;refine⟨p2,o2',hle _ _ h1,?_,h3.mono hle⟩;have:=H.lt h h1;rw[hw.other _ (by omega),h2]
  ·
   rw[hget]at h h';by_cases hk:k=A.nid;·
    by_cases hk':k'=A.nid;·rw[hk,hk']
    ·simp[hk']at h';rw[hset k' hk']at hp3;have:=H.lt h' hp3;subst hk;rw[br.set_self]at hp2;cases hp2;omega
   ·
    simp[hk]at h;rw[hset k hk]at hp2;by_cases hk':k'=A.nid;·have:=H.lt h hp2;subst hk';rw[br.set_self]at hp3;cases hp3;omega
    ·simp[hk']at h';rw[hset k' hk']at hp3;exact H.inj k k' _ _ _ _ h h' hp2 hp3 he
  · exact JL
  ·
   rw[hget]at h;by_cases hk:k=A.nid;·rw[hk];exact hl
   ·simp[hk]at h;exact H.low k o2 h
 ·
  refine⟨Nat.le_succ _,rfl,rfl,hle,fun k h=>?_,fun k _ h=>?_,fun b hb' _=>hw.other b (by omega),hs,fun k o2 p2 h hp2=>?_,hw.tape,hw.os,hw.out⟩;·have h':k<A.nid∨A.nid+1≤k:=h;exact hset k (by omega)
  ·have h':k<A.nid∨A.nid+1≤k:=h;rw[hget,if_neg (by omega)]
  ·
   by_cases hk:k=A.nid;·subst hk;rw[br.set_self]at hp2;cases hp2;exact .inl hpb
   ·rw[hset k hk]at hp2;exact .inr (.inr ⟨by rw[hget,if_neg hk],hp2⟩)
theorem bS.kill{ρ:br}{A:AW}{w:World}{i:Nat}{oi:Obj}(H:bS ρ A w)(hi:A.get i=some oi)(hro:A.ro≤i):bS ρ (A.kill i) w∧Step ρ A w ρ (A.kill i) w:=by
 have hlow:=H.low i oi hi;have hget:∀j,(A.kill i).get j=if j=i then Option.none else A.get j:=AW.get_kill hlow;have sub:∀k o,(A.kill i).get k=some o→A.get k=some o:=fun k o h=>by
  rw[hget]at h;by_cases hk:k=i;·simp[hk]at h
  ·simpa[hk]using h
 refine⟨⟨fun k o h=>H.obj k o (sub k o h),fun k k' o o' p p' h h' hp hp' e=>H.inj k k' o o' p p' (sub k o h) (sub k' o' h') hp hp' e,H.none,fun k o h=>H.low k o (sub k o h),H.ids⟩,?_⟩;refine⟨Nat.le_refl _,rfl,rfl,.refl _,fun _ _=>rfl,fun k hk _=>?_,fun _ _ _=>rfl,Nat.le_refl _,fun k o p h hp=> .inr (.inr ⟨?_,hp⟩),rfl,rfl,rfl⟩;·rw[hget,if_neg (by omega)]
 ·rw[h,sub k o h]
theorem bS.heap{ρ:br}{A:AW}{w w':World}(H:bS ρ A w)(h:w'.heap=w.heap):bS ρ A w':=⟨fun k o e=>by rw[h];exact H.obj k o e,H.inj,H.none,H.low,H.ids⟩
theorem Step.heap {ρ : br} {A : AW} {w w' : World} (h : w'.heap = w.heap) (h1 : w'.tape = w.tape) (h2 : w'.os = w.os) (h3 : w'.output = w.output) : Step ρ A w ρ A w' where
  nid := Nat.le_refl _
  stop := rfl
  ro := rfl
  le := .refl _
  agree := fun _ _ => rfl
  keep := fun _ _ _ => rfl
  frame := fun _ _ _ => by rw [h]
  size := by rw [h]; exact Nat.le_refl _
  fresh := fun _ _ _ _ h => .inr (.inr ⟨rfl, h⟩)
  tape := h1
  os := h2
  out := h3
theorem bS.regrow{ρ:br}{A:AW}{w w':World}{i:Nat}{oi o:Obj}{pi p:Pos}{o':Obj}(H:bS ρ A w)(hn:A.nid<A.stop)(hi:A.get i=some oi)(hpi:ρ i=some pi)(hro:A.ro≤i)(hpb:p.b=pi.b)(hw:fF w w' p.b)(hs:w'.heap.size=w.heap.size)(hb:w'.heap[p.b]?=some o')(ho:fP (ρ.set A.nid p) p o o'):bS (ρ.set A.nid p) ((A.kill i).push o) w'∧Step ρ A w (ρ.set A.nid p) ((A.kill i).push o) w':=by
 have hl:A.nid<jo:=Nat.lt_of_lt_of_le hn H.ids.2;have hlow:=H.low i oi hi;have hget:∀j,((A.kill i).push o).get j=if j=A.nid then some o else if j=i then Option.none else A.get j:=fun j=>by have h1:((A.kill i).push o).get j=if j=(A.kill i).nid then some o else(A.kill i).get j:=AW.get_push (A:=A.kill i) hl j;rw[h1];have h2:(A.kill i).nid=A.nid:=rfl;rw[h2,AW.get_kill hlow]
 have hnone:=H.none A.nid (Nat.le_refl _) hn;have hle:ρ.le (ρ.set A.nid p):=br.set_le hnone;have hset:∀k,k≠A.nid→ρ.set A.nid p k=ρ k:=fun k hk=>by simp[br.set,hk]
 constructor;·
  refine⟨fun k o2 h=>?_,fun k k' o2 o3 p2 p3 h h' hp2 hp3 he=>?_,fun k h1 h2=>?_,fun k o2 h=>?_,⟨hn,H.ids.2⟩⟩;·
   rw[hget]at h;by_cases hk:k=A.nid;·subst hk;simp at h;subst h;exact⟨p,o',br.set_self _ _ _,hb,ho⟩
   ·
    by_cases hk2:k=i;·simp[hk,hk2]at h;exact absurd h.1 (fun e=>hk (hk2.trans e))
    simp[hk,hk2]at h;obtain⟨p2,o2',h1,h2,h3⟩:=H.obj k o2 h;refine⟨p2,o2',hle _ _ h1,?_,h3.mono hle⟩;rw[hw.other _ (fun e=>hk2 (H.inj k i _ _ _ _ h hi h1 hpi (e.trans hpb))),h2]
  ·
   rw[hget]at h h';have key:∀(k:Nat)(o2:Obj)(p2:Pos),k≠A.nid→(if k=A.nid then some o else if k=i then Option.none else A.get k)=some o2→ρ.set A.nid p k=some p2→A.get k=some o2∧ρ k=some p2∧p2.b≠p.b:=fun k o2 p2 hk h hp2=>by
    by_cases hk2:k=i;·simp[hk,hk2]at h;exact absurd h.1 (fun e=>hk (hk2.trans e))
    ·simp[hk,hk2]at h;rw[hset k hk]at hp2;exact⟨h,hp2,fun e=>hk2 (H.inj k i _ _ _ _ h hi hp2 hpi (e.trans hpb))⟩
   by_cases hk:k=A.nid;·
    by_cases hk':k'=A.nid;·rw[hk,hk']
    ·have:=key k' _ _ hk' h' hp3;subst hk;rw[br.set_self]at hp2;cases hp2;exact absurd he.symm this.2.2
   ·
    by_cases hk':k'=A.nid;·have:=key k _ _ hk h hp2;subst hk';rw[br.set_self]at hp3;cases hp3;exact absurd he this.2.2
    ·have g1:=key k _ _ hk h hp2;have g2:=key k' _ _ hk' h' hp3;exact H.inj k k' _ _ _ _ g1.1 g2.1 g1.2.1 g2.2.1 he
  · exact JL
  ·
   rw[hget]at h;by_cases hk:k=A.nid;·rw[hk];exact hl
   ·
    by_cases hk2:k=i;·rw[hk2];exact hlow
    ·simp[hk,hk2]at h;exact H.low k o2 h
 ·
  refine⟨Nat.le_succ _,rfl,rfl,hle,fun k h=>?_,fun k hk h=>?_,fun b hb' h=>hw.other b (fun e=>h i oi pi hro hi hpi (hpb.symm.trans e.symm)),by rw[hs];exact Nat.le_refl _,fun k o2 p2 h hp2=>?_,hw.tape,hw.os,hw.out⟩;·have h':k<A.nid∨A.nid+1≤k:=h;exact hset k (by omega)
  ·have h':k<A.nid∨A.nid+1≤k:=h;rw[hget,if_neg (by omega),if_neg (by omega)]
  ·
   by_cases hk:k=A.nid;·subst hk;rw[br.set_self]at hp2;cases hp2;exact .inr (.inl ⟨i,oi,pi,hro,hi,hpi,hpb.symm⟩)
   ·
    rw[hset k hk]at hp2;rw[hget]at h;by_cases hk2:k=i;·simp[hk,hk2]at h;exact absurd h.1 (fun e=>hk (hk2.trans e))
    ·exact .inr (.inr ⟨by rw[hget,if_neg hk,if_neg hk2],hp2⟩)
end Go.Proofs.Eng
end
section
set_option linter.unusedSimpArgs false
set_option linter.unusedVariables false
namespace Go.Proofs.Eng
def cellish:Value→Bool
 |.agg _|.tuple _=>false
 |_=>true
def bO{α:Type}(P:Program):Sem α→AW→Option (α×AW)
 |.pure a,A=>some (a,A)
 |.load _ a k,A=>match A.get a.block with
  |some (.cells c _ _)=>if a.spot.isSome then none else match c[a.off]? with
   |some v=>bO P (k v) A
   |none=>none
  |_=>none
 |.store _ a v k,A=>match A.get a.block with
  |some (.cells c e fr)=>if a.spot.isSome then none else if A.ro≤a.block then if a.off<c.size then if fr.1≤a.off∧a.off<fr.2 then none else if cellish v then bO P k (A.put a.block (.cells (c.setIfInBounds a.off v) e fr))else none else none else none
  |_=>none
 |.new o k,A=>if A.nid<A.stop then bO P (k A.nid) (A.push o)else none
 |.shape r k,A=>match A.get r with
  |some (.cells c e _)=>bO P (k (some (e,c.size))) A
  |some _=>bO P (k none) A
  |none=>none
 |.freeze a n k,A=>match A.get a.block with
  |some (.cells c e fr)=>if a.spot.isSome=true then(if A.ro≤a.block then if fr.2≤fr.1∧fr.1≠dM then bO P k (A.kill a.block)else none else none)else if A.ro≤a.block then if a.off+n≤c.size∧fr.1≠dM then bO P k (A.put a.block (.cells c e (0,max fr.2 (a.off+n))))else none else none
  |_=>none
 |.frozen a k,A=>match A.get a.block with
  |some (.cells c _ fr)=>if fr.1≤a.off∧a.off<fr.2 then none else if a.off<c.size then bO P (k false) A else none
  |_=>none
 |.getObj r k,A=>match A.get r with
  |some (.cells ..)=>none
  |some o=>bO P (k o) A
  |none=>none
 |.setObj r o k,A=>match A.get r with
  |some (.cells ..)=>none
  |some _=>if A.ro≤r then bO P k (A.put r o)else none
  |none=>none
 |.choose q k,A=>if q.forced then bO P (k 0) A else none
 |.sys _ _,_=>none
 |.program k,A=>bO P (k P) A
 |.mark _ k,A=>bO P k A
 |.halt _,_=>none
def Obj.top:Obj→Nat
 |.cells c _ _=>c.size
 |_=>0
def sL(ρ:br)(o o':Obj):Prop:=∀p:Pos,p.s=0→p.top=Obj.top o'→fP ρ p o o'
def On(p:Pos):Option (TypeId×Nat)→Option (TypeId×Nat)→Prop
 |some (e,n),some (e',n')=>e'=e∧p.s=0∧n≤n'
 |none,none=>True
 |_,_=>False
def wJ(ρ:br)(r r':Nat):Prop:=∃p,ρ r=some p∧p.b=r'
theorem gx.at{ρ:br}{r r':Nat}(h:gx ρ r r'):wJ ρ r r':=let⟨p,a,b,_⟩:=h;⟨p,a,b⟩
theorem dE.at{ρ:br}{a a':Addr}(h:dE ρ a a'):wJ ρ a.block a'.block:=let⟨_,p,x,y⟩:=h;⟨p,x,by rw[y]⟩
inductive bj{α β:Type}(P:Program)(R:br→α→β→Prop):br→Sem α→Sem β→Prop|pure{ρ:br}{a:α}{b:β}(h:R ρ a b):bj P R ρ (.pure a) (.pure b)|load{ρ:br}{m m':Mode}{a a':Addr}{k:Value→Sem α}{k':Value→Sem β}(h:dE ρ a a')(hk:∀v v',aX ρ v v'→bj P R ρ (k v) (k' v')):bj P R ρ (.load m a k) (.load m' a' k')|store{ρ:br}{m m':Mode}{a a':Addr}{v v':Value}{k:Sem α}{k':Sem β}(h:dE ρ a a')(hv:aX ρ v v')(hk:bj P R ρ k k'):bj P R ρ (.store m a v k) (.store m' a' v' k')|new{ρ:br}{o o':Obj}{k:Nat→Sem α}{k':Nat→Sem β}(h:sL ρ o o')(hk:∀(ρ':br)(r r':Nat),ρ.le ρ'→gx ρ' r r'→bj P R ρ' (k r) (k' r')):bj P R ρ (.new o k) (.new o' k')|shape{ρ:br}{r r':Nat}{k:Option (TypeId×Nat)→Sem α}{k':Option (TypeId×Nat)→Sem β}{p:Pos}(h:ρ r=some p)(hr:p.b=r')(hk:∀x x',On p x x'→bj P R ρ (k x) (k' x')):bj P R ρ (.shape r k) (.shape r' k')|freeze{ρ:br}{a a':Addr}{n:Nat}{k:Sem α}{k':Sem β}(h:dE ρ a a')(hk:bj P R ρ k k'):bj P R ρ (.freeze a n k) (.freeze a' n k')|frozen{ρ:br}{a a':Addr}{k:Bool→Sem α}{k':Bool→Sem β}(h:dE ρ a a')(hk:bj P R ρ (k false) (k' false)):bj P R ρ (.frozen a k) (.frozen a' k')|getObj{ρ:br}{r r':Nat}{k:Obj→Sem α}{k':Obj→Sem β}(h:wJ ρ r r')(hk:∀o o' p,fP ρ p o o'→bj P R ρ (k o) (k' o')):bj P R ρ (.getObj r k) (.getObj r' k')|look{ρ:br}{r:Nat}{p:Pos}{k:Obj→Sem α}{s':Sem β}(h:ρ r=some p)(hk:p.s=0→bj P R ρ (.getObj r k) s'):bj P R ρ (.getObj r k) s'|setObj{ρ:br}{r r':Nat}{o o':Obj}{k:Sem α}{k':Sem β}(h:wJ ρ r r')(ho:∀p:Pos,p.s=0→fP ρ p o o')(hk:bj P R ρ k k'):bj P R ρ (.setObj r o k) (.setObj r' o' k')|choose{ρ:br}{q:Question}{k:Nat→Sem α}{k':Nat→Sem β}(hk:bj P R ρ (k 0) (k' 0)):bj P R ρ (.choose q k) (.choose q k')|chooses{ρ:br}{q:Question}{k:Nat→Sem α}{s':Sem β}(h:q.forced=false):bj P R ρ (.choose q k) s'|sys{ρ:br}{c:Sys}{k:SysRet→Sem α}{s':Sem β}:bj P R ρ (.sys c k) s'|program{ρ:br}{k:Program→Sem α}{k':Program→Sem β}(hk:bj P R ρ (k P) (k' P)):bj P R ρ (.program k) (.program k')|mark{ρ:br}{m m':Mark}{k:Sem α}{k':Sem β}(hk:bj P R ρ k k'):bj P R ρ (.mark m k) (.mark m' k')|halt{ρ:br}{h:Halt}{s':Sem β}:bj P R ρ (.halt h) s'|fails{ρ:br}{s:Sem α}{s':Sem β}(h:∀A,bO P s A=none):bj P R ρ s s'|jump{ρ:br}{s:Sem α}{s':Sem β}(h:∀A A' a w,bO P s A=some (a,A')→bS ρ A w→∃ρ' a' w',s'.run P w=.ok a' w'∧R ρ' a a'∧bS ρ' A' w'∧Step ρ A w ρ' A' w'):bj P R ρ s s'|programR{ρ:br}{s:Sem α}{k':Program→Sem β}(hk:bj P R ρ s (k' P)):bj P R ρ s (.program k')|markR{ρ:br}{s:Sem α}{m':Mark}{k':Sem β}(hk:bj P R ρ s k'):bj P R ρ s (.mark m' k')|equivR{ρ:br}{s:Sem α}{s' t':Sem β}(h:∀w,s'.run P w=t'.run P w)(hk:bj P R ρ s t'):bj P R ρ s s'
theorem g_{α β:Type}{P:Program}(s:Sem α)(f:α→Sem β):∀A,bO P (s.bind f) A=(bO P s A).bind fun x=>bO P (f x.1) x.2:=by
 induction s with
 |pure a=>intro A;simp[Sem.bind,bO]
 |load m a k ih=>
  intro A;simp only[Sem.bind,bO];repeat' split
  all_goals first|exact ih _ _|rfl
 |store m a v k ih=>
  intro A;simp only[Sem.bind,bO];repeat' split
  all_goals first|exact ih _|rfl
 |new o k ih=>
  intro A;simp only[Sem.bind,bO];repeat' split
  all_goals first|exact ih _ _|rfl
 |shape r k ih=>
  intro A;simp only[Sem.bind,bO];repeat' split
  all_goals first|exact ih _ _|rfl
 |freeze a n k ih=>
  intro A;simp only[Sem.bind,bO];repeat' split
  all_goals first|exact ih _|rfl
 |frozen a k ih=>
  intro A;simp only[Sem.bind,bO];repeat' split
  all_goals first|exact ih _ _|rfl
 |getObj r k ih=>
  intro A;simp only[Sem.bind,bO];repeat' split
  all_goals first|exact ih _ _|rfl
 |setObj r o k ih=>
  intro A;simp only[Sem.bind,bO];repeat' split
  all_goals first|exact ih _|rfl
 |choose q k ih=>
  intro A;simp only[Sem.bind,bO];repeat' split
  all_goals first|exact ih _ _|rfl
 |sys c k ih=>intro A;simp[Sem.bind,bO]
 |program k ih=>intro A;simp only[Sem.bind,bO];exact ih _ _
 |mark m k ih=>intro A;simp only[Sem.bind,bO];exact ih _
 |halt h=>intro A;simp[Sem.bind,bO]
theorem wI.not{s n top:Nat}{fr fr':Nat×Nat}(h:wI s n top fr fr'){i:Nat}(ht:s+i<top)(hf:¬(fr.1≤i∧i<fr.2)):¬(fr'.1≤s+i∧s+i<fr'.2):=fun⟨a,b⟩=>by
 rcases h.2.1 (s+i) a b ht with h|⟨h1,h2,_⟩;·omega
 ·
  have:s+i-s=i:=by omega
  rw[this]at h1 h2;exact hf ⟨h1,h2⟩
theorem bj.sound{α β:Type}{P:Program}{R:br→α→β→Prop}{ρ:br}{s:Sem α}{s':Sem β}(h:bj P R ρ s s'):∀{A A':AW}{a:α}{w:World},bO P s A=some (a,A')→bS ρ A w→∃ρ' a' w',s'.run P w=.ok a' w'∧R ρ' a a'∧bS ρ' A' w'∧Step ρ A w ρ' A' w':=by
 induction h with
 |pure h=>intro A A' a w e H;simp only[bO,Option.some.injEq,Prod.mk.injEq]at e;obtain⟨rfl,rfl⟩:=e;exact⟨_,_,w,rfl,h,H,.refl _ _ _⟩
 |load h hk ih=>
   intro A A' a w e H;obtain⟨hs,p,hp,rfl⟩:=h;simp only[bO,hs]at e;split at e;·
    rename_i c e' fr hg;simp only[Option.isSome_none,Bool.false_eq_true,if_false]at e;split at e;·
     rename_i v hv;obtain⟨p2,o',hp2,hw,ho⟩:=H.obj _ _ hg;rw[hp]at hp2;cases hp2;cases ho with
     |cells h0 hn ht hc hf=>obtain⟨v',hv',hvr⟩:=hc _ _ hv;obtain⟨ρ',a',w',hr,hR,HH,SS⟩:=ih v v' hvr e H;refine⟨ρ',a',w',?_,hR,HH,SS⟩;simp only[Sem.run,World.cell?,hw,Option.isSome_none,Bool.false_eq_true,if_false,hv'];exact hr
    ·cases e
   ·cases e
 |@store ρ m m' a a' v v' k k' h hv hk ih=>
   intro A A' a₀ w e H;obtain⟨hs,p,hp,rfl⟩:=h;simp only[bO,hs]at e;split at e;·
    rename_i c e' fr hg;simp only[Option.isSome_none,Bool.false_eq_true,if_false]at e;split at e;·
     rename_i hro;split at e;·
      rename_i hlt;split at e;·cases e
      ·
       rename_i hfr;split at e;·
        rename_i gO;obtain⟨p2,o',hp2,hw,ho⟩:=H.obj _ _ hg;rw[hp]at hp2;cases hp2;cases ho with
        |@cells _ c' _ _ fr' h0 hn ht hc hf=>
          have hlt':p.s+a.off<c'.size:=by omega
          have hcv:(w.cell? ⟨p.b,p.s+a.off,none⟩).isSome=true:=by simp[World.cell?,hw,hlt']
          have hnf:w.frozen? ⟨p.b,p.s+a.off,none⟩=false:=by
           have:=hf.not hlt' hfr;simp only[World.frozen?,hw,Bool.and_eq_false_iff,decide_eq_false_iff_not];by_cases h1:fr'.1≤p.s+a.off;·exact .inr (fun h2=>this ⟨h1,h2⟩)
           ·exact .inl h1
          have hsize:(w.setCell ⟨p.b,p.s+a.off,none⟩ v').heap.size=w.heap.size:=by simp[World.setCell]
          have hbs:p.b<w.heap.size:=(Array.getElem?_eq_some_iff.1 hw).1;have hat:(w.setCell ⟨p.b,p.s+a.off,none⟩ v').heap[p.b]?=some (.cells (c'.setIfInBounds (p.s+a.off) v') e' fr'):=by have he:=(Array.getElem?_eq_some_iff.1 hw).2;simp[World.setCell,Array.getElem?_modify,hw]
          have hsb:fF w (w.setCell ⟨p.b,p.s+a.off,none⟩ v') p.b:=⟨fun c hc=>by simp[World.setCell,Array.getElem?_modify,Ne.symm hc],rfl,rfl,rfl⟩;have hor:fP ρ p (.cells (c.setIfInBounds a.off v) e' fr) (.cells (c'.setIfInBounds (p.s+a.off) v') e' fr'):=by
           refine .cells h0 (by simpa using hn) (by simpa using ht) (fun i u hu=>?_) (by simpa using hf);rw[Array.getElem?_setIfInBounds]at hu⊢;by_cases hi:a.off=i;·subst hi;simp[hlt]at hu;subst hu;exact⟨v',by simp[hlt'],hv⟩
           ·simp[hi]at hu;obtain⟨u',h1,h2⟩:=hc i u hu;exact⟨u',by simp[hi,h1],h2⟩
          obtain⟨H1,S1⟩:=H.put hg hp hro hsb hsize hat hor;obtain⟨ρ',a',w',hr,hR,HH,SS⟩:=ih e H1;refine⟨ρ',a',w',?_,hR,HH,S1.trans SS⟩;have hgo:(Sem.store m' ⟨p.b,p.s+a.off,none⟩ v' k').run P w=k'.run P (w.setCell ⟨p.b,p.s+a.off,none⟩ v'):=by
           cases hv<;>first
           |(simp[cellish]at gO;done)
           |(simp only[Sem.run];cases hcc:w.cell? ⟨p.b,p.s+a.off,none⟩with
              |none=>simp[hcc]at hcv
              |some u=>simp[hnf])
          rw[hgo];exact hr
       ·cases e
     ·cases e
    ·cases e
   ·cases e
 |@new ρ o o' k k' h hk ih=>
  intro A A' a w e H;simp only[bO]at e;split at e;·
   rename_i hn;have hp:=h ⟨w.heap.size,0,Obj.top o',0⟩ rfl rfl;have hle:ρ.le (ρ.set A.nid ⟨w.heap.size,0,Obj.top o',0⟩):=br.set_le (H.none _ (Nat.le_refl _) hn);obtain⟨H1,S1⟩:=H.push (w':={w with heap:=w.heap.push o'}) (p:=⟨w.heap.size,0,Obj.top o',0⟩) hn (Nat.le_refl _) ⟨fun c hc=>by have hc':c≠w.heap.size:=hc;show(w.heap.push o')[c]?=_;rw[Array.getElem?_push];simp[hc'],rfl,rfl,rfl⟩ (by simp) (by simp) (hp.mono hle);obtain⟨ρ',a',w',hr,hR,HH,SS⟩:=ih _ A.nid w.heap.size hle ⟨_,br.set_self _ _ _,rfl,rfl⟩ e H1;exact⟨ρ',a',w',by simp only[Sem.run];exact hr,hR,HH,S1.trans SS⟩
  ·cases e
 |@shape ρ r r' k k' p hp hr hk ih=>
   intro A A' a w e H;subst hr;simp only[bO]at e;split at e;·
    rename_i c e' fr hg;obtain⟨p2,o',hp2,hw,ho⟩:=H.obj _ _ hg;rw[hp]at hp2;cases hp2;cases ho with
    |@cells _ c' _ _ fr' h0 hn ht hc hf=>
     obtain⟨ρ',a',w',hr,hR,HH,SS⟩:=ih (some (e',c.size)) (some (e',c'.size)) ⟨rfl,h0,by omega⟩ e H;exact⟨ρ',a',w',by simp only[Sem.run,World.shape?,hw];exact hr,hR,HH,SS⟩
   ·rename_i o hnc hg;obtain⟨p2,o',hp2,hw,ho⟩:=H.obj _ _ hg;rw[hp]at hp2;cases hp2;obtain⟨ρ',a',w',hr,hR,HH,SS⟩:=ih none none trivial e H;refine⟨ρ',a',w',?_,hR,HH,SS⟩;simp only[Sem.run,World.shape?,hw];cases ho with
     |cells=>exact(hnc _ _ _ rfl).elim
     |_=>exact hr
   ·cases e
 |@freeze ρ a a' n k k' h hk ih=>
   intro A A' a₀ w e H;obtain⟨hs,p,hp,rfl⟩:=h;simp only[bO,hs,Option.isSome_none,Bool.false_eq_true,if_false]at e;split at e;·
    rename_i c e' fr hg;split at e;·
     rename_i hro;split at e;·
      rename_i hle2;obtain⟨hle,hmark⟩:=hle2;obtain⟨p2,o',hp2,hw,ho⟩:=H.obj _ _ hg;rw[hp]at hp2;cases hp2;cases ho with
      |@cells _ c' _ _ fr' h0 hn ht hc hf=>
       have htop:=hf.2.2 hmark;have hfr:∀fr2:Nat×Nat,(fr2=fr'∨(fr'.1=fr'.2∧fr2=(p.s+a.off,p.s+a.off+n))∨(fr'.1≠fr'.2∧fr2=(min fr'.1 (p.s+a.off),max fr'.2 (p.s+a.off+n))))→wI p.s c.size c'.size (0,max fr.2 (a.off+n)) fr2:=by
        intro fr2 hc2;have old:∀j,fr'.1≤j→j<fr'.2→¬j<p.s→j-p.s<fr.2∧j-p.s<c.size:=fun j x y hj=>by
         rcases hf.2.1 j x y (by omega)with h|⟨_,h,h'⟩;·exact absurd h hj
         ·exact⟨h,h'⟩
        have hlow:=hf.1;refine⟨?_,fun j h1 h2 _=>?_,fun _=>?_⟩;·
         rcases hc2 with rfl|⟨_,rfl⟩|⟨_,rfl⟩;·exact hlow
         ·exact Nat.le_add_right _ _
         ·show min _ _≤max _ _;omega
        case refine_3=>
         rcases hc2 with rfl|⟨_,rfl⟩|⟨_,rfl⟩;·exact htop
         ·show p.s+a.off+n≤_;omega
         ·show max _ _≤_;omega
        by_cases hj:j<p.s;·exact .inl hj
        refine .inr ⟨Nat.zero_le _,?_⟩;rcases hc2 with rfl|⟨_,rfl⟩|⟨hne,rfl⟩;·
         have:=old j h1 h2 hj;exact⟨by show _<max _ _;omega,this.2⟩
        ·simp only at h1 h2;exact⟨by show _<max _ _;omega,by omega⟩
        ·
         simp only at h1 h2;by_cases hj2:j<p.s+a.off+n;·
          exact⟨by show _<max _ _;omega,by omega⟩
         ·have:=old (fr'.2-1) (by omega) (by omega) (by omega);exact⟨by show _<max _ _;omega,by omega⟩
       have hsize:(w.freeze ⟨p.b,p.s+a.off,none⟩ n).heap.size=w.heap.size:=by unfold World.freeze;split<;>simp
       have hbs:p.b<w.heap.size:=(Array.getElem?_eq_some_iff.1 hw).1;have hat:∃fr2,(w.freeze ⟨p.b,p.s+a.off,none⟩ n).heap[p.b]?=some (.cells c' e' fr2)∧wI p.s c.size c'.size (0,max fr.2 (a.off+n)) fr2:=by
        obtain⟨lo,hi⟩:=fr';unfold World.freeze;by_cases hn0:n=0;·rw[if_pos hn0];exact⟨_,hw,hfr _ (.inl rfl)⟩
        ·
         rw[if_neg hn0];by_cases hlh:lo=hi;·refine⟨(p.s+a.off,p.s+a.off+n),?_,hfr _ (.inr (.inl ⟨hlh,rfl⟩))⟩;simp[Array.getElem?_modify,hw,hlh]
         ·refine⟨(min lo (p.s+a.off),max hi (p.s+a.off+n)),?_,hfr _ (.inr (.inr ⟨hlh,rfl⟩))⟩;simp[Array.getElem?_modify,hw,hlh]
       obtain⟨fr2,hat,hfr2⟩:=hat;have hsb:fF w (w.freeze ⟨p.b,p.s+a.off,none⟩ n) p.b:=by
        unfold World.freeze;split;·exact⟨fun _ _=>rfl,rfl,rfl,rfl⟩
        ·exact⟨fun c hc=>by simp[Array.getElem?_modify,Ne.symm hc],rfl,rfl,rfl⟩
       obtain⟨H1,S1⟩:=H.put hg hp hro hsb hsize hat (o1:=.cells c e' (0,max fr.2 (a.off+n))) (.cells h0 hn ht hc hfr2);obtain⟨ρ',a',w',hr,hR,HH,SS⟩:=ih e H1;exact⟨ρ',a',w',by simp only[Sem.run];exact hr,hR,HH,S1.trans SS⟩
     ·cases e
    ·cases e
   ·cases e
 |@frozen ρ a a' k k' h hk ih=>
   intro A A' a₀ w e H;obtain⟨hs,p,hp,rfl⟩:=h;simp only[bO]at e;split at e;·
    rename_i c e' fr hg;split at e;·cases e
    rename_i hnf;split at e;case isFalse=>cases e
    ·rename_i hltc;obtain⟨p2,o',hp2,hw,ho⟩:=H.obj _ _ hg;rw[hp]at hp2;cases hp2;cases ho with
      |@cells _ c' _ _ fr' h0 hn ht hc hf=>
       have hfr:=hf.not (by omega) hnf;obtain⟨ρ',a',w',hr,x⟩:=ih e H;refine⟨ρ',a',w',?_,x⟩;have:w.frozen? ⟨p.b,p.s+a.off,none⟩=false:=by
        simp only[World.frozen?,hw,Bool.and_eq_false_iff,decide_eq_false_iff_not];by_cases h1:fr'.1≤p.s+a.off;·exact .inr (fun h2=>hfr ⟨h1,h2⟩)
        ·exact .inl h1
       simp only[Sem.run,this];exact hr
   ·cases e
 |getObj h hk ih=>
   intro A A' a w e H;obtain⟨p,hp,rfl⟩:=h;simp only[bO]at e;split at e;·cases e
   ·rename_i o hnc hg;obtain⟨p2,o',hp2,hw,ho⟩:=H.obj _ _ hg;rw[hp]at hp2;cases hp2;obtain⟨ρ',a',w',hr,hR,HH,SS⟩:=ih o o' p ho e H;refine⟨ρ',a',w',?_,hR,HH,SS⟩;simp only[Sem.run,hw];cases ho with
     |cells=>exact(hnc _ _ _ rfl).elim
     |_=>exact hr
   ·cases e
 |look hp hk ih=>
  intro A A' a w e H;have e0:=e;simp only[bO]at e;split at e;·cases e
  ·rename_i o hnc hg;obtain⟨p2,o',hp2,hw,ho⟩:=H.obj _ _ hg;rw[hp]at hp2;cases hp2;exact ih (by cases ho<;>assumption) e0 H
  ·cases e
 |@setObj ρ r r' o o' k k' h ho hk ih=>
   intro A A' a w e H;obtain⟨p,hp,rfl⟩:=h;simp only[bO]at e;split at e;·cases e
   ·
    rename_i o1 hnc hg;split at e;·
     rename_i hro;obtain⟨p2,o1',hp2,hw,ho1⟩:=H.obj _ _ hg;rw[hp]at hp2;cases hp2;have hs0:p.s=0:=by cases ho1<;>first|assumption|(exact(hnc _ _ _ rfl).elim)
     have hbs:p.b<w.heap.size:=(Array.getElem?_eq_some_iff.1 hw).1;obtain⟨H1,S1⟩:=H.put (w':={w with heap:=w.heap.setIfInBounds p.b o'}) hg hp hro ⟨fun c hc=>by simp[Array.getElem?_setIfInBounds,Ne.symm hc],rfl,rfl,rfl⟩ (by simp) (by simp[hbs]) (ho p hs0);obtain⟨ρ',a',w',hr,hR,HH,SS⟩:=ih e H1;refine⟨ρ',a',w',?_,hR,HH,S1.trans SS⟩;simp only[Sem.run,hw];cases ho1 with
     |cells=>exact(hnc _ _ _ rfl).elim
     |_=>exact hr
    ·cases e
   ·cases e
 |choose hk ih=>
  intro A A' a w e H;simp only[bO]at e;split at e;·
   rename_i hq;obtain⟨ρ',a',w',hr,x⟩:=ih e H;exact⟨ρ',a',w',by simp only[Sem.run,hq,if_true];exact hr,x⟩
  ·cases e
 |chooses h=>intro A A' a w e _;simp[bO,h]at e
 |sys=>intro A A' a w e _;simp[bO]at e
 |program hk ih=>intro A A' a w e H;obtain⟨ρ',a',w',hr,x⟩:=ih e H;exact⟨ρ',a',w',hr,x⟩
 |mark hk ih=>intro A A' a w e H;obtain⟨ρ',a',w',hr,x⟩:=ih e H;exact⟨ρ',a',w',hr,x⟩
 |halt=>intro A A' a w e _;simp[bO]at e
 |fails h=>intro A A' a w e _;rw[h]at e;cases e
 |jump h=>intro A A' a w e H;exact h A A' a w e H
 |programR hk ih=>intro A A' a w e H;obtain⟨ρ',a',w',hr,x⟩:=ih e H;exact⟨ρ',a',w',hr,x⟩
 |markR hk ih=>intro A A' a w e H;obtain⟨ρ',a',w',hr,x⟩:=ih e H;exact⟨ρ',a',w',hr,x⟩
 |equivR h hk ih=>
  intro A A' a w e H;obtain⟨ρ',a',w',hr,x⟩:=ih e H;exact⟨ρ',a',w',by rw[h];exact hr,x⟩
theorem bj.bind{α β γ δ:Type}{P:Program}{R:br→α→β→Prop}{R':br→γ→δ→Prop}{ρ:br}{s:Sem α}{s':Sem β}{f:α→Sem γ}{f':β→Sem δ}(h:bj P R ρ s s')(hf:∀ρ' a b,ρ.le ρ'→R ρ' a b→bj P R' ρ' (f a) (f' b)):bj P R' ρ (s.bind f) (s'.bind f'):=by
 induction h with
 |pure h=>exact hf _ _ _ (.refl _) h
 |load h hk ih=>exact .load h (fun v v' hv=>ih v v' hv hf)
 |store h hv hk ih=>exact .store h hv (ih hf)
 |new h hk ih=>exact .new h (fun ρ' r r' hl hr=>ih ρ' r r' hl hr (fun ρ'' a b hl' hab=>hf ρ'' a b (hl.trans hl') hab))
 |shape h hr hk ih=>exact .shape h hr (fun x x' hx=>ih x x' hx hf)
 |freeze h hk ih=>exact .freeze h (ih hf)
 |frozen h hk ih=>exact .frozen h (ih hf)
 |getObj h hk ih=>exact .getObj h (fun o o' p ho=>ih o o' p ho hf)
 |look h hk ih=>exact .look h (fun hp=>ih hp hf)
 |setObj h ho hk ih=>exact .setObj h ho (ih hf)
 |choose hk ih=>exact .choose (ih hf)
 |chooses h=>exact .chooses h
 |sys=>exact .sys
 |program hk ih=>exact .program (ih hf)
 |mark hk ih=>exact .mark (ih hf)
 |halt=>exact .halt
 |fails h=>
  exact .fails fun A=>by rw[g_,h];rfl
 |@jump ρ s s' hj=>
   refine .jump fun A A' c w e H=>?_;rw[g_]at e;cases hs:bO P s A with
   |none=>rw[hs]at e;cases e
   |some x=>
    obtain⟨a,A1⟩:=x;rw[hs]at e;obtain⟨ρ1,b,w1,hr,hR,H1,S1⟩:=hj A A1 a w hs H;obtain⟨ρ2,d,w2,hr2,hR2,H2,S2⟩:=(hf ρ1 a b S1.le hR).sound e H1;exact⟨ρ2,d,w2,by show Sem.run P (_>>=_) w=_;rw[Sem.run_bind,hr];exact hr2,hR2,H2,S1.trans S2⟩
 |programR hk ih=>exact .programR (ih hf)
 |markR hk ih=>exact .markR (ih hf)
 |equivR h hk ih=>
  exact .equivR (fun w=>by show Sem.run P (_>>=_) w=Sem.run P (_>>=_) w;rw[Sem.run_bind,Sem.run_bind,h]) (ih hf)
end Go.Proofs.Eng
end
section
set_option linter.unusedSimpArgs false
set_option linter.unusedVariables false
namespace Go.Proofs.Eng
def np:Fn→Bool
 |.yield _=>false
 |_=>true
mutual
def bP:Value→Bool
 |.bool _|.int _ _|.float _ _|.complex _ _ _|.string _|.nilFunc|.nilIface=>true
 |.pointer a=>a.isNone
 |.slice a _ _=>a.isNone
 |.map r=>r.isNone
 |.chan r=>r.isNone
 |.func f ⟨x⟩ ⟨y⟩=>np f&&fi x&&fi y
 |.iface _ v=>bP v
 |.agg ⟨x⟩=>fi x
 |.tuple ⟨x⟩=>fi x
def fi:List Value→Bool
 |[]=>true
 |v::l=>bP v&&fi l
end
theorem iw.plain{ρ:br}{f f':Fn}(h:iw ρ f f')(hp:np f=true):f'=f:=by cases h<;>first|rfl|simp[np]at hp
theorem iw.self{ρ:br}{f:Fn}(hp:np f=true):iw ρ f f:=by
 cases f<;>first|
  (simp[np]at hp;done)|constructor
mutual
theorem aX.plain{ρ:br}:∀{v v':Value},aX ρ v v'→bP v=true→v'=v
 |_,_,.bool _,_=>rfl
 |_,_,.int _ _,_=>rfl
 |_,_,.float _ _,_=>rfl
 |_,_,.complex _ _ _,_=>rfl
 |_,_,.string _,_=>rfl
 |_,_,.ptrNone,_=>rfl
 |_,_,.ptr _,hp=>by simp[bP]at hp
 |_,_,.sliceNone _ _,_=>rfl
 |_,_,.slice _ _,hp=>by simp[bP]at hp
 |_,_,.mapNone,_=>rfl
 |_,_,.map _,hp=>by simp[bP]at hp
 |_,_,.chanNone,_=>rfl
 |_,_,.func (f:=f) (x:=⟨x⟩) (x':=⟨x'⟩) (y:=⟨y⟩) (y':=⟨y'⟩) h hx hy,hp=>by simp only[bP,Bool.and_eq_true]at hp;have h1:x'=x:=bD.plain hx hp.1.2;have h2:y'=y:=bD.plain hy hp.2;rw[h.plain hp.1.1,h1,h2]
 |_,_,.nilFunc,_=>rfl
 |_,_,.iface t h,hp=>by rw[aX.plain h (by simpa[bP]using hp)]
 |_,_,.nilIface,_=>rfl
 |_,_,.agg (x:=⟨x⟩) (x':=⟨x'⟩) h,hp=>by have h1:x'=x:=bD.plain h (by simpa[bP]using hp);rw[h1]
 |_,_,.tuple (x:=⟨x⟩) (x':=⟨x'⟩) h,hp=>by have h1:x'=x:=bD.plain h (by simpa[bP]using hp);rw[h1]
theorem bD.plain{ρ:br}:∀{l l':List Value},bD ρ l l'→fi l=true→l'=l
 |_,_,.nil,_=>rfl
 |_,_,.cons h t,hp=>by simp only[fi,Bool.and_eq_true]at hp;rw[aX.plain h hp.1,bD.plain t hp.2]
end
mutual
theorem aX.self{ρ:br}:∀{v:Value},bP v=true→aX ρ v v
 |.bool _,_=> .bool _
 |.int _ _,_=> .int _ _
 |.float _ _,_=> .float _ _
 |.complex _ _ _,_=> .complex _ _ _
 |.string _,_=> .string _
 |.pointer none,_=> .ptrNone
 |.pointer (some _),hp=>by simp[bP]at hp
 |.slice none _ _,_=> .sliceNone _ _
 |.slice (some _) _ _,hp=>by simp[bP]at hp
 |.map none,_=> .mapNone
 |.map (some _),hp=>by simp[bP]at hp
 |.chan none,_=> .chanNone
 |.chan (some _),hp=>by simp[bP]at hp
 |.func f ⟨x⟩ ⟨y⟩,hp=>by simp only[bP,Bool.and_eq_true]at hp;exact .func (.self hp.1.1) (bD.self hp.1.2) (bD.self hp.2)
 |.nilFunc,_=> .nilFunc
 |.iface t v,hp=> .iface t (aX.self (by simpa[bP]using hp))
 |.nilIface,_=> .nilIface
 |.agg ⟨x⟩,hp=> .agg (bD.self (by simpa[bP]using hp))
 |.tuple ⟨x⟩,hp=> .tuple (bD.self (by simpa[bP]using hp))
theorem bD.self{ρ:br}:∀{l:List Value},fi l=true→bD ρ l l
 |[],_=> .nil
 |v::l,hp=>by simp only[fi,Bool.and_eq_true]at hp;exact .cons (aX.self hp.1) (bD.self hp.2)
end
theorem aX.undef{ρ:br}:aX ρ Go.undef Go.undef:=.tuple .nil
theorem bD.append{ρ:br}:∀{a a' b b':List Value},bD ρ a a'→bD ρ b b'→bD ρ (a++b) (a'++b')
 |_,_,_,_,.nil,h=>h
 |_,_,_,_,.cons x t,h=> .cons x (t.append h)
theorem bD.drop{ρ:br}:∀{a a':List Value}(n:Nat),bD ρ a a'→bD ρ (a.drop n) (a'.drop n)
 |_,_,0,h=>h
 |_,_,_+1,.nil=> .nil
 |_,_,n+1,.cons _ t=>t.drop n
theorem bD.take{ρ:br}:∀{a a':List Value}(n:Nat),bD ρ a a'→bD ρ (a.take n) (a'.take n)
 |_,_,0,_=>by simpa using bD.nil
 |_,_,_+1,.nil=> .nil
 |_,_,n+1,.cons x t=> .cons x (t.take n)
def bg(ρ:br)(x x':Array Value):Prop:=bD ρ x.toList x'.toList
theorem bg.size{ρ:br}{x x':Array Value}(h:bg ρ x x'):x.size=x'.size:=by simpa using bD.length h
theorem bg.extract{ρ:br}{x x':Array Value}(h:bg ρ x x')(i j:Nat):bg ρ (x.extract i j) (x'.extract i j):=by unfold bg;rw[Array.toList_extract,Array.toList_extract];exact(bD.drop i h).take (j-i)
theorem bg.get{ρ:br}{x x':Array Value}(h:bg ρ x x'){i:Nat}{v:Value}(e:x[i]?=some v):∃v',x'[i]?=some v'∧aX ρ v v':=by have:=bD.get? h i v (by simpa using e);simpa using this
theorem bg.none{ρ:br}{x x':Array Value}(h:bg ρ x x'){i:Nat}(e:x[i]?=Option.none):x'[i]?=Option.none:=by rw[Array.getElem?_eq_none_iff]at*;rw[←h.size];exact e
theorem bg.push{ρ:br}{x x':Array Value}(h:bg ρ x x'){v v':Value}(hv:aX ρ v v'):bg ρ (x.push v) (x'.push v'):=by unfold bg;rw[Array.toList_push,Array.toList_push];exact bD.append h (.cons hv .nil)
theorem bg.append{ρ:br}{x x' y y':Array Value}(h:bg ρ x x')(h2:bg ρ y y'):bg ρ (x++y) (x'++y'):=by unfold bg;rw[Array.toList_append,Array.toList_append];exact bD.append h h2
theorem bg.of_get{ρ:br}{x x':Array Value}(hs:x.size=x'.size)(h:∀(i:Nat)(v v':Value),x[i]?=some v→x'[i]?=some v'→aX ρ v v'):bg ρ x x':=bD.of_get (by simpa using hs) (fun i v v' a b=>h i v v' (by simpa using a) (by simpa using b))
theorem bg.set{ρ:br}{x x':Array Value}(h:bg ρ x x')(i:Nat){v v':Value}(hv:aX ρ v v'):bg ρ (x.setIfInBounds i v) (x'.setIfInBounds i v'):=by
 refine bg.of_get (by simpa using h.size) (fun j u u' a b=>?_);rw[Array.getElem?_setIfInBounds]at a b;by_cases hij:i=j;·
  subst hij;have:=h.size;by_cases hlt:i<x.size;·simp[hlt]at a;simp[←this,hlt]at b;subst a b;exact hv
  ·simp[hlt]at a
 ·simp[hij]at a b;obtain⟨w,h1,h2⟩:=h.get a;rw[b]at h1;cases h1;exact h2
theorem bg.mono{ρ ρ':br}(hl:ρ.le ρ'){x x':Array Value}(h:bg ρ x x'):bg ρ' x x':=bD.mono hl h
theorem aX.cells{ρ:br}{v v':Value}(h:aX ρ v v'):bg ρ v.cells v'.cells:=by
 cases h with
 |agg h=>exact h
 |_=>exact bD.cons (by constructor<;>assumption) .nil
def lX{α:Type}(_:br)(a b:α):Prop:=a=b
theorem bj.bnd{α β γ δ:Type}{P:Program}{R:br→α→β→Prop}{R':br→γ→δ→Prop}{ρ:br}{s:Sem α}{s':Sem β}{f:α→Sem γ}{f':β→Sem δ}(h:bj P R ρ s s')(hf:∀ρ' a b,ρ.le ρ'→R ρ' a b→bj P R' ρ' (f a) (f' b)):bj P R' ρ (s>>=f) (s'>>=f'):=h.bind hf
theorem bj.eqBnd{α γ δ:Type}{P:Program}{R':br→γ→δ→Prop}{ρ:br}{s s':Sem α}{f:α→Sem γ}{f':α→Sem δ}(h:bj P lX ρ s s')(hf:∀ρ' a,ρ.le ρ'→bj P R' ρ' (f a) (f' a)):bj P R' ρ (s>>=f) (s'>>=f'):=h.bind fun ρ' a b hl e=>by cases e;exact hf ρ' a hl
variable{P:Program}{ρ:br}
theorem wK{a a':Addr}(h:dE ρ a a'):bj P aX ρ (load a) (load a'):=.load h fun _ _ hv=> .pure hv
theorem CI{a a':Addr}{v v':Value}(h:dE ρ a a')(hv:aX ρ v v'):bj P lX ρ (store a v) (store a' v'):=.store h hv (.pure rfl)
theorem gU(t:TypeId):bj P lX ρ (typeInfo t) (typeInfo t):=.program (by
 show bj P lX ρ (match P.info? t with|some i=>pure i|none=>stuck _) (match P.info? t with|some i=>pure i|none=>stuck _);cases P.info? t<;>first|exact .pure rfl|exact .halt)
theorem bt(t:TypeId):bj P lX ρ (underlying t) (underlying t):=.program (by
 show bj P lX ρ (match P.underlying t with|some i=>pure i|none=>stuck _) (match P.underlying t with|some i=>pure i|none=>stuck _);cases P.underlying t<;>first|exact .pure rfl|exact .halt)
theorem cg(t:TypeId):bj P lX ρ (sizeOf t) (sizeOf t):=(gU t).eqBnd fun _ _ _=> .pure rfl
theorem tz(t:TypeId):bj P lX ρ (isAgg t) (isAgg t):=(bt t).eqBnd fun _ d _=>by cases d<;>exact .pure rfl
def eo(P:Program)(t:TypeId):Prop:=∀i v,P.info? t=some i→i.zero=some v→bP v=true
def G9(P:Program)(t:TypeId):Bool:=match P.info? t with
 |some i=>match i.zero with
  |some v=>bP v
  |none=>true
 |none=>true
theorem tD{t:TypeId}(h:G9 P t=true):eo P t:=fun i v h1 h2=>by unfold G9 at h;rw[h1]at h;dsimp only at h;rw[h2]at h;exact h
def uG(P:Program)(t:TypeId):Bool:=match P.underlying t with
 |some (.slice e)=>G9 P e
 |_=>true
theorem A_{t:TypeId}(h:uG P t=true):∀e,P.underlying t=some (.slice e)→eo P e:=fun e h1=>by unfold uG at h;rw[h1]at h;exact tD h
theorem dR{t:TypeId}(hz:eo P t):bj P aX ρ (zeroValue t) (zeroValue t):=.program (by
 show bj P aX ρ ((match P.info? t with|some i=>pure i|none=>stuck _:Sem TypeInfo)>>=_) ((match P.info? t with|some i=>pure i|none=>stuck _:Sem TypeInfo)>>=_);cases h:P.info? t with
 |none=>exact .halt
 |some i=>
   show bj P aX ρ (match i.zero with|some v=>pure v|none=>unsupported _) (match i.zero with|some v=>pure v|none=>unsupported _);cases h2:i.zero with
   |none=>exact .halt
   |some v=>exact .pure (aX.self (hz i v h h2)))
theorem iR{a a':Addr}:∀(n:Nat){ρ:br}(i:Nat){acc acc':Array Value},dE ρ a a'→bg ρ acc acc'→bj P bg ρ (loadCellsFrom a i n acc) (loadCellsFrom a' i n acc')
 |0,_,_,_,_,_,hc=> .pure hc
 |n+1,_,i,_,_,h,hc=>(wK (h.add i)).bnd fun _ _ _ hl hv=>iR n (i+1) (h.mono hl) ((hc.mono hl).push hv)
theorem gj{a a':Addr}(h:dE ρ a a')(n:Nat):bj P bg ρ (loadCells a n) (loadCells a' n):=iR n 0 h bD.nil
theorem fG{a a':Addr}:∀{ρ:br}{vs vs':List Value}(i:Nat),dE ρ a a'→bD ρ vs vs'→bj P lX ρ (storeCells a vs i) (storeCells a' vs' i)
 |_,_,_,_,_,.nil=> .pure rfl
 |_,_,_,i,h,.cons hv t=>(CI (h.add i) hv).bnd fun _ _ _ hl _=>fG (i+1) (h.mono hl) (t.mono hl)
theorem kN(t:TypeId){a a':Addr}(h:dE ρ a a'):bj P aX ρ (loadVar t a) (loadVar t a'):=(tz t).eqBnd fun _ b hl=>by
 cases b with
 |true=>exact(cg t).eqBnd fun _ n hl2=>(gj (h.mono (hl.trans hl2)) n).bnd fun _ _ _ _ hc=> .pure (.agg hc)
 |false=>exact wK (h.mono hl)
theorem uH(t:TypeId){a a':Addr}{v v':Value}(h:dE ρ a a')(hv:aX ρ v v'):bj P lX ρ (storeVar t a v) (storeVar t a' v'):=(cg t).eqBnd fun _ n hl=>by
 have hs:=hv.cells.size;rw[hs];by_cases hn:v'.cells.size≠n;·rw[if_pos hn,if_pos hn];exact .halt
 ·rw[if_neg hn,if_neg hn];exact fG 0 (h.mono hl) (bD.mono hl hv.cells)
theorem iy{o o':Obj}(h:sL ρ o o'):bj P gx ρ (newObj o) (newObj o'):=.new h fun _ _ _ _ hr=> .pure hr
theorem sL.cells{c c':Array Value}(h:bg ρ c c')(e:TypeId):sL ρ (.cells c e) (.cells c' e):=fun p hs ht=>by
 refine .cells hs (by rw[hs,h.size];omega) ht (fun i v hv=>?_) ⟨Nat.le_refl _,fun j _ h2=>absurd h2 (Nat.not_lt_zero _),fun _=>Nat.zero_le _⟩;rw[hs,Nat.zero_add];exact h.get hv
theorem mC(e:TypeId){c c':Array Value}(h:bg ρ c c'):bj P dE ρ (newRow e c) (newRow e c'):=(iy (sL.cells h e)).bnd fun _ _ _ _⟨p,h1,h2,h3⟩=> .pure ⟨rfl,p,h1,by rw[h2,h3,Nat.zero_add]⟩
theorem qJ(t:TypeId){v v':Value}(h:aX ρ v v'):bj P dE ρ (newVar t v) (newVar t v'):=mC t h.cells
theorem wL(t:TypeId){cs cs':Array Value}(h:bg ρ cs cs')(off:Nat):bj P aX ρ (part t cs off) (part t cs' off):=(tz t).eqBnd fun _ b hl=>by
 cases b with
 |true=>exact(cg t).eqBnd fun _ n hl2=> .pure (.agg ((h.mono (hl.trans hl2)).extract _ _))
 |false=>show bj P aX _ (match cs[off]? with|some v=>pure v|none=>stuck _) (match cs'[off]? with|some v=>pure v|none=>stuck _);cases e:cs[off]? with
          |none=>exact .halt
          |some v=>obtain⟨v',h1,h2⟩:=(h.mono hl).get e;rw[h1];exact .pure h2
theorem fH{v v':Value}(h:aX ρ v v'):bj P dE ρ (Instr.sureAddr v) (Instr.sureAddr v'):=by cases h<;>first|exact .halt|exact .pure ‹_›
theorem iS{v v':Value}(h:aX ρ v v'):bj P lX ρ (asIntOf v) (asIntOf v'):=by cases h<;>first|exact .halt|exact .pure rfl
theorem lD{v v':Value}(h:aX ρ v v'):bj P lX ρ (asInt v) (asInt v'):=(iS h).eqBnd fun _ _ _=> .pure rfl
theorem CJ{v v':Value}(h:aX ρ v v'):bj P bg ρ (asAgg v) (asAgg v'):=by cases h<;>first|exact .halt|exact .pure ‹_›
theorem ic{α β:Type}{s:Sem α}{f:α→Sem β}(h:∀a A,bO P (f a) A=none)(A:AW):bO P (s>>=f) A=none:=by
 show bO P (Sem.bind _ _) A=none;rw[g_];cases bO P s A with
 |none=>rfl
 |some x=>exact h _ _
theorem di{α:Type}(e:RuntimeError)(A:AW):bO P (runtimePanic e:Sem α) A=none:=by cases e<;>first
 |rfl
 |exact ic (fun _ _=>ic (fun _ _=>ic (fun _ _=>rfl) _) _) _
theorem lE{α β:Type}{R:br→α→β→Prop}{e:RuntimeError}{s':Sem β}:bj P R ρ (runtimePanic e) s':=.fails (di e)
theorem iz{α β:Type}{R:br→α→β→Prop}{k:IntKind}{x y:Int}{c:BoundsCode}{s':Sem β}:bj P R ρ (boundsPanic k x y c) s':=.fails fun A=>by unfold boundsPanic;dsimp only;split<;>exact ic (fun _ _=>di _ _) A
end Go.Proofs.Eng
end
section
set_option linter.unusedSimpArgs false
set_option linter.unusedVariables false
namespace Go.Proofs.Eng
def oB:Next→Bool
 |.value _|.skip|.enter _ _|.round .. |.defer _|.recover=>true
 |_=>false
inductive bM(ρ:br):Next→Next→Prop|value{v v':Value}(h:aX ρ v v'):bM ρ (.value v) (.value v')|skip:bM ρ .skip .skip|enter{f:FuncId}{x x':Array Value}(h:bg ρ x x'):bM ρ (.enter f x) (.enter f x')|round{l l':Nat}{f f':FuncId}{x x':Array Value}{a b:Code}(hl:gx ρ l l')(h:bg ρ x x'):bM ρ (.round l f x a b) (.round l' f' x' a b)|defer{d d':Deferred}(h:CH ρ d d'):bM ρ (.defer d) (.defer d')|recover:bM ρ .recover .recover|other{n n':Next}(h:oB n=false):bM ρ n n'
variable{P:Program}{ρ:br}
theorem dj{γ δ:Type}{R':br→γ→δ→Prop}{t:TypeId}{f:TypeDesc→Sem γ}{f':TypeDesc→Sem δ}(h:∀d,P.underlying t=some d→bj P R' ρ (f d) (f' d)):bj P R' ρ (underlying t>>=f) (underlying t>>=f'):=.program (by
 show bj P R' ρ ((match P.underlying t with|some i=>pure i|none=>stuck _:Sem TypeDesc)>>=f) ((match P.underlying t with|some i=>pure i|none=>stuck _:Sem TypeDesc)>>=f');cases e:P.underlying t with
 |none=>exact .halt
 |some d=>exact h d e)
theorem qK{γ δ:Type}{R':br→γ→δ→Prop}{t:TypeId}{f:Nat→Sem γ}{f':Nat→Sem δ}(h:∀d,P.info? t=some d→bj P R' ρ (f d.size) (f' d.size)):bj P R' ρ (sizeOf t>>=f) (sizeOf t>>=f'):=.program (by
 show bj P R' ρ (((match P.info? t with|some i=>pure i|none=>stuck _:Sem TypeInfo)>>=fun i=>pure i.size)>>=f) (((match P.info? t with|some i=>pure i|none=>stuck _:Sem TypeInfo)>>=fun i=>pure i.size)>>=f');cases e:P.info? t with
 |none=>exact .halt
 |some d=>exact h d e)
theorem nq{α β:Type}{f:α→Sem β}(hf:∀ρ x,bj P lX ρ (f x) (f x)):∀(l:List α)(ρ:br),bj P lX ρ (l.mapM f) (l.mapM f)
 |[],ρ=>by rw[List.mapM_nil];exact .pure rfl
 |x::l,ρ=>by rw[List.mapM_cons];exact(hf ρ x).eqBnd fun ρ' b _=>(nq hf l ρ').eqBnd fun _ _ _=> .pure rfl
theorem Eo{α β:Type}{f:α→Sem β}(hf:∀ρ x,bj P lX ρ (f x) (f x))(l:Array α):bj P lX ρ (l.mapM f) (l.mapM f):=by rw[Array.mapM_eq_mapM_toList];exact(nq hf l.toList ρ).eqBnd fun _ _ _=> .pure rfl
theorem wM(s:TypeId){v v':Value}(h:aX ρ v v')(i:Nat)(hz:∀fs f d,P.underlying s=some (.struct fs)→fs[i]?=some f→P.info? f.type=some d→d.size≠0):bj P aX ρ (Instr.fieldAt s v i) (Instr.fieldAt s v' i):=by
 refine dj fun d hd=>?_;cases d<;>try exact .halt
 rename_i fs;dsimp only;cases hf:fs[i]? with
 |none=>exact .halt
 |some f=>refine(fH h).bnd fun ρ1 a a' hl ha=>?_;refine bj.bnd (R:=dE) ?_ fun _ _ _ _ hv=> .pure (.ptr hv);refine qK fun d' hd'=>?_;have:=hz fs f d' hd hf hd';rw[if_neg this,if_neg this];exact .pure (ha.add _)
theorem wO (t : TypeId) {x x' i i' : Value} (hx : aX ρ x x') (hi : aX ρ i i') : bj P aX ρ (Instr.indexAt t x i) (Instr.indexAt t x' i') := by
  refine (iS hi).eqBnd fun ρ1 ⟨k, n⟩ hl => ?_
  have hx := hx.mono hl
  have some_ : ∀ {ρ : br} {a a' : Addr} (len : Nat) (elem : TypeId), dE ρ a a' → bj P aX ρ
      (do
        let __do_lift ← underlying t
        let tiny := len ≤ 1 && (match __do_lift with | .array .. => true | _ => false)
        if 0 ≤ n ∧ n < len then pure (.pointer (some (a.add (n.toNat * (← sizeOf elem)))))
        else if tiny then unsupported (.noEntry "op/indexAddr.an index out of range at an array of length 0 or 1 (ledger 616)")
        else boundsPanic k n len .index)
      (do
        let __do_lift ← underlying t
        let tiny := len ≤ 1 && (match __do_lift with | .array .. => true | _ => false)
        if 0 ≤ n ∧ n < len then pure (.pointer (some (a'.add (n.toNat * (← sizeOf elem)))))
        else if tiny then unsupported (.noEntry "op/indexAddr.an index out of range at an array of length 0 or 1 (ledger 616)")
        else boundsPanic k n len .index) := by
    intro ρ a a' len elem ha
    refine (bt t).eqBnd fun ρ3 d hl3 => ?_
    dsimp only
    repeat' split
    all_goals first
      | exact .halt
      | exact iz
      | exact (cg _).eqBnd fun _ _ hl4 => .pure (.ptr ((ha.mono (hl3.trans hl4)).add _))
  have none_ : ∀ {ρ : br} (len : Nat), bj P aX ρ
      (do
        let __do_lift ← underlying t
        let tiny := len ≤ 1 && (match __do_lift with | .array .. => true | _ => false)
        (boundsPanic k n 0 .index : Sem Value))
      (do
        let __do_lift ← underlying t
        let tiny := len ≤ 1 && (match __do_lift with | .array .. => true | _ => false)
        (boundsPanic k n 0 .index : Sem Value)) := fun len => (bt t).eqBnd fun _ _ _ => iz
  refine (bt t).eqBnd fun ρ2 d hl2 => ?_
  have hx := hx.mono hl2
  cases d <;> try exact .halt
  · cases hx <;> first
      | exact .halt
      | exact some_ _ _ ‹_›
      | exact none_ 0
  · exact (fH hx).bnd fun _ _ _ _ ha => some_ _ _ ha
theorem CK(t:TypeId){x x':Value}(hx:aX ρ x x')(i:Nat):bj P aX ρ (Instr.field t x i) (Instr.field t x' i):=by
 refine(bt t).eqBnd fun ρ1 d hl=>?_;cases d<;>try exact .halt
 rename_i fs;dsimp only;cases fs[i]? with
 |none=>exact .halt
 |some f=>exact(CJ (hx.mono hl)).bnd fun _ _ _ _ hc=>wL _ hc _
theorem CL(t:TypeId){x x' i i':Value}(hx:aX ρ x x')(hi:aX ρ i i'):bj P aX ρ (Instr.index t x i) (Instr.index t x' i'):=by
 refine(iS hi).eqBnd fun ρ1⟨k,n⟩hl=>?_;refine(bt t).eqBnd fun ρ2 d hl2=>?_;have hx:=hx.mono (hl.trans hl2);cases hx<;>cases d<;>try exact .halt
 ·
  dsimp only;split;·exact .pure (.int _ _)
  ·exact iz
 ·
  dsimp only;split;·exact(cg _).eqBnd fun _ _ hl3=>wL _ (bg.mono hl3 ‹_›) _
  ·exact iz
theorem wP{x x':Value}(hx:aX ρ x x')(i:Nat):bj P aX ρ (Instr.extract x i) (Instr.extract x' i):=by
 cases hx<;>try exact .halt
 rename_i y y' h;show bj P aX ρ (match y[i]? with|some v=>pure v|none=>stuck _) (match y'[i]? with|some v=>pure v|none=>stuck _);cases e:y[i]? with
 |none=>exact .halt
 |some v=>obtain⟨v',h1,h2⟩:=bg.get h e;rw[h1];exact .pure h2
theorem nr(t:TypeId){x x':Value}(hx:aX ρ x x'):bj P aX ρ (Instr.makeInterface t x) (Instr.makeInterface t x'):=(bt t).eqBnd fun ρ1 d hl=>by cases d<;>first|exact .halt|exact .pure (.iface t (hx.mono hl))
theorem qL {x x' : Value} (hx : aX ρ x x') (xt t : TypeId) (hz : eo P t) (ok : Bool) : bj P aX ρ (Instr.typeAssert x xt t ok) (Instr.typeAssert x' xt t ok) := by
 have holds : ∀ (ρ : br) {v v' : Value}, aX ρ v v' → aX ρ (if ok then .tuple #[v, .bool true] else v) (if ok then .tuple #[v', .bool true] else v') := fun ρ v v' h => by
  cases ok;· exact h
  · exact .tuple (.cons h (.cons (.bool _) .nil))
 have fails : ∀ (ρ : br) (a b : Option TypeId) (m : String), bj P aX ρ (if ok then do pure (.tuple #[← zeroValue t, .bool false]) else runtimePanic (.typeAssertion a b t m)) (if ok then do pure (.tuple #[← zeroValue t, .bool false]) else runtimePanic (.typeAssertion a b t m)) := fun ρ a b m => by
  cases ok;· simp only [Bool.false_eq_true, if_false];exact lE
  · exact (dR hz).bnd fun _ _ _ _ hv => .pure (.tuple (.cons hv (.cons (.bool _) .nil)))
 refine (bt t).eqBnd fun ρ1 d hl => ?_;have hx := hx.mono hl;cases hx <;> cases d <;> first
 | exact .halt
 | exact fails _ _ _ _
 | (
    refine (gU _).eqBnd fun ρ2 i hl2 => ?_;dsimp only;split;· exact .pure (holds _ (.iface _ (aX.mono hl2 ‹_›)))
    · exact fails _ _ _ _)
 | (
    dsimp only;split;· exact .pure (holds _ ‹_›)
    · exact fails _ _ _ _)
theorem yQ(t:TypeId){x x':Value}(hx:aX ρ x x'):bj P aX ρ (Instr.loadAt t x) (Instr.loadAt t x'):=(fH hx).bnd fun _ _ _ _ h=>kN t h
theorem wQ(t:TypeId){x x' v v':Value}(hx:aX ρ x x')(hv:aX ρ v v'):bj P lX ρ (Instr.storeAt t x v) (Instr.storeAt t x' v'):=(fH hx).bnd fun _ _ _ hl h=>uH t h (hv.mono hl)
theorem CM(t:TypeId)(hz:eo P t):bj P aX ρ (Instr.alloc t true (.tuple #[])) (Instr.alloc t true (.tuple #[])):=(dR hz).bnd fun _ _ _ _ hv=>(qJ t hv).bnd fun _ _ _ _ ha=> .pure (.ptr ha)
theorem Hk(t:TypeId){v v':Value}(hv:aX ρ v v'):bj P aX ρ (Instr.box t v) (Instr.box t v'):=(qJ t hv).bnd fun _ _ _ _ ha=> .pure (.ptr ha)
inductive iA(ρ:br):List (Nat×Value)→List (Nat×Value)→Prop|nil:iA ρ [] []|cons{i:Nat}{v v':Value}{l l':List (Nat×Value)}(h:aX ρ v v')(t:iA ρ l l'):iA ρ ((i,v)::l) ((i,v')::l')
theorem iA.mono{ρ ρ':br}(h:ρ.le ρ'):∀{l l':List (Nat×Value)},iA ρ l l'→iA ρ' l l'
 |_,_,.nil=> .nil
 |_,_,.cons x t=> .cons (x.mono h) (t.mono h)
theorem iA.of_map{ev ev':Operand→Value}(h:∀x,aX ρ (ev x) (ev' x)):∀(l:List (Nat×Operand)),iA ρ (l.map fun x=>(x.1,ev x.2)) (l.map fun x=>(x.1,ev' x.2))
 |[]=> .nil
 |(i,x)::l=> .cons (h x) (iA.of_map h l)
theorem wR:∀{vs vs':List Value}(n off:Nat){c c':Array Value},bD ρ vs vs'→bg ρ c c'→bg ρ ((vs.zipIdx n).foldl (fun cs(x:Value×Nat)=>cs.setIfInBounds (off+x.2) x.1) c) ((vs'.zipIdx n).foldl (fun cs(x:Value×Nat)=>cs.setIfInBounds (off+x.2) x.1) c')
 |_,_,_,_,_,_,.nil,hc=>by simpa using hc
 |_,_,n,off,_,_,.cons hv t,hc=>by rw[List.zipIdx_cons,List.zipIdx_cons,List.foldl_cons,List.foldl_cons];exact wR (n+1) off t (hc.set _ hv)
theorem wU(place:Nat→Option (Nat×Nat)):∀{l l':List (Nat×Value)}{c c':Array Value},iA ρ l l'→bg ρ c c'→(Instr.fill place c l=none∧Instr.fill place c' l'=none)∨∃d d',Instr.fill place c l=some d∧Instr.fill place c' l'=some d'∧bg ρ d d'
 |_,_,_,_,.nil,hc=> .inr ⟨_,_,rfl,rfl,hc⟩
 |_,_,c,c',.cons (i:=i) (v:=v) (v':=v') hv t,hc=>by
   unfold Instr.fill;cases place i with
   |none=>exact .inl ⟨rfl,rfl⟩
   |some os=>
    obtain⟨off,size⟩:=os;dsimp only;have h1:=hv.cells.size;have h2:=hc.size;rw[h1,h2];by_cases hb:(v'.cells.size≠size||off+v'.cells.size>c'.size)=true;·rw[if_pos hb,if_pos hb];exact .inl ⟨rfl,rfl⟩
    ·rw[if_neg hb,if_neg hb];refine wU place t ?_;have:=wR (ρ:=ρ) 0 off hv.cells hc;rw[←Array.foldl_toList,←Array.foldl_toList,Array.toList_zipIdx,Array.toList_zipIdx];exact this
theorem qM{α β:Type}{R:br→α→β→Prop}(place:Nat→Option (Nat×Nat)){l l':List (Nat×Value)}{c c':Array Value}{k:Array Value→Sem α}{k':Array Value→Sem β}{why:String}(hl:iA ρ l l')(hc:bg ρ c c')(hk:∀d d',bg ρ d d'→bj P R ρ (k d) (k' d')):bj P R ρ (match Instr.fill place c l with|some d=>k d|_=>stuck why) (match Instr.fill place c' l' with|some d=>k' d|_=>stuck why):=by
 rcases wU place hl hc with⟨h1,h2⟩|⟨d,d',h1,h2,h3⟩;·rw[h1,h2];exact .halt
 ·rw[h1,h2];exact hk d d' h3
theorem CN(t:TypeId)(hz:eo P t){l l':Array (Nat×Value)}(h:iA ρ l.toList l'.toList):bj P aX ρ (Instr.build t l) (Instr.build t l'):=by
 refine(dR hz).bnd fun ρ1 z z' hl1 hzz=>?_;refine(bt t).eqBnd fun ρ2 d hl2=>?_;cases d<;>try exact .halt
 ·exact(cg _).eqBnd fun ρ3 n hl3=>qM _ (h.mono (hl1.trans (hl2.trans hl3))) (bg.mono (hl2.trans hl3) hzz.cells) fun _ _ hd=> .pure (.agg hd)
 ·rename_i fs;refine(Eo (fun ρ f=>(cg _).eqBnd fun _ _ _=> .pure rfl) fs).eqBnd fun ρ3 ps hl3=>?_;exact qM _ (h.mono (hl1.trans (hl2.trans hl3))) (bg.mono (hl2.trans hl3) hzz.cells) fun _ _ hd=> .pure (.agg hd)
theorem sM:bP default=true:=rfl
theorem tE{z z':Array Value}(h:bg ρ z z')(n:Nat):bg ρ ((Array.range n).map (z[·%z.size]!)) ((Array.range n).map (z'[·%z'.size]!)):=by
 refine bg.of_get (by simp) (fun i v v' a b=>?_);rw[Array.getElem?_map]at a b;by_cases hi:i<n;·
  simp[hi]at a b;rw[←a,←b,←h.size,getElem!_def,getElem!_def];cases e:z[i%z.size]? with
  |none=>rw[h.none e];exact aX.self sM
  |some u=>obtain⟨u',h1,h2⟩:=h.get e;rw[h1];exact h2
 ·simp[hi]at a
theorem qN (t : TypeId) (hz : ∀ e, P.underlying t = some (.slice e) → eo P e) (n : Nat) (hn : n < dM) {l l' : Array (Nat × Value)} (h : iA ρ l.toList l'.toList) : bj P aX ρ (Instr.buildSlice t n l) (Instr.buildSlice t n l') := by
  refine dj fun d hd0 => ?_
  cases d <;> try exact .halt
  rename_i elem
  refine (cg elem).eqBnd fun ρ2 size hl2 => ?_
  dsimp only
  split
  · exact .halt
  have tail : ∀ {ρ3 : br} {z z' : Array Value}, ρ2.le ρ3 → bg ρ3 z z' → bj P aX ρ3
      (do
        let some cells := Instr.fill (fun i => some (i * size, size)) ((Array.range (n * size)).map (z[· % z.size]!)) l.toList | stuck "buildSlice: a part of the wrong size"
        pure (.slice (some (← newRow elem cells)) n n))
      (do
        let some cells := Instr.fill (fun i => some (i * size, size)) ((Array.range (n * size)).map (z'[· % z'.size]!)) l'.toList | stuck "buildSlice: a part of the wrong size"
        pure (.slice (some (← newRow elem cells)) n n)) := fun hl3 hzz =>
    qM _ (h.mono (hl2.trans hl3)) (tE hzz _) fun _ _ hd => (mC elem hd).bnd fun _ _ _ _ ha => .pure (.slice ha (.inl ⟨rfl, hn⟩))
  by_cases h0 : n * size = 0
  · rw [if_pos h0, if_pos h0]; exact tail (.refl _) .nil
  · rw [if_neg h0, if_neg h0]
    exact (dR (hz _ hd0)).bnd fun _ _ _ hl3 hv => tail hl3 hv.cells
end Go.Proofs.Eng
end
section
set_option linter.unusedSimpArgs false
set_option linter.unusedVariables false
namespace Go.Proofs.Eng
variable{P:Program}{ρ:br}
inductive dG(ρ:br):Option Value→Option Value→Prop|none:dG ρ none none|some{v v':Value}(h:aX ρ v v'):dG ρ (some v) (some v')
theorem dG.mono{ρ ρ':br}(h:ρ.le ρ'){v v':Option Value}(x:dG ρ v v'):dG ρ' v v':=by
 cases x with
 |none=>exact .none
 |some x=>exact .some (x.mono h)
theorem dG.of_map{ev ev':Operand→Value}(h:∀x,aX ρ (ev x) (ev' x))(o:Option Operand):dG ρ (o.map ev) (o.map ev'):=by
 cases o with
 |none=>exact .none
 |some x=>exact .some (h x)
theorem fI{x x':Value}(h:aX ρ x x')(y:Nat)(c:BoundsCode):bj P (fun _ a b=>a=b∧a≤y) ρ (Instr.sliceBound x y c) (Instr.sliceBound x' y c):=(iS h).eqBnd fun ρ1⟨k,i⟩hl=>by
 dsimp only;split;·exact .pure ⟨rfl,by omega⟩
 ·exact iz
theorem eA (b : Bool) (n c : Nat) {lo lo' hi hi' mx mx' : Option Value} (h1 : dG ρ lo lo') (h2 : dG ρ hi hi') (h3 : dG ρ mx mx') :
    bj P (fun _ x y => x = y ∧ x.2.2 ≤ c) ρ (Instr.sliceBounds b n c lo hi mx) (Instr.sliceBounds b n c lo' hi' mx') := by
  have low : ∀ {ρ : br} (h m : Nat) (isS : Bool), m ≤ c → dG ρ lo lo' → bj P (fun _ x y => x = y ∧ x.2.2 ≤ c) ρ
      (do
        let l ← match lo with
          | some v => Instr.sliceBound v h (if isS then .slice3C else .sliceB)
          | none => pure 0
        (pure (l, h, m) : Sem (Nat × Nat × Nat)))
      (do
        let l ← match lo' with
          | some v => Instr.sliceBound v h (if isS then .slice3C else .sliceB)
          | none => pure 0
        (pure (l, h, m) : Sem (Nat × Nat × Nat))) := by
    intro ρ h m isS hm hlo
    cases hlo with
    | none => exact .pure ⟨rfl, hm⟩
    | some hv => exact (fI hv _ _).bnd fun _ _ _ _ e => by cases e.1; exact .pure ⟨rfl, hm⟩
  cases h3 with
  | none =>
    cases h2 with
    | none => exact low _ _ false (Nat.le_refl _) h1
    | some hv => exact (fI hv _ _).bnd fun _ _ _ hl e => by cases e.1; exact low _ _ false (Nat.le_refl _) (h1.mono hl)
  | some hm =>
    refine (fI hm _ _).bnd fun ρ1 m m' hl e => ?_
    obtain ⟨rfl, hmc⟩ := e
    cases h2 with
    | none => exact .halt
    | some hv => exact (fI (hv.mono hl) _ _).bnd fun _ _ _ hl2 e => by cases e.1; exact low _ _ true hmc (h1.mono (hl.trans hl2))
def Ep(P:Program)(t:TypeId):Prop:=(∀n e,P.underlying t=some (.array n e)→n<dM)∧∀a n e,P.underlying t=some (.pointer a)→P.underlying a=some (.array n e)→n<dM
def CO(P:Program)(t:TypeId):Bool:=match P.underlying t with
 |some (.array n _)=>decide (n<dM)
 |some (.pointer a)=>match P.underlying a with
  |some (.array n _)=>decide (n<dM)
  |_=>true
 |_=>true
theorem Er{t:TypeId}(h:CO P t=true):Ep P t:=by
 unfold CO at h;refine⟨fun n e h1=>?_,fun a n e h1 h2=>?_⟩;·rw[h1]at h;simpa using h
 ·rw[h1]at h;dsimp only at h;rw[h2]at h;simpa using h
theorem CP (t : TypeId) (har : Ep P t) {x x' : Value} (hx : aX ρ x x') {lo lo' hi hi' mx mx' : Option Value} (h1 : dG ρ lo lo') (h2 : dG ρ hi hi') (h3 : dG ρ mx mx')
    (hc : ∀ a n c, x = .slice (some a) n c → c < dM) : bj P aX ρ (Instr.slice t x lo hi mx) (Instr.slice t x' lo' hi' mx') := by
  have arr : ∀ {ρ : br}, aX ρ x x' → dG ρ lo lo' → dG ρ hi hi' → dG ρ mx mx' → ∀ arr, P.underlying t = some (.pointer arr) → bj P aX ρ
      (do
        let a ← asAddr x
        let .array n elem ← underlying arr | stuck "Slice: array type expected"
        let (l, h, m) ← Instr.sliceBounds false n n lo hi mx
        let size ← sizeOf elem
        pure (.slice (some (if m = l then a else a.add (l * size))) (h - l) (m - l)))
      (do
        let a ← asAddr x'
        let .array n elem ← underlying arr | stuck "Slice: array type expected"
        let (l, h, m) ← Instr.sliceBounds false n n lo' hi' mx'
        let size ← sizeOf elem
        pure (.slice (some (if m = l then a else a.add (l * size))) (h - l) (m - l))) := by
    intro ρ hx h1 h2 h3 arr hpt
    refine bj.bnd (R := dE) ?_ fun ρ1 a a' hl ha => ?_
    · cases hx <;> first | exact .halt | exact lE (e := .nilDeref) | exact .pure ‹dE _ _ _›
    refine dj fun d hd => ?_
    cases d <;> try exact .halt
    have hsm := har.2 _ _ _ hpt hd
    refine (eA _ _ _ (h1.mono hl) (h2.mono hl) (h3.mono hl)).bnd fun ρ3 x y hl3 e => ?_
    obtain ⟨rfl, hmc⟩ := e
    obtain ⟨l, h, m⟩ := x
    refine (cg _).eqBnd fun ρ4 size hl4 => .pure ?_
    have ha := ha.mono (hl3.trans hl4)
    dsimp only at hmc
    by_cases hm : m = l
    · simp only [hm, if_true]; exact .slice ha (.inl ⟨rfl, by omega⟩)
    · simp only [hm, if_false]; exact .slice (ha.add _) (.inl ⟨rfl, by omega⟩)
  refine dj fun d hd0 => ?_
  have hx' := hx
  cases d <;> try exact .halt
  · cases hx' <;> try exact .halt
    cases h3 with
    | some _ => exact .halt
    | none =>
      exact (eA _ _ _ h1 h2 .none).bnd fun _ x y _ e => by cases e.1; obtain ⟨l, h, m⟩ := x; exact .pure (.string _)
  · exact arr hx' h1 h2 h3 _ hd0
  · cases hx' <;> try exact .halt
    · refine (eA _ _ _ h1 h2 h3).bnd fun ρ3 x y hl3 e => ?_
      cases e.1
      obtain ⟨l, h, m⟩ := x
      refine (cg _).eqBnd fun ρ4 size hl4 => .pure ?_
      by_cases hm : m = l
      · simp only [hm, if_true]; exact .sliceNone _ _
      · simp only [hm, if_false, Option.map_none]; exact .sliceNone _ _
    · rename_i a a' n c c' ha hcr
      have hlt := hc _ _ _ rfl
      rcases hcr with ⟨rfl, _⟩ | ⟨hb, _⟩
      · refine (eA _ _ _ h1 h2 h3).bnd fun ρ3 x y hl3 e => ?_
        obtain ⟨rfl, hmc⟩ := e
        obtain ⟨l, h, m⟩ := x
        refine (cg _).eqBnd fun ρ4 size hl4 => .pure ?_
        have ha := ha.mono (hl3.trans hl4)
        dsimp only at hmc
        by_cases hm : m = l
        · simp only [hm, if_true]; exact .slice ha (.inl ⟨rfl, by omega⟩)
        · simp only [hm, if_false, Option.map_some]; exact .slice (ha.add _) (.inl ⟨rfl, by omega⟩)
      · omega
theorem Oo{P:Prop}(h:P:=by
 obtain⟨rfl,hmc⟩:=e;obtain⟨l,h,m⟩:=x;refine(cg _).eqBnd fun ρ4 size hl4=> .pure ?_;have ha:=ha.mono (hl3.trans hl4);dsimp only at hmc;by_cases hm:m=l;·simp only[hm,if_true];exact .slice ha (.inl ⟨rfl,by omega⟩)
 ·simp only[hm,if_false];exact .slice (ha.add _) (.inl ⟨rfl,by omega⟩)):P:=h
theorem pw(t:TypeId)(har:Ep P t){x x':Value}(hx:aX ρ x x'){lo lo' hi hi' mx mx':Option Value}(h1:dG ρ lo lo')(h2:dG ρ hi hi')(h3:dG ρ mx mx')(hc:∀a n c,x=.slice (some a) n c→c<dM):bj P aX ρ (Instr.sliceAt t x lo hi mx) (Instr.sliceAt t x' lo' hi' mx'):=by
 refine dj fun d hd=>?_;cases d<;>try exact CP t har hx h1 h2 h3 hc
 have hsm:=har.1 _ _ hd;refine(fH hx).bnd fun ρ2 a a' hl2 ha=>?_;refine(eA _ _ _ (h1.mono hl2) (h2.mono hl2) (h3.mono hl2)).bnd fun ρ3 x y hl3 e=>?_;exact Oo
theorem cq.length{ρ:br}:∀{l l':List MapEntry},cq ρ l l'→l.length=l'.length
 |_,_,.nil=>rfl
 |_,_,.cons _ _ t=>by simp[t.length]
theorem yR{α β:Type}{R:br→α→β→Prop}{r r':Nat}(h:gx ρ r r'){why:String}{k:Array MapEntry→Nat→Sem α}{k':Array MapEntry→Nat→Sem β}(hk:∀es es' c,cq ρ es.toList es'.toList→bj P R ρ (k es c) (k' es' c)):bj P R ρ (getObj r>>=fun o=>match o with|.map es c=>k es c|_=>stuck why) (getObj r'>>=fun o=>match o with|.map es c=>k' es c|_=>stuck why):=.getObj h.at fun o o' p ho=>by cases ho<;>first|exact .halt|exact hk _ _ _ ‹_›
theorem Hl(ts:Array TypeId)(t:TypeId){x x':Array Value}(h:bg ρ x x'):bj P aX ρ (Builtin.len_ ts t x) (Builtin.len_ ts t x'):=by
 unfold Builtin.len_;cases ts[0]? with
 |none=>exact .halt
 |some t0=>
   cases e:x[0]? with
   |none=>exact .halt
   |some v=>
    obtain⟨v',h1,h2⟩:=h.get e;rw[h1];refine(bt t0).eqBnd fun ρ1 d hl=>?_;have h2:=h2.mono hl;cases d<;>cases h2<;>first
    |exact .halt
    |exact .pure (.int _ _)
    |(refine(bt _).eqBnd fun ρ2 d2 hl2=>?_;cases d2<;>first|exact .halt|exact .pure (.int _ _))
    |exact yR ‹_› fun es es' c hm=> .pure (by
       have:es.size=es'.size:=by simpa using hm.length
       rw[this];exact .int _ _)
theorem tF{x x':Value}(h:aX ρ x x'):bj P lX ρ (Builtin.lenOf x) (Builtin.lenOf x'):=by cases h<;>first|exact .halt|exact .pure rfl
theorem dn(size n:Nat){x x':Value}(h:aX ρ x x'):bj P bg ρ (Builtin.firstCells size n x) (Builtin.firstCells size n x'):=by
 cases h<;>first
 |exact .halt
 |exact .pure .nil
 |exact gj ‹_› _
 |(refine .pure (bg.of_get rfl fun i v v' a b=>?_);rw[a]at b;cases b;rw[Array.getElem?_map]at a;cases e:(ByteArray.extract _ 0 n).data[i]? with
    |none=>rw[e]at a;cases a
    |some u=>rw[e]at a;cases a;exact .int _ _)
theorem Es(ts:Array TypeId)(t:TypeId){x x':Array Value}(h:bg ρ x x'):bj P aX ρ (Builtin.copy_ ts t x) (Builtin.copy_ ts t x'):=by
 unfold Builtin.copy_;cases ts[0]? with
 |none=>exact .halt
 |some t0=>
   cases e:x[0]? with
   |none=>exact .halt
   |some d=>
     obtain⟨d',h1,hd⟩:=h.get e;cases e2:x[1]? with
     |none=>exact .halt
     |some s=>
      obtain⟨s',h2,hs⟩:=h.get e2;rw[h1,h2];refine(bt t0).eqBnd fun ρ1 ty hl=>?_;cases ty<;>try exact .halt
      have hd:=hd.mono hl;have hs:=hs.mono hl;cases hd<;>try exact .halt
      ·exact(tF hs).eqBnd fun ρ2 n hl2=>(cg _).eqBnd fun ρ3 size hl3=>(dn _ _ (hs.mono (hl2.trans hl3))).bnd fun _ _ _ _ _=> .pure (.int _ _)
      ·rename_i a a' _ _ _ ha _;exact(tF hs).eqBnd fun ρ2 n hl2=>(cg _).eqBnd fun ρ3 size hl3=>(dn _ _ (hs.mono (hl2.trans hl3))).bnd fun ρ4 c c' hl4 hc=>(fG 0 (ha.mono (hl2.trans (hl3.trans hl4))) hc).bnd fun _ _ _ _ _=> .pure (.int _ _)
end Go.Proofs.Eng
end
section
set_option linter.unusedSimpArgs false
set_option linter.unusedVariables false
namespace Go.Proofs.Eng
variable{P:Program}{ρ:br}
inductive lF where|same|loadT(k:IntKind)|storeT|casT(k:IntKind)|addT(k:IntKind)|acquire|releaseMerge|disable|enable
open Go.Extern in
def lF.sem : lF → Array Value → Sem Value
  | .same => AbiNoEscape.same
  | .loadT k => Atomic.loadT (.int k)
  | .storeT => Atomic.storeT
  | .casT k => Atomic.casT (.int k)
  | .addT k => Atomic.update (Op.intArith .add) k true
  | .acquire => Race.marked .acquire
  | .releaseMerge => Race.marked .releaseMerge
  | .disable => fun _ => do mark .disable; pure Race.none_
  | .enable => fun _ => do mark .enable; pure Race.none_
theorem jJ{v v':Value}(h:aX ρ v v'):bj P dE ρ (asAddr v) (asAddr v'):=by cases h<;>first|exact .halt|exact lE (e:=.nilDeref)|exact .pure ‹dE _ _ _›
theorem wV(k:IntKind){a a':Addr}(h:dE ρ a a'):bj P aX ρ (Go.Extern.Atomic.read (.int k) a) (Go.Extern.Atomic.read (.int k) a'):=.load h fun v v' hv=>by
 cases hv<;>try exact .halt
 ·
  show bj P aX ρ (if _ then _ else _) (if _ then _ else _);split;·exact .pure (.int _ _)
  ·exact .halt
 ·cases k<;>first|exact .halt|exact .pure .ptrNone|exact .pure (.ptr ‹_›)
theorem bg.lists{x x':Array Value}(h:bg ρ x x'):∃l l',x=⟨l⟩∧x'=⟨l'⟩∧bD ρ l l':=by obtain⟨l⟩:=x;obtain⟨l'⟩:=x';exact⟨l,l',rfl,rfl,h⟩
theorem uI(o:BinOp)(k:IntKind)(a b:Int):bj P aX ρ (Op.intArith o k a b) (Op.intArith o k a b):=by cases o<;>first|exact .halt|exact .pure (.int _ _)
theorem qO{r r':Nat}(h:wJ ρ r r'):bj P (fun _(a:Option (Addr×TypeId))b=>a=none∧b=none) ρ (viewAt r) (viewAt r'):=.shape (Classical.choose_spec h).1 (Classical.choose_spec h).2 fun x x' hx=>by
 cases x<;>cases x'<;>try exact hx.elim
 ·refine .getObj h fun o o' p ho=>?_;cases ho<;>exact .pure ⟨rfl,rfl⟩
 ·exact .pure ⟨rfl,rfl⟩
theorem wW{a a':Addr}(h:dE ρ a a'):bj P lX ρ (Go.Extern.Atomic.touchesFrozen a) (Go.Extern.Atomic.touchesFrozen a'):=(qO h.at).bnd fun ρ1 x x' hl⟨h1,h2⟩=>by subst h1 h2;exact .frozen (h.mono hl) (.pure rfl)
def Qa (k : IntKind) : Array Value → Sem Value
  | #[x, .int j o, .int j' n] => do
    let a ← asAddr x
    let b ← Go.Extern.Atomic.touchesFrozen a
    if b then .halt (.stuck "") else
    .load .atomic a fun v => match v with
      | .int k' y => if k = k' then (if y == o then .store .atomic a (.int j' n) (.pure (.bool true)) else .pure (.bool false)) else .halt (.stuck "")
      | _ => .halt (.stuck "")
  | _ => .halt (.stuck "")
def lF.asem:lF→Array Value→Sem Value
 |.casT k=>Qa k
 |k=>k.sem
theorem qP(m:Addr→Mark){x x':Array Value}(h:bg ρ x x'):bj P aX ρ (Go.Extern.Race.marked m x) (Go.Extern.Race.marked m x'):=by
 refine bj.bnd (R:=dE) ?_ fun ρ1 a a' hl ha=> .mark (.pure (.tuple .nil));unfold Go.Extern.Race.at_;cases e:x[0]? with
 |none=>exact .halt
 |some v=>obtain⟨v',h1,hv⟩:=h.get e;rw[h1];cases hv<;>first|exact .halt|exact .pure ‹dE _ _ _›
theorem Hm(k:lF){x x':Array Value}(h:bg ρ x x'):bj P aX ρ (k.asem x) (k.sem x'):=by
 have h0:=h;obtain⟨l,l',rfl,rfl,h⟩:=h.lists;cases k with
 |same=>cases h with
         |nil=>exact .halt
         |cons hv t=>
           cases t with
           |nil=>exact .pure hv
           |cons _ _=>exact .halt
 |loadT k=>
   cases h with
   |nil=>exact .halt
   |cons hv t=>
     cases t with
     |nil=>exact(jJ hv).bnd fun _ _ _ _ ha=>wV k ha
     |cons _ _=>exact .halt
 |storeT=>
   cases h with
   |nil=>exact .halt
   |cons hv t=>
     cases t with
     |nil=>exact .halt
     |cons hu t=>
       cases t with
       |nil=>exact(jJ hv).bnd fun _ _ _ hl ha=> .store ha (hu.mono hl) (.pure (.tuple .nil))
       |cons _ _=>exact .halt
 |casT k=>
   cases h with
   |nil=>exact .halt
   |cons hv t=>
     cases t with
     |nil=>exact .halt
     |cons hu t=>
       cases t with
       |nil=>cases hu<;>exact .halt
       |cons hy t=>
         cases t with
         |cons _ _=>cases hu<;>cases hy<;>exact .halt
         |nil=>
           cases hu<;>try exact .halt
           rename_i j o;cases hy<;>try exact .halt
           rename_i j' n;refine(jJ hv).bnd fun ρ1 a a' hl1 ha=>?_;refine(wW ha).eqBnd fun ρ2 b hl2=>?_;cases b with
           |true=>exact .halt
           |false=>
            have ha:=ha.mono hl2;refine .load ha fun v v' hv=>?_;cases hv<;>try exact .halt
            rename_i k' y;dsimp only;by_cases hk:k=k';·
             subst hk;rw[if_pos rfl];simp only[Sem.bind,if_true,Bind.bind,Pure.pure];by_cases hy:(y==o)=true;·rw[if_pos hy];show bj P aX ρ2 _ (if(y==o)=true then Sem.bind (store a' (.int j' n) .atomic) fun _=>Sem.pure (.bool (y==o))else Sem.pure (.bool (y==o)));rw[if_pos hy,hy];exact .store ha (.int _ _) (.pure (.bool _))
             ·rw[if_neg hy];show bj P aX ρ2 _ (if(y==o)=true then Sem.bind (store a' (.int j' n) .atomic) fun _=>Sem.pure (.bool (y==o))else Sem.pure (.bool (y==o)));rw[if_neg hy,Bool.eq_false_iff.2 hy];exact .pure (.bool _)
            ·rw[if_neg hk];exact .halt
 |addT k=>
   cases h with
   |nil=>exact .halt
   |cons hv t=>
     cases t with
     |nil=>exact .halt
     |cons hu t=>
       cases t with
       |cons _ _=>exact .halt
       |nil=>refine(jJ hv).bnd fun ρ1 a a' hl ha=>?_;refine(wV k ha).bnd fun ρ2 v v' hl2 hvv=>?_;refine(lD hvv).eqBnd fun ρ3 n hl3=>?_;refine(lD (hu.mono (hl.trans (hl2.trans hl3)))).eqBnd fun ρ4 m hl4=>?_;refine(uI _ _ _ _).bnd fun ρ5 r r' hl5 hr=>?_;exact .store (ha.mono (hl2.trans (hl3.trans (hl4.trans hl5)))) hr (.pure hr)
 |acquire=>exact qP _ h0
 |releaseMerge=>exact qP _ h0
 |disable=>exact .mark (.pure (.tuple .nil))
 |enable=>exact .mark (.pure (.tuple .nil))
end Go.Proofs.Eng
end
section
set_option linter.unusedSimpArgs false
set_option linter.unusedVariables false
namespace Go.Proofs.Eng
variable{P:Program}{ρ:br}
structure ie where
 ext:FuncId→Option lF
 pure:FuncId→Bool
structure qQ(P:Program)(C:ie):Prop where
 ext:∀f k,C.ext f=some k→∃fn,P.funcs[f]?=some fn∧(fn.name== "runtime.NumGoroutine")=false∧fn.body=none∧Go.Extern.findNext fn=none∧Go.Extern.find fn=some k.sem
def no{α:Type}:Sem α:=.halt (.stuck "")
def lG(P:Program)(C:ie)(f:FuncId)(args:Array Value):Sem Next:=match C.ext f with
 |some k=>(k.asem args).bind fun v=> .pure (.value v)
 |none=>match P.funcs[f]? with
  |some fn=>if(fn.name== "runtime.NumGoroutine")=true then no else if fn.body.isNone=true then no else .pure (.enter f args)
  |none=>no
theorem nu{C:ie}(hC:qQ P C)(f:FuncId){x x':Array Value}(h:bg ρ x x'):bj P bM ρ (lG P C f x) (callFunc f x'):=by
 unfold lG;refine .programR ?_;cases he:C.ext f with
 |some k=>obtain⟨fn,h1,h2,h3,h4,h5⟩:=hC.ext f k he;simp only[Sem.bind,h1,h2,h3,Option.isNone_none,if_true,Bool.false_eq_true,if_false];refine .markR ?_;simp only[Sem.bind,h4,h5,Bind.bind,Pure.pure];exact(Hm k h).bind fun _ _ _ _ hv=> .pure (.value hv)
 |none=>cases hf:P.funcs[f]? with
         |none=>exact .halt
         |some fn=>
          simp only[Sem.bind,hf];by_cases h1:(fn.name== "runtime.NumGoroutine")=true;·rw[if_pos h1];exact .halt
          ·
           rw[if_neg h1,if_neg h1];by_cases h2:fn.body.isNone=true;·rw[if_pos h2];exact .halt
           ·rw[if_neg h2,if_neg h2];exact .pure (.enter h)
def Ba (t : TypeId) (v : Value) (name : String) : Sem (FuncId × Value) := do
  let i ← typeInfo t
  match i.methods.find? (·.name == name) with
  | some m => match m.path with
    | ⟨[]⟩ => match m.func with
      | some (f, pr) => do
        match ← underlying t, pr with
        | .pointer _, true => pure (f, v)
        | .pointer elem, false => match v with
          | .pointer (some a) => do pure (f, ← loadVar elem a)
          | _ => no
        | _, true => no
        | _, false => pure (f, v)
      | none => no
    | _ => no
  | none => no
theorem yS(n:Nat)(t:TypeId){v v':Value}(h:aX ρ v v')(name:String):bj P (fun ρ(x:FuncId×Value)y=>y.1=x.1∧aX ρ x.2 y.2) ρ (Ba t v name) (method (n+1) t v' name):=by
 refine(gU t).eqBnd fun ρ1 i hl=>?_;have h:=h.mono hl;cases hm:i.methods.find? (·.name==name)with
 |none=>exact .halt
 |some m=>
   dsimp only;obtain⟨nm,sg,⟨path⟩,func⟩:=m;cases path with
   |cons _ _=>exact .halt
   |nil=>dsimp only;cases func with
          |none=>exact .halt
          |some fp=>obtain⟨f,pr⟩:=fp;dsimp only;show bj P _ ρ1 _ (Sem.bind (Sem.bind (underlying t) _) _);rw[show∀{α β γ:Type}(s:Sem α)(f:α→Sem β)(g:β→Sem γ),(s.bind f).bind g=s.bind fun a=>(f a).bind g from fun s f g=>bind_assoc s f g];refine(bt t).bind fun ρ2 d d' hl2 hd=>?_;cases hd;have h:=h.mono hl2;cases d<;>cases pr<;>first
          |exact .pure ⟨rfl,h⟩
          |exact .halt
          |(cases h<;>first
          |exact .halt
          |exact(kN _ ‹_›).bind fun _ _ _ _ hv=> .pure ⟨rfl,hv⟩)
def kO(P:Program)(C:ie)(recv:Value)(name:String)(args:Array Value):Sem Next:=match recv with
 |.iface t v=>(Ba t v name).bind fun x=>lG P C x.1 (#[x.2]++args)
 |_=>no
theorem qR{C:ie}(hC:qQ P C){r r':Value}(hr:aX ρ r r')(name:String){x x':Array Value}(h:bg ρ x x'):bj P bM ρ (kO P C r name x) (callMethod r' name x'):=by
 cases hr<;>try exact .halt
 rename_i t v v' hv;refine .programR ?_;have hd:P.types.size+Made.depth=(P.types.size+99)+1:=rfl;show bj P bM ρ _ (Sem.bind (method (P.types.size+Made.depth) t v' name) _);rw[hd];refine(yS _ t hv name).bind fun ρ1 y y' hl hy=>?_;obtain⟨f,u⟩:=y;obtain⟨f',u'⟩:=y';obtain⟨h1,h2⟩:=hy;cases h1;exact nu hC _ (bg.append (.cons h2 .nil) (h.mono hl))
theorem px:∀(ps:List Tmp){l l':List Value}{t t':Array Value},bD ρ l l'→bg ρ t t'→bg ρ ((ps.zip l).foldl (fun tmps(x:Tmp×Value)=>tmps.setIfInBounds x.1 x.2) t) ((ps.zip l').foldl (fun tmps(x:Tmp×Value)=>tmps.setIfInBounds x.1 x.2) t')
 |[],_,_,_,_,_,ht=>by simpa using ht
 |_::_,_,_,_,_,.nil,ht=>by simpa using ht
 |p::ps,_,_,_,_,.cons hv t,ht=>by rw[List.zip_cons_cons,List.zip_cons_cons,List.foldl_cons,List.foldl_cons];exact px ps t (ht.set _ hv)
theorem gy{l l':Nat}(h:gx ρ l l'):bj P En ρ (Instr.getLoop l) (Instr.getLoop l'):=.getObj h.at fun o o' p ho=>by cases ho<;>first|exact .halt|exact .pure ‹_›
theorem CQ{l l':Nat}(hl:gx ρ l l'){x x':Array Value}(h:bg ρ x x'):bj P bM ρ (Instr.yield l x) (Instr.yield l' x'):=by
 refine(gy hl).bnd fun ρ1 r r' hl1 hr=>?_;have h:=h.mono hl1;rw[hr.params,h.size];have fin:bj P bM ρ1 (pure (.round l r.fn ((r.params.zip x).foldl (fun tmps(x:Tmp×Value)=>tmps.setIfInBounds x.1 x.2) r.tmps) r.assign r.body)) (pure (.round l' r'.fn ((r.params.zip x').foldl (fun tmps(x:Tmp×Value)=>tmps.setIfInBounds x.1 x.2) r'.tmps) r'.assign r'.body)):=by rw[hr.assign,hr.body];refine .pure (.round (hl.mono hl1) ?_);rw[←Array.foldl_toList,←Array.foldl_toList,Array.toList_zip,Array.toList_zip];exact px _ h hr.tmps
 by_cases hs:x'.size≠r.params.size;·rw[if_pos hs,if_pos hs];exact .halt
 ·rw[if_neg hs,if_neg hs];exact fin
def uJ(P:Program)(C:ie)(fn:Fn)(args captured:Array Value):Sem Next:=match fn with
 |.func f=>lG P C f (args++captured)
 |.method name=>match args[0]? with
  |some recv=>kO P C recv name (args.extract 1 args.size)
  |none=>no
 |.yield l=>Instr.yield l args
 |_=>no
theorem qS{C:ie}(hC:qQ P C){fn fn':Fn}(hf:iw ρ fn fn'){x x' y y':Array Value}(hx:bg ρ x x')(hy:bg ρ y y'):bj P bM ρ (uJ P C fn x y) (invoke (.fn fn' y') x'):=by
 cases hf with
 |func f=>exact nu hC f (hx.append hy)
 |method n=>
   show bj P bM ρ (match x[0]? with|some recv=>kO P C recv n (x.extract 1 x.size)|none=>no) (match x'[0]? with|some recv=>callMethod recv n (x'.extract 1 x'.size)|_=>stuck _);cases e:x[0]? with
   |none=>exact .halt
   |some v=>obtain⟨v',h1,hv⟩:=hx.get e;rw[h1,←hx.size];exact qR hC hv n (hx.extract _ _)
 |methodOf t n=>exact .halt
 |via t p f q=>exact .halt
 |yield h=>exact CQ h hx
end Go.Proofs.Eng
end
section
set_option linter.unusedSimpArgs false
set_option linter.unusedVariables false
namespace Go.Proofs.Eng
variable{P:Program}{ρ:br}
def prun{α:Type}(P:Program):Sem α→Option α
 |.pure a=>some a
 |.program k=>prun P (k P)
 |.mark _ k=>prun P k
 |.choose q k=>if q.forced then prun P (k 0)else none
 |_=>none
theorem gz{α:Type}{s:Sem α}:∀{a:α},prun P s=some a→∀w,s.run P w=.ok a w:=by
 induction s with
 |pure b=>intro a h w;simp[prun]at h;subst h;rfl
 |program k ih=>intro a h w;exact ih P h w
 |mark m k ih=>intro a h w;exact ih h w
 |choose q k ih=>
  intro a h w;simp only[prun]at h;split at h;·rename_i hq;simp only[Sem.run,hq,if_true];exact ih 0 h w
  ·cases h
 |_=>intro a h w;simp[prun]at h
def qT(P:Program)(s:Sem Value):Sem Value:=match prun P s with
 |some v=>if bP v then .pure v else no
 |none=>no
theorem mD{s s':Sem Value}(h:s'=s):bj P aX ρ (qT P s) s':=by
 subst h;unfold qT;cases e:prun P s' with
 |none=>exact .halt
 |some v=>
  dsimp only;by_cases hp:bP v=true;·rw[if_pos hp];exact .equivR (t':=.pure v) (fun w=>gz e w) (.pure (aX.self hp))
  ·rw[if_neg hp];exact .halt
def Oq:Value→Value→Option Bool
 |.pointer none,.pointer (some _)|.pointer (some _),.pointer none=>some false
 |.slice none _ _,.slice (some _) _ _|.slice (some _) _ _,.slice none _ _=>some false
 |.map none,.map (some _)|.map (some _),.map none=>some false
 |.nilFunc,.func .. |.func ..,.nilFunc=>some false
 |.nilIface,.iface .. |.iface ..,.nilIface=>some false
 |_,_=>none
def bV:TypeDesc→Nat
 |.pointer _=>1
 |.slice _=>2
 |.map _ _=>3
 |.func _ _ _=>4
 |.interface _=>5
 |_=>0
def Ot:Value→Nat
 |.pointer _=>1
 |.slice .. =>2
 |.map _=>3
 |.nilFunc|.func .. =>4
 |.nilIface|.iface .. =>5
 |_=>9
def mE(t:TypeId)(x y:Value):Sem Bool:=match x,y with
 |.pointer (some a),.pointer (some b)=>(underlying t).bind fun d=>match d with
  |.pointer e=>if a.block=b.block then(sizeOf e).bind fun n=>if n≠0 then .pure (a==b)else no else no
  |_=>no
 |x,y=>match Oq x y with
  |some b=>(underlying t).bind fun d=>if bV d=Ot x then .pure b else no
  |none=>no
theorem dE.beq{a a' b b':Addr}(h:dE ρ a a')(h2:dE ρ b b')(hb:a.block=b.block):a'.block=b'.block∧(a'==b')=(a==b):=by obtain⟨ab,ao,as⟩:=a;obtain⟨bb,bo,bs⟩:=b;obtain⟨h1,p,hp,rfl⟩:=h;obtain⟨h3,q,hq,rfl⟩:=h2;simp only at hb h1 h3 hp hq;subst hb h1 h3;rw[hp]at hq;cases hq;refine⟨rfl,?_⟩;rw[Bool.eq_iff_iff,beq_iff_eq,beq_iff_eq];simp only[Addr.mk.injEq,true_and,and_true];omega
theorem CR(t:TypeId){x x' y y':Value}(hx:aX ρ x x')(hy:aX ρ y y'):bj P lX ρ (mE t x y) (Op.equal t x' y'):=by
 show bj P lX ρ (mE t x y) (Op.equalIn (9999+1) t x' y');cases hx;case ptr a a' ha=>
  cases hy<;>first
  |exact .halt
  |(refine bj.bind (bt t) fun ρ1 d d' hl hd=>?_;cases hd;cases d<;>first
    |exact .halt
    |exact .pure rfl)
  |skip
  rename_i b b' hb;refine bj.bind (bt t) fun ρ1 d d' hl hd=>?_;cases hd;cases d<;>try exact .halt
  rename_i e;dsimp only;by_cases he:a.block=b.block;·
   rw[if_pos he];refine bj.bind (cg e) fun ρ2 n n' hl2 hn=>?_;cases hn;obtain⟨h1,h2⟩:=dE.beq ha hb he;by_cases hn:n≠0;·
    rw[if_pos hn,if_pos hn,←h2];unfold sameAddr;rw[if_pos (by rw[beq_iff_eq];exact h1)];exact .pure rfl
   ·rw[if_neg hn];exact .halt
  ·rw[if_neg he];exact .halt
 all_goals
  cases hy<;>first
  |exact .halt
  |(refine bj.bind (bt t) fun ρ1 d d' hl hd=>?_;cases hd;cases d<;>first
    |exact .halt
    |exact .pure rfl)
def M_ (P : Program) (op : BinOp) (t : TypeId) (x y : Operand) (a b : Value) : Sem Value :=
  if (bP a && bP b) = true then qT P (do eqGuard op t x y a b; binOp op t a b)
  else match op with
    | .eql => do pure (.bool (← mE t a b))
    | .neq => do pure (.bool (!(← mE t a b)))
    | _ => no
theorem Hn (op : BinOp) (t : TypeId) (x y : Operand) {a a' b b' : Value} (ha : aX ρ a a') (hb : aX ρ b b') :
    bj P aX ρ (M_ P op t x y a b) (do eqGuard op t x y a' b'; binOp op t a' b') := by
  unfold M_
  by_cases hp : (bP a && bP b) = true
  · rw [if_pos hp]
    simp only [Bool.and_eq_true] at hp
    rw [ha.plain hp.1, hb.plain hp.2]
    exact mD rfl
  · rw [if_neg hp]
    have he : bj P lX ρ (mE t a b) (Op.equal t a' b') := CR t ha hb
    clear hp
    have h1 : bj P aX ρ (Sem.bind (mE t a b) fun c => .pure (.bool c)) (Sem.bind (Op.equal t a' b') fun c => .pure (.bool c)) :=
      bj.bind he fun _ _ _ _ e => by cases e; exact .pure (.bool _)
    have h2 : bj P aX ρ (Sem.bind (mE t a b) fun c => .pure (.bool !c)) (Sem.bind (Op.equal t a' b') fun c => .pure (.bool !c)) :=
      bj.bind he fun _ _ _ _ e => by cases e; exact .pure (.bool _)
    clear he
    cases op <;> try exact .halt
    · cases ha <;> cases hb <;> first
        | exact .halt
        | exact h1
    · cases ha <;> cases hb <;> first
        | exact .halt
        | exact h2
end Go.Proofs.Eng
end
