/- The engine, second part: operations, one by one, go alike on related worlds. -/
import Derived.Test.YthbdlnflmfchjaaGreatDoorJ1
section
set_option linter.unusedSimpArgs false
set_option linter.unusedVariables false
namespace Go.Proofs.Eng
variable{P:Program}{ρ:br}
def cN:List Value→ByteArray→Option ByteArray
 |[],s=>some s
 |.int .u8 n::l,s=>cN l (s.push (UInt8.ofNat n.toNat))
 |_::_,_=>none
def Et(x:Value):Sem Value:=match x with
 |.slice (some a) n _=>(loadCells a n).bind fun cs=>match cN cs.toList ByteArray.empty with
  |some b=> .pure (.string b)
  |none=>no
 |_=>no
theorem qU:∀{l l':List Value}(s:ByteArray),bD ρ l l'→cN l s=none∨cN l' s=cN l s
 |_,_,_,.nil=> .inr rfl
 |_,_,s,.cons hv _=>by
  cases hv<;>first
  |exact .inl rfl
  |(rename_i k n;cases k<;>first
    |exact .inl rfl
    |exact qU (s.push (UInt8.ofNat n.toNat)) ‹_›)
theorem py(g:Value→ByteArray→Sem (ForInStep ByteArray))(hg:∀n s,g (.int .u8 n) s=pure (.yield (s.push (UInt8.ofNat n.toNat)))):∀(l:List Value)(s b:ByteArray)(w:World),cN l s=some b→(forIn (m:=Sem) l s g).run P w=.ok b w
 |[],s,b,w,h=>by simp only[cN,Option.some.injEq]at h;subst h;rfl
 |.int .u8 n::l,s,b,w,h=>by rw[List.forIn_cons,hg];simp only[cN]at h;exact py g hg l _ b w h
 |.int .i8 _::_,_,_,_,h=>by simp[cN]at h
 |.int .i16 _::_,_,_,_,h=>by simp[cN]at h
 |.int .i32 _::_,_,_,_,h=>by simp[cN]at h
 |.int .i64 _::_,_,_,_,h=>by simp[cN]at h
 |.int .u16 _::_,_,_,_,h=>by simp[cN]at h
 |.int .u32 _::_,_,_,_,h=>by simp[cN]at h
 |.int .u64 _::_,_,_,_,h=>by simp[cN]at h
 |.bool _::_,_,_,_,h=>by simp[cN]at h
 |.float _ _::_,_,_,_,h=>by simp[cN]at h
 |.complex _ _ _::_,_,_,_,h=>by simp[cN]at h
 |.string _::_,_,_,_,h=>by simp[cN]at h
 |.pointer _::_,_,_,_,h=>by simp[cN]at h
 |.slice _ _ _::_,_,_,_,h=>by simp[cN]at h
 |.map _::_,_,_,_,h=>by simp[cN]at h
 |.chan _::_,_,_,_,h=>by simp[cN]at h
 |.func _ _ _::_,_,_,_,h=>by simp[cN]at h
 |.nilFunc::_,_,_,_,h=>by simp[cN]at h
 |.iface _ _::_,_,_,_,h=>by simp[cN]at h
 |.nilIface::_,_,_,_,h=>by simp[cN]at h
 |.agg _::_,_,_,_,h=>by simp[cN]at h
 |.tuple _::_,_,_,_,h=>by simp[cN]at h
theorem CT{x x':Value}(h:aX ρ x x'):bj P aX ρ (Et x) (Conv.bytesToString x'):=by
 cases h<;>try exact .halt
 rename_i a a' n c c' ha hc;refine bj.bind (gj ha n) fun ρ1 cs cs' hl hcs=>?_;rcases qU ByteArray.empty hcs with h|h;·rw[h];exact .halt
 ·cases e:cN cs.toList ByteArray.empty with
   |none=>exact .halt
   |some b=>rw[e]at h;refine .equivR (t':=.pure (.string b)) (fun w=>?_) (.pure (.string b));show Sem.run P (_>>=_) w=_;rw[Sem.run_bind,←Array.forIn_toList,py (P:=P) _ (fun _ _=>rfl) cs'.toList ByteArray.empty b w h];rfl
theorem yT(fits:TypeId→Bool):∀(d:Nat)(e:TypeId){c c':Nat}(off n:Nat),c≤c'→rowAt P fits d e c off n=true→rowAt P fits d e c' off n=true
 |0,_,_,_,_,_,_,h=>by simp[rowAt]at h
 |d+1,e,c,c',off,n,hc,h=>by
  unfold rowAt at h⊢;dsimp only at h⊢;split;·rename_i hs;rw[if_pos hs]at h;cases h
  ·
   rename_i hs;rw[if_neg hs]at h;rw[Bool.or_eq_true]at h⊢;rcases h with h|h;·left;simp only[Bool.and_eq_true,decide_eq_true_eq]at h⊢;exact⟨⟨h.1.1,by omega⟩,h.2⟩
   ·right;rw[Bool.and_eq_true]at h⊢;refine⟨?_,h.2⟩;have:=h.1;simp only[decide_eq_true_eq]at this⊢;omega
theorem pD:∀(d:Nat)(e:TypeId){c c':Nat}(off:Nat)(u:TypeId)(n:Nat),c≤c'→liesAt P d e c off u n=true→liesAt P d e c' off u n=true
 |0,_,_,_,_,_,_,_,h=>by simp[liesAt]at h
 |d+1,e,c,c',off,u,n,hc,h=>by
   unfold liesAt at h⊢;rw[Bool.or_eq_true]at h⊢;rcases h with h|h;·exact .inl (yT _ _ _ _ _ hc h)
   ·right;revert h;cases P.underlying u with
     |none=>exact id
     |some t=>cases t<;>first
     |exact id
     |exact pD d e off _ _ hc
theorem dE.off{a a':Addr}{p:Pos}(h:dE ρ a a')(hp:ρ a.block=some p)(h0:p.s=0):a'.off=a.off:=by obtain⟨_,q,hq,rfl⟩:=h;rw[hp]at hq;cases hq;simp[h0]
theorem ke{a a':Addr}(h:dE ρ a a')(u:TypeId)(n:Nat):bj P (fun _ b b'=>b=true→b'=true) ρ (variablesAt a u n) (variablesAt a' u n):=by
 obtain⟨h1,p,hp,ha⟩:=id h;refine .program (.shape hp (by rw[ha]) fun x x' hx=>?_);match x,x',hx with
 |some (e,c),some (e',c'),⟨h1,h0,hc⟩=>subst h1;refine .pure fun hb=>?_;rw[h.off hp h0];exact pD _ _ _ _ _ (Nat.div_le_div_right hc) hb
 |none,none,_=>exact .pure id
 |some _,none,hx=>exact hx.elim
 |none,some _,hx=>exact hx.elim
theorem wX{a a':Addr}(h:dE ρ a a'):bj P (fun _ c c'=>c=none∨∃n n',c=some n∧c'=some n'∧n≤n'∧a'.off=a.off) ρ (cellsIn a.block) (cellsIn a'.block):=by
 obtain⟨h1,p,hp,ha⟩:=id h;refine .shape hp (by rw[ha]) fun x x' hx=>?_;match x,x',hx with
 |some (e,c),some (e',c'),⟨h1,h0,hc⟩=>exact .pure (.inr ⟨c,c',rfl,rfl,hc,h.off hp h0⟩)
 |none,none,_=>refine .getObj h.at fun o o' p ho=>?_;cases ho<;>exact .pure (.inl rfl)
 |some _,none,hx=>exact hx.elim
 |none,some _,hx=>exact hx.elim
theorem qV{a a':Addr}(h:dE ρ a a'):bj P dE ρ (Conv.seenAt a) (Conv.seenAt a'):=(qO h.at).bnd fun ρ1 x x' hl⟨h1,h2⟩=>by subst h1 h2;exact .pure (h.mono hl)
end Go.Proofs.Eng
end
section
set_option linter.unusedSimpArgs false
set_option linter.unusedVariables false
namespace Go.Proofs.Eng
variable{P:Program}{ρ:br}
def wY:TypeDesc→Bool
 |.invalid|.bool|.int _|.float _|.complex _|.string|.pointer _|.slice _|.array _ _|.map _ _|.chan _ _|.struct _|.func _ _ _|.interface _|.tuple _|.named _ _=>false
 |_=>true
theorem eE{α β:Type}{R:br→α→β→Prop}{t:TypeId}{d:TypeDesc}{s:Sem α}{f':TypeDesc→Sem β}(h:P.underlying t=some d)(hk:bj P R ρ s (f' d)):bj P R ρ s (underlying t>>=f'):=.programR (by
 show bj P R ρ s ((match P.underlying t with|some i=>pure i|none=>stuck _:Sem TypeDesc)>>=f');rw[h];exact hk)
def Bb(P:Program)(s d:TypeId)(x:Value):Sem Value:=if bP x=true then qT P (convert s d x)else match P.underlying s,P.underlying d with
 |some ds,some dd=>match x with
  |.slice (some a) n c=>match ds,dd with
   |.slice e,.string=>match P.underlying e with
    |some (.int .u8)=>Et (.slice (some a) n c)
    |_=>no
   |_,_=>no
  |.pointer (some a)=>match ds,dd with
   |.pointer t,u=>if wY u=true then(Conv.seenAt a).bind fun b=>(cellsIn b.block).bind fun c=>match c with
    |some n=>if b.off<n then(sizeOf t).bind fun z=>if z=0 then no else .pure (.pointer (some b))else no
    |none=>no else no
   |u,.pointer t=>if wY u=true then(Conv.seenAt a).bind fun b=>(sizeOf t).bind fun z=>(variablesAt b t 1).bind fun y=>if z=0 then no else if y=true then .pure (.pointer (some b))else no else no
   |_,_=>no
  |_=>no
 |_,_=>no
theorem wZ(s d:TypeId){x x':Value}(hx:aX ρ x x'):bj P aX ρ (Bb P s d x) (convert s d x'):=by
 unfold Bb;by_cases hp:bP x=true;·rw[if_pos hp,hx.plain hp];exact mD rfl
 rw[if_neg hp];cases hs:P.underlying s with
 |none=>exact .halt
 |some ds=>
   cases hd:P.underlying d with
   |none=>exact .halt
   |some dd=>
     dsimp only;refine eE hs (eE hd ?_);cases hx<;>try exact .halt
     ·
      rename_i a a' ha;cases ds<;>try(cases dd<;>exact .halt)
      ·
       cases dd<;>try exact .halt
       refine eE hs (eE hd ?_);refine bj.bind (qV ha) fun ρ1 b b' hl hb=>?_;refine bj.bind (cg _) fun ρ3 z z' hl3 hz=>?_;cases hz;refine bj.bind (ke (hb.mono hl3) _ _) fun ρ4 y y' hl4 hy=>?_;by_cases hz:z=0;·rw[if_pos hz];exact .halt
       ·
        rw[if_neg hz];by_cases hyt:y=true;·
         rw[if_pos hyt,if_pos];·exact .pure (.ptr (hb.mono (hl3.trans hl4)))
         ·rw[hy hyt,Bool.or_true]
        ·rw[if_neg hyt];exact .halt
      ·
       cases dd<;>try exact .halt
       refine eE hs (eE hd ?_);refine bj.bind (qV ha) fun ρ1 b b' hl hb=>?_;refine bj.bind (wX hb) fun ρ2 o o' hl2 ho=>?_;rcases ho with rfl|⟨n,n',rfl,rfl,hn,hoff⟩;·exact .halt
       ·
        dsimp only;by_cases hlt:b.off<n;·
         rw[if_pos hlt];refine bj.bind (cg _) fun ρ3 z z' hl3 hz=>?_;cases hz;by_cases hz:z=0;·rw[if_pos hz];exact .halt
         ·
          rw[if_neg hz];rw[if_neg];·exact .pure (.ptr (hb.mono (hl2.trans hl3)))
          ·
           have h1:¬b'.off≥n':=by omega
           simp[hz,h1]
        ·rw[if_neg hlt];exact .halt
     ·
      rename_i a a' n c c' ha hc;cases ds<;>try exact .halt
      rename_i e;cases dd<;>try exact .halt
      dsimp only;cases he:P.underlying e with
      |none=>exact .halt
      |some t=>
       cases t<;>try exact .halt
       rename_i k;cases k<;>try exact .halt
       refine eE he ?_;exact CT (.slice ha hc)
def nv(P:Program)(b:Builtin)(ts:Array TypeId)(t:TypeId)(cs:Array Bool)(args:Array Value):Sem Next:=if(b==.recover)=true then .pure .recover else if fi args.toList=true then(match prun P (builtin b ts t cs args)with|some (.value v)=>if bP v=true then .pure (.value v)else no|_=>no)else match b with
 |.len=>(Builtin.len_ ts t args).bind fun v=> .pure (.value v)
 |.copy=>(Builtin.copy_ ts t args).bind fun v=> .pure (.value v)
 |.cap=>match args with
  |⟨[.slice (some a) n c]⟩=>if c<dM then(Builtin.cap_ ts t args).bind fun v=> .pure (.value v)else no
  |_=>no
 |_=>no
theorem pE(b:Builtin)(ts:Array TypeId)(t:TypeId)(cs:Array Bool){x x':Array Value}(h:bg ρ x x'):bj P bM ρ (nv P b ts t cs x) (builtin b ts t cs x'):=by
 unfold nv;by_cases hr:(b==.recover)=true;·rw[if_pos hr];rw[beq_iff_eq]at hr;subst hr;exact .pure .recover
 rw[if_neg hr];by_cases hp:fi x.toList=true;·
  rw[if_pos hp];obtain⟨l⟩:=x;obtain⟨l'⟩:=x';have:l'=l:=bD.plain h hp;subst this;cases e:prun P (builtin b ts t cs ⟨l'⟩)with
  |none=>exact .halt
  |some n=>
   cases n<;>try exact .halt
   rename_i v;dsimp only;by_cases hv:bP v=true;·rw[if_pos hv];exact .equivR (t':=.pure (.value v)) (fun w=>gz e w) (.pure (.value (aX.self hv)))
   ·rw[if_neg hv];exact .halt
 ·
  rw[if_neg hp];cases b<;>try exact .halt
  ·obtain⟨l,l',rfl,rfl,h⟩:=h.lists;cases h with
    |nil=>exact .halt
    |cons hv tl=>
      cases tl with
      |cons _ _=>cases hv<;>exact .halt
      |nil=>
        cases hv<;>try exact .halt
        rename_i a a' n c c' ha hc;dsimp only;by_cases hlt:c<dM;·
         rw[if_pos hlt];rcases hc with⟨rfl,_⟩|⟨hb,_⟩;·
          refine bj.bind (R:=aX) ?_ fun _ _ _ _ hv=> .pure (.value hv);unfold Builtin.cap_;cases ts[0]? with
          |none=>exact .halt
          |some t0=>
           refine(bt t0).eqBnd fun ρ1 d hl=>?_;cases d<;>first
           |exact .halt
           |exact .pure (.int _ _)
           |(refine(bt _).eqBnd fun ρ2 d2 hl2=>?_;cases d2<;>first|exact .halt|exact .pure (.int _ _))
         ·omega
        ·rw[if_neg hlt];exact .halt
  ·exact(Es ts t h).bind fun _ _ _ _ hv=> .pure (.value hv)
  ·exact(Hl ts t h).bind fun _ _ _ _ hv=> .pure (.value hv)
end Go.Proofs.Eng
end
section
set_option linter.unusedSimpArgs false
set_option linter.unusedVariables false
namespace Go.Proofs.Eng
variable{P:Program}{ρ:br}
theorem tH{α β:Type}(s:Sem α)(f:α→Sem β):prun P (s.bind f)=(prun P s).bind fun a=>prun P (f a):=by
 induction s with
 |pure a=>rfl
 |program k ih=>exact ih P
 |mark m k ih=>exact ih
 |choose q k ih=>
  simp only[Sem.bind,prun];split;·exact ih 0
  ·rfl
 |_=>rfl
theorem bj.runBnd{α β γ:Type}{R:br→α→γ→Prop}{s:Sem α}{s':Sem β}{f':β→Sem γ}{b:β}(h:∀w,s'.run P w=.ok b w)(hk:bj P R ρ s (f' b)):bj P R ρ s (s'>>=f'):=.equivR (t':=f' b) (fun w=>by rw[Sem.run_bind,h];rfl) hk
def dF(l:List MapEntry):Bool:=l.all fun e=>bP e.key
def yU(ρ:br)(r r':Option (Nat×Value)):Prop:=(r=none∧r'=none)∨∃j v v',r=some (j,v)∧r'=some (j,v')∧aX ρ v v'
theorem pF(kind:TypeDesc)(k:Value):∀{l l':List MapEntry}(i:Nat),cq ρ l l'→dF l=true→(Instr.findNow kind k l i=none∧Instr.findNow kind k l' i=none)∨∃r r',Instr.findNow kind k l i=some r∧Instr.findNow kind k l' i=some r'∧yU ρ r r'
 |_,_,i,.nil,_=> .inr ⟨none,none,rfl,rfl,.inl ⟨rfl,rfl⟩⟩
 |_,_,i,.cons (k:=k1) (k':=k1') (v:=v) (v':=v') hk hv t,hp=>by
   simp only[dF,List.all_cons,Bool.and_eq_true]at hp;have hkk:k1'=k1:=hk.plain hp.1;subst hkk;unfold Instr.findNow;dsimp only;cases Instr.sameNow kind k k1' with
   |none=>exact .inl ⟨rfl,rfl⟩
   |some b=>
     cases b with
     |true=>exact .inr ⟨_,_,rfl,rfl,.inr ⟨i,v,v',rfl,rfl,hv⟩⟩
     |false=>exact pF kind k (i+1) t hp.2
theorem kP(kt:TypeId)(k:Value):∀{l l':List MapEntry}(i:Nat)(r:Option (Nat×Value)),cq ρ l l'→dF l=true→prun P (Instr.findAsking kt k l i)=some r→∃r',prun P (Instr.findAsking kt k l' i)=some r'∧yU ρ r r'
 |_,_,i,r,.nil,_,h=>by simp only[Instr.findAsking,Pure.pure,prun,Option.some.injEq]at h;subst h;exact⟨none,rfl,.inl ⟨rfl,rfl⟩⟩
 |_,_,i,r,.cons (k:=k1) (k':=k1') (v:=v) (v':=v') hk hv t,hp,h=>by
   simp only[dF,List.all_cons,Bool.and_eq_true]at hp;have hkk:k1'=k1:=hk.plain hp.1;subst hkk;unfold Instr.findAsking at h⊢;simp only[Bind.bind,tH]at h⊢;cases e:prun P (Op.equal kt k k1')with
   |none=>rw[e]at h;cases h
   |some b=>
     rw[e]at h;simp only[Option.bind_some]at h⊢;cases b with
     |true=>simp only[if_true,Pure.pure,prun,Option.some.injEq]at h⊢;subst h;exact⟨_,rfl,.inr ⟨i,v,v',rfl,rfl,hv⟩⟩
     |false=>simp only[Bool.false_eq_true,if_false]at h⊢;exact kP kt k (i+1) r t hp.2 h
theorem kQ(kt:TypeId)(k:Value){l l':List MapEntry}{r:Option (Nat×Value)}(hl:cq ρ l l')(hp:dF l=true)(h:prun P (Instr.findKey kt k l)=some r):∃r',prun P (Instr.findKey kt k l')=some r'∧yU ρ r r':=by
 unfold Instr.findKey at h⊢;simp only[Bind.bind,tH]at h⊢;cases e:prun P (underlying kt)with
 |none=>rw[e]at h;cases h
 |some d=>
  rw[e]at h;simp only[Option.bind_some]at h⊢;rcases pF d k 0 hl hp with⟨h1,h2⟩|⟨r1,r1',h1,h2,h3⟩;·rw[h1]at h;rw[h2];exact kP kt k 0 r hl hp h
  ·rw[h1]at h;rw[h2];simp only[Pure.pure,prun,Option.some.injEq]at h⊢;subst h;exact⟨r1',rfl,h3⟩
theorem cq.isEmpty{es es':Array MapEntry}(h:cq ρ es.toList es'.toList):es'.isEmpty=es.isEmpty:=by
 have:es.size=es'.size:=by simpa using h.length
 simp[Array.isEmpty,this]
def Ho(P:Program)(key elem:TypeId)(k:Value)(ok:Bool)(es:Array MapEntry):Sem Value:=if(dF es.toList&&(prun P (Instr.checkKey es.isEmpty 10000 key k)).isSome)=true then match prun P (Instr.findKey key k es.toList)with
 |some (some (_,v))=> .pure (if ok then .tuple #[v,.bool true]else v)
 |some none=>if G9 P elem=true then(zeroValue elem).bind fun v=> .pure (if ok then .tuple #[v,.bool false]else v)else no
 |none=>no else no
def uK(P:Program)(t:TypeId)(x k:Value)(ok:Bool):Sem Value:=if bP k=true then match P.underlying t with
 |some (.map key elem)=>match x with
  |.map none=>Ho P key elem k ok #[]
  |.map (some r)=> .getObj r fun o=>match o with
   |.map es _=>Ho P key elem k ok es
   |_=>no
  |_=>no
 |_=>no else no
theorem Bc (key elem : TypeId) (k : Value) (ok : Bool) {es es' : Array MapEntry} (h : cq ρ es.toList es'.toList) :
    bj P aX ρ (Ho P key elem k ok es) (do
      Instr.checkKey es'.isEmpty 10000 key k
      let (v, o) ← match ← Instr.findKey key k es'.toList with
        | some (_, v) => pure (v, true)
        | none => pure (← zeroValue elem, false)
      pure (if ok then .tuple #[v, .bool o] else v)) := by
  unfold Ho
  by_cases hc : (dF es.toList && (prun P (Instr.checkKey es.isEmpty 10000 key k)).isSome) = true
  · rw [if_pos hc]
    rw [Bool.and_eq_true] at hc
    cases hck : prun P (Instr.checkKey es.isEmpty 10000 key k) with
    | none => rw [hck] at hc; simp at hc
    | some u =>
      rw [h.isEmpty]
      refine bj.runBnd (gz hck) ?_
      cases hf : prun P (Instr.findKey key k es.toList) with
      | none => exact .halt
      | some r =>
        obtain ⟨r', h1, h2⟩ := kQ key k h hc.1 hf
        refine bj.runBnd (gz h1) ?_
        rcases h2 with ⟨rfl, rfl⟩ | ⟨j, v, v', rfl, rfl, hv⟩
        · dsimp only
          by_cases hzp : G9 P elem = true
          case neg => rw [if_neg hzp]; exact .halt
          rw [if_pos hzp]
          refine bj.bind (dR (tD hzp)) fun ρ1 z z' hl hzz => ?_
          cases ok
          · exact .pure hzz
          · exact .pure (.tuple (.cons hzz (.cons (.bool _) .nil)))
        · cases ok
          · exact .pure hv
          · exact .pure (.tuple (.cons hv (.cons (.bool _) .nil)))
  · rw [if_neg hc]; exact .halt
theorem yV(t:TypeId){x x' k k':Value}(hx:aX ρ x x')(hk:aX ρ k k')(ok:Bool):bj P aX ρ (uK P t x k ok) (Instr.lookup t x' k' ok):=by
 unfold uK;by_cases hp:bP k=true;·
  rw[if_pos hp,hk.plain hp];cases ht:P.underlying t with
  |none=>exact .halt
  |some d=>
   cases d<;>try exact .halt
   rename_i key elem;refine eE ht ?_;cases hx<;>try exact .halt
   ·exact Bc key elem k ok (es:=#[]) (es':=#[]) .nil
   ·
    rename_i r r' hr;refine .getObj hr.at fun o o' p ho=>?_;cases ho<;>try exact .halt
    exact Bc key elem k ok ‹_›
 ·rw[if_neg hp];exact .halt
end Go.Proofs.Eng
end
section
set_option linter.unusedSimpArgs false
set_option linter.unusedVariables false
namespace Go.Proofs.Eng
variable{P:Program}{ρ:br}
structure yW(ρ:br)(e e':MapEntry):Prop where
 key:aX ρ e.key e'.key
 val:aX ρ e.val e'.val
 born:e'.born=e.born
theorem cq.get{ρ:br}:∀{l l':List MapEntry}(i:Nat),cq ρ l l'→(l[i]?=none∧l'[i]?=none)∨∃e e',l[i]?=some e∧l'[i]?=some e'∧yW ρ e e'
 |_,_,_,.nil=> .inl ⟨by simp,by simp⟩
 |_,_,0,.cons (k:=k) (k':=k') (v:=v) (v':=v') (n:=n) hk hv t=> .inr ⟨⟨k,v,n⟩,⟨k',v',n⟩,by simp,by simp,⟨hk,hv,rfl⟩⟩
 |_,_,i+1,.cons hk hv t=>by simpa using t.get i
theorem cq.mod{ρ:br}{f f':MapEntry→MapEntry}(hf:∀e e',yW ρ e e'→yW ρ (f e) (f' e')):∀{l l':List MapEntry}(i:Nat),cq ρ l l'→cq ρ (l.modify i f) (l'.modify i f')
 |_,_,_,.nil=>by simpa using cq.nil
 |_,_,0,.cons (k:=k) (k':=k') (v:=v) (v':=v') (n:=n) hk hv t=>by have:=hf ⟨k,v,n⟩ ⟨k',v',n⟩ ⟨hk,hv,rfl⟩;rw[List.modify_zero_cons,List.modify_zero_cons];obtain⟨a,b,c⟩:=this;generalize f ⟨k,v,n⟩=x at*;generalize f' ⟨k',v',n⟩=y at*;obtain⟨x1,x2,x3⟩:=x;obtain⟨y1,y2,y3⟩:=y;simp only at a b c;subst c;exact .cons a b t
 |_,_,i+1,.cons hk hv t=>by rw[List.modify_succ_cons,List.modify_succ_cons];exact .cons hk hv (t.mod hf i)
theorem cq.app{ρ:br}:∀{l l' m m':List MapEntry},cq ρ l l'→cq ρ m m'→cq ρ (l++m) (l'++m')
 |_,_,_,_,.nil,h=>h
 |_,_,_,_,.cons hk hv t,h=> .cons hk hv (t.app h)
def mF(es:Array MapEntry)(i:Nat)(k:Value):Value:=((es[i]?).map (·.key)).getD k
theorem tI{es es':Array MapEntry}(h:cq ρ es.toList es'.toList)(hp:dF es.toList=true)(i:Nat)(k:Value):mF es' i k=mF es i k:=by
 unfold mF;have:=h.get i;simp only[Array.getElem?_toList]at this;rcases this with⟨h1,h2⟩|⟨e,e',h1,h2,h3⟩;·rw[h1,h2]
 ·rw[h1,h2];simp only[Option.map_some,Option.getD_some];refine h3.key.plain ?_;have hm:e∈es.toList:=Array.mem_toList_iff.2 (Array.mem_of_getElem? h1);unfold dF at hp;rw[List.all_eq_true]at hp;exact hp e hm
theorem tJ(old k:Value)(h:Instr.sameBits 10000 old k=true)(w:World):(Instr.keyThatStays old k).run P w=.ok k w:=by unfold Instr.keyThatStays;rw[if_pos h];rfl
def Eu(P:Program)(key:TypeId)(r:Nat)(k v:Value)(es:Array MapEntry)(clock:Nat):Sem Unit:=if(dF es.toList&&(prun P (Instr.checkKey false 10000 key k)).isSome)=true then match prun P (Instr.findKey key k es.toList)with
 |some (some (i,_))=>if Instr.sameBits 10000 (mF es i k) k=true then .setObj r (.map (es.modify i fun e=>{e with key:=k,val:=v}) clock) (.pure ())else no
 |some none=> .setObj r (.map (es.push {key:=k,val:=v,born:=clock}) (clock+1)) (.pure ())
 |none=>no else no
def uL(P:Program)(t:TypeId)(x k v:Value):Sem Unit:=if bP k=true then match P.underlying t with
 |some (.map key _)=>match x with
  |.map (some r)=> .getObj r fun o=>match o with
   |.map es clock=>Eu P key r k v es clock
   |_=>no
  |_=>no
 |_=>no else no
theorem fP.ofMap{es es':Array MapEntry}(h:cq ρ es.toList es'.toList)(c:Nat):∀p:Pos,p.s=0→fP ρ p (.map es c) (.map es' c):=fun p hp=> .map hp h
theorem mG{es es':Array MapEntry}{f f':MapEntry→MapEntry}(hf:∀e e',yW ρ e e'→yW ρ (f e) (f' e'))(i:Nat)(h:cq ρ es.toList es'.toList):cq ρ (es.modify i f).toList (es'.modify i f').toList:=by rw[Array.toList_modify,Array.toList_modify];exact h.mod hf i
theorem w_{es es':Array MapEntry}{k v v':Value}(hk:bP k=true)(hv:aX ρ v v')(n:Nat)(h:cq ρ es.toList es'.toList):cq ρ (es.push ⟨k,v,n⟩).toList (es'.push ⟨k,v',n⟩).toList:=by rw[Array.toList_push,Array.toList_push];exact h.app (.cons (aX.self hk) hv .nil)
theorem qW(t:TypeId){x x' k k' v v':Value}(hx:aX ρ x x')(hk:aX ρ k k')(hv:aX ρ v v'):bj P lX ρ (uL P t x k v) (Instr.mapUpdate t x' k' v'):=by
 unfold uL;by_cases hp:bP k=true;·
  rw[if_pos hp,hk.plain hp];cases ht:P.underlying t with
  |none=>exact .halt
  |some d=>
    cases d<;>try exact .halt
    rename_i key elem;refine eE ht ?_;cases hx<;>try exact .halt
    rename_i r r' hr;refine .getObj hr.at fun o o' p ho=>?_;cases ho<;>try exact .halt
    rename_i es es' clock h0 h;dsimp only;unfold Eu;by_cases hc:(dF es.toList&&(prun P (Instr.checkKey false 10000 key k)).isSome)=true;·
     rw[if_pos hc];rw[Bool.and_eq_true]at hc;cases hck:prun P (Instr.checkKey false 10000 key k)with
     |none=>rw[hck]at hc;simp at hc
     |some u=>
       show bj P lX ρ _ (Instr.checkKey false 10000 key k>>=_);refine bj.runBnd (gz hck) ?_;cases hf:prun P (Instr.findKey key k es.toList)with
       |none=>exact .halt
       |some q=>
        obtain⟨q',h1,h2⟩:=kQ key k h hc.1 hf;refine bj.runBnd (gz h1) ?_;rcases h2 with⟨rfl,rfl⟩|⟨j,u,u',rfl,rfl,hu⟩;·exact .setObj hr.at (fP.ofMap (w_ hp hv clock h) _) (.pure rfl)
        ·
         dsimp only;by_cases hb:Instr.sameBits 10000 (mF es j k) k=true;·
          rw[if_pos hb];refine bj.runBnd (b:=k) (fun w=>tJ _ _ (by rw[←tI h hc.1]at hb;exact hb) w) ?_;exact .setObj hr.at (fP.ofMap (mG (f:=fun e=>{e with key:=k,val:=v}) (f':=fun e=>{e with key:=k,val:=v'}) (fun e e' he=>⟨aX.self hp,hv,he.born⟩) j h) _) (.pure rfl)
         ·rw[if_neg hb];exact .halt
    ·rw[if_neg hc];exact .halt
 ·rw[if_neg hp];exact .halt
def xc(P:Program)(key elem:TypeId)(r:Nat)(k:Value)(es:Array MapEntry)(clock:Nat):Sem Value:=if(dF es.toList&&(prun P (Instr.checkKey false 10000 key k)).isSome)=true then match prun P (Instr.findKey key k es.toList)with
 |some (some (i,v))=>if Instr.sameBits 10000 (mF es i k) k=true then .setObj r (.map (es.modify i fun e=>{e with key:=k}) clock) (.pure (.tuple #[v,goInt (((es[i]?).map (·.born)).getD 0)]))else no
 |some none=>if G9 P elem=true then(zeroValue elem).bind fun z=> .setObj r (.map (es.push {key:=k,val:=z,born:=clock}) (clock+1)) (.pure (.tuple #[z,goInt clock]))else no
 |none=>no else no
def yX(P:Program)(t:TypeId)(x k:Value):Sem Value:=if bP k=true then match P.underlying t with
 |some (.map key elem)=>match x with
  |.map (some r)=> .getObj r fun o=>match o with
   |.map es clock=>xc P key elem r k es clock
   |_=>no
  |_=>no
 |_=>no else no
theorem Hp{es es':Array MapEntry}(h:cq ρ es.toList es'.toList)(i:Nat):((es'[i]?).map fun x=>(x.born:Int)).getD 0=((es[i]?).map fun x=>(x.born:Int)).getD 0:=by
 have:=h.get i;simp only[Array.getElem?_toList]at this;rcases this with⟨h1,h2⟩|⟨e,e',h1,h2,h3⟩;·rw[h1,h2]
 ·rw[h1,h2];simp only[Option.map_some,Option.getD_some];rw[h3.born]
theorem CU(t:TypeId){x x' k k':Value}(hx:aX ρ x x')(hk:aX ρ k k'):bj P aX ρ (yX P t x k) (Instr.mapEntry t x' k'):=by
 unfold yX;by_cases hp:bP k=true;·
  rw[if_pos hp,hk.plain hp];cases ht:P.underlying t with
  |none=>exact .halt
  |some d=>
    cases d<;>try exact .halt
    rename_i key elem;refine eE ht ?_;cases hx<;>try exact .halt
    rename_i r r' hr;refine .getObj hr.at fun o o' p ho=>?_;cases ho<;>try exact .halt
    rename_i es es' clock h0 h;dsimp only;unfold xc;by_cases hc:(dF es.toList&&(prun P (Instr.checkKey false 10000 key k)).isSome)=true;·
     rw[if_pos hc];rw[Bool.and_eq_true]at hc;cases hck:prun P (Instr.checkKey false 10000 key k)with
     |none=>rw[hck]at hc;simp at hc
     |some u=>
       show bj P aX ρ _ (Instr.checkKey false 10000 key k>>=_);refine bj.runBnd (gz hck) ?_;cases hf:prun P (Instr.findKey key k es.toList)with
       |none=>exact .halt
       |some q=>
        obtain⟨q',h1,h2⟩:=kQ key k h hc.1 hf;refine bj.runBnd (gz h1) ?_;rcases h2 with⟨rfl,rfl⟩|⟨j,u,u',rfl,rfl,hu⟩;·
         dsimp only;by_cases hzp:G9 P elem=true;case neg=>rw[if_neg hzp];exact .halt
         rw[if_pos hzp];refine bj.bind (dR (tD hzp)) fun ρ1 z z' hl hzz=>?_;exact .setObj (hr.mono hl).at (fP.ofMap (w_ hp hzz clock (h.mono hl)) _) (.pure (.tuple (.cons hzz (.cons (.int _ _) .nil))))
        ·
         dsimp only;by_cases hb:Instr.sameBits 10000 (mF es j k) k=true;·
          rw[if_pos hb];refine bj.runBnd (b:=k) (fun w=>tJ _ _ (by rw[←tI h hc.1]at hb;exact hb) w) ?_;refine .setObj hr.at (fP.ofMap (mG (f:=fun e=>{e with key:=k}) (f':=fun e=>{e with key:=k}) (fun e e' he=>⟨aX.self hp,he.val,he.born⟩) j h) _) (.pure (.tuple (.cons hu (.cons ?_ .nil))));rw[Hp h];exact .int _ _
         ·rw[if_neg hb];exact .halt
    ·rw[if_neg hc];exact .halt
 ·rw[if_neg hp];exact .halt
end Go.Proofs.Eng
end
section
set_option linter.unusedSimpArgs false
set_option linter.unusedVariables false
namespace Go.Proofs.Eng
variable{P:Program}{ρ:br}
theorem pG(q:Nat→Bool):∀{l l':List MapEntry},cq ρ l l'→l'.findIdx? (fun e=>q e.born)=l.findIdx? (fun e=>q e.born)
 |_,_,.nil=>rfl
 |_,_,.cons hk hv t=>by rw[List.findIdx?_cons,List.findIdx?_cons,pG q t]
theorem uM(q:Nat→Bool){es es':Array MapEntry}(h:cq ρ es.toList es'.toList):es'.findIdx? (fun e=>q e.born)=es.findIdx? (fun e=>q e.born):=by have:=pG q h;rw[←List.findIdx?_toArray,←List.findIdx?_toArray]at this;simpa using this
def pH(x stamp v:Value):Sem Unit:=match x,stamp with
 |.map (some r),.int _ n=> .getObj r fun o=>match o with
  |.map es clock=>match es.findIdx? (fun e=>(e.born:Int)==n)with
   |some i=> .setObj r (.map (es.modify i fun e=>{e with val:=v}) clock) (.pure ())
   |none=>no
  |_=>no
 |_,_=>no
theorem qX(t:TypeId){x x' s s' v v':Value}(hx:aX ρ x x')(hs:aX ρ s s')(hv:aX ρ v v'):bj P lX ρ (pH x s v) (Instr.entryStore t x' s' v'):=by
 cases hx<;>try exact .halt
 rename_i r r' hr;cases hs<;>try exact .halt
 rename_i k n;refine .getObj hr.at fun o o' p ho=>?_;cases ho<;>try exact .halt
 rename_i es es' clock h0 h;dsimp only;have he:=uM (fun b=>(b:Int)==n) h;cases hf:es.findIdx? (fun e=>(e.born:Int)==n)with
 |none=>exact .halt
 |some i=>
   rw[hf]at he;show bj P lX ρ _ (match es'.findIdx? (fun e=>(e.born:Int)==n)with|some i=>setObj r' (.map (es'.modify i fun e=>{e with val:=v'}) clock)|none=>_);rw[he];exact .setObj hr.at (fP.ofMap (mG (f:=fun e=>{e with val:=v}) (f':=fun e=>{e with val:=v'}) (fun e e' he=>⟨he.key,hv,he.born⟩) i h) _) (.pure rfl)
theorem oC{o o':Obj}(h:sL ρ o o'):bj P aX ρ (do pure (.pointer (some ⟨←newObj o,0,none⟩))) (do pure (.pointer (some ⟨←newObj o',0,none⟩))):=(iy h).bnd fun _ _ _ _⟨p,h1,h2,h3⟩=> .pure (.ptr ⟨rfl,p,h1,by rw[h2,h3,Nat.zero_add]⟩)
theorem CV(t:TypeId){x x':Value}(hx:aX ρ x x'):bj P aX ρ (Instr.range t x) (Instr.range t x'):=by
 refine(bt t).eqBnd fun ρ1 d hl=>?_;have hx:=hx.mono hl;cases hx<;>cases d<;>try exact .halt
 ·exact oC fun p h _=> .stringIter h _ _
 ·exact oC fun p h _=> .mapIterNone h _ _ _
 ·
  rename_i r r' hr _ _;refine .getObj hr.at fun o o' p ho=>?_;cases ho<;>try exact .halt
  exact oC fun p h _=> .mapIter h hr _ _ _
theorem xf(t:TypeId){x x':Option Value}(hx:dG ρ x x'):bj P aX ρ (Instr.makeMap t x) (Instr.makeMap t x'):=by
 have fin:∀{ρ:br},bj P aX ρ (do pure (.map (some (←newObj (.map #[] 0))))) (do pure (.map (some (←newObj (.map #[] 0))))):=(iy fun p h _=> .map h .nil).bnd fun _ _ _ _ hr=> .pure (.map hr);cases hx with
 |none=>exact fin
 |some hv=>
  refine(bt t).eqBnd fun ρ1 d hl=>?_;cases d<;>try exact .halt
  exact(lD (hv.mono hl)).eqBnd fun _ _ _=>fin
theorem xg(n:Nat):bj P lX ρ (askRoom n) (askRoom n):=by
 unfold askRoom;split;·exact .mark (.pure rfl)
 ·exact .pure rfl
theorem jK{α β:Type}{s:Sem α}{f:α→Sem β}(h:∀A,bO P s A=none)(A:AW):bO P (s>>=f) A=none:=by show bO P (Sem.bind _ _) A=none;rw[g_,h];rfl
theorem qY (t : TypeId) (hz : ∀ e, P.underlying t = some (.slice e) → eo P e) {x x' : Value} (hx : aX ρ x x') (kc : IntKind) (c : Int) (hsm : (IntKind.i64.wrap c).toNat < dM) : bj P aX ρ (Instr.makeSlice t x (.int kc c)) (Instr.makeSlice t x' (.int kc c)) := by
  unfold Instr.makeSlice
  refine dj fun d hd0 => ?_
  cases d <;> try exact .halt
  rename_i elem
  refine (lD hx).eqBnd fun ρ2 n hl2 => ?_
  show bj P aX ρ2 (typeInfo elem >>= _) (typeInfo elem >>= _)
  refine (gU _).eqBnd fun ρ4 i hl4 => ?_
  dsimp only
  have fin : ∀ ρ, bj P aX ρ (do
        askRoom ((IntKind.i64.wrap c).toNat * i.bytes)
        let n1 := (IntKind.i64.wrap c).toNat * (← sizeOf elem)
        let zero ← if n1 = 0 then pure #[] else do pure (← zeroValue elem).cells
        let a ← newRow elem ((Array.range n1).map (zero[· % zero.size]!))
        pure (.slice (some a) (IntKind.i64.wrap n).toNat (IntKind.i64.wrap c).toNat)) (do
        askRoom ((IntKind.i64.wrap c).toNat * i.bytes)
        let n1 := (IntKind.i64.wrap c).toNat * (← sizeOf elem)
        let zero ← if n1 = 0 then pure #[] else do pure (← zeroValue elem).cells
        let a ← newRow elem ((Array.range n1).map (zero[· % zero.size]!))
        pure (.slice (some a) (IntKind.i64.wrap n).toNat (IntKind.i64.wrap c).toNat)) := fun ρ =>
    (xg _).eqBnd fun _ _ _ => (cg _).eqBnd fun ρ5 z _ => by
      have tail : ∀ {ρ6 : br} {zs zs' : Array Value}, bg ρ6 zs zs' → bj P aX ρ6 (do
          let a ← newRow elem ((Array.range ((IntKind.i64.wrap c).toNat * z)).map (zs[· % zs.size]!))
          pure (.slice (some a) (IntKind.i64.wrap n).toNat (IntKind.i64.wrap c).toNat)) (do
          let a ← newRow elem ((Array.range ((IntKind.i64.wrap c).toNat * z)).map (zs'[· % zs'.size]!))
          pure (.slice (some a) (IntKind.i64.wrap n).toNat (IntKind.i64.wrap c).toNat)) := fun hzs =>
        (mC elem (tE hzs _)).bnd fun _ a a' _ ha => .pure (aX.slice ha (.inl ⟨rfl, hsm⟩))
      dsimp only
      by_cases h0 : (IntKind.i64.wrap c).toNat * z = 0
      · rw [if_pos h0]; exact tail .nil
      · rw [if_neg h0]
        exact (dR (hz _ hd0)).bnd fun _ _ _ _ hv => tail hv.cells
  split
  · refine .fails fun A => ?_
    repeat' split
    all_goals first
      | exact jK (fun A => di _ A) A
      | exact ic (fun _ A => jK (fun A => di _ A) A) A
      | exact jK (fun A => ic (fun _ A => di _ A) A) A
  · exact fin _
def mH(t:TypeId)(x y:Value):Sem Value:=match y with
 |.int k c=>if(IntKind.i64.wrap c).toNat<dM then Instr.makeSlice t x (.int k c)else no
 |_=>no
theorem sN(t:TypeId)(hz:∀e,P.underlying t=some (.slice e)→eo P e){x x' y y':Value}(hx:aX ρ x x')(hy:aX ρ y y'):bj P aX ρ (mH t x y) (Instr.makeSlice t x' y'):=by
 unfold mH;split;·
  rename_i kc cc;have hyc:=hy.plain rfl;subst hyc;by_cases hsm:(IntKind.i64.wrap cc).toNat<dM;·rw[if_pos hsm];exact qY t hz hx kc cc hsm
  ·rw[if_neg hsm];exact .halt
 ·exact .halt
def Ev(iter:Value)(isString:Bool):Sem Value:=match iter with
 |.pointer (some a)=>if a.off=0 then .getObj a.block fun o=>match o,isString with
  |.stringIter s pos,true=>if pos<s.size then .setObj a.block (.stringIter s (pos+(Utf8.decode s pos).2)) (.pure (.tuple #[.bool true,goInt pos,.int .i32 (Utf8.decode s pos).1]))else .pure (.tuple #[.bool false])
  |.mapIter none _ _ _,false=> .pure (.tuple #[.bool false])
  |_,_=>no else no
 |_=>no
theorem Ew(t:TypeId){x x':Value}(hx:aX ρ x x')(b:Bool):bj P aX ρ (Ev x b) (Instr.next x' b t):=by
 cases hx<;>try exact .halt
 rename_i a a' ha;unfold Ev;by_cases h0:a.off=0;·
  dsimp only;rw[if_pos h0];obtain⟨h1,p,hp,ha'⟩:=id ha;refine .look hp fun hs=>?_;have e:a'=⟨p.b,0,none⟩:=by rw[ha',hs,h0]
  rw[e];refine .getObj (r':=p.b) ⟨p,hp,rfl⟩ fun o o' q ho=>?_;cases ho<;>cases b<;>try exact .halt
  ·
   rename_i s n;show bj P aX ρ (if _ then _ else _) (if _ then _ else _);split;·refine .setObj (r':=p.b) ⟨p,hp,rfl⟩ (fun p h=> .stringIter h _ _) (.pure ?_);exact .tuple (.cons (.bool _) (.cons (.int _ _) (.cons (.int _ _) .nil)))
   ·exact .pure (.tuple (.cons (.bool _) .nil))
  ·exact .pure (.tuple (.cons (.bool _) .nil))
 ·dsimp only;rw[if_neg h0];exact .halt
end Go.Proofs.Eng
end
section
set_option linter.unusedSimpArgs false
set_option linter.unusedVariables false
namespace Go.Proofs.Eng
variable{P:Program}{ρ:br}
theorem xh{α β:Type}{R:br→α→β→Prop}{t:TypeId}{i:TypeInfo}{s:Sem α}{f':TypeInfo→Sem β}(h:P.info? t=some i)(hk:bj P R ρ s (f' i)):bj P R ρ s (typeInfo t>>=f'):=.programR (by
 show bj P R ρ s ((match P.info? t with|some i=>pure i|none=>stuck _:Sem TypeInfo)>>=f');rw[h];exact hk)
theorem JM{α β:Type}{R:br→α→β→Prop}{t:TypeId}{i:TypeInfo}{s:Sem α}{f':Nat→Sem β}(h:P.info? t=some i)(hk:bj P R ρ s (f' i.size)):bj P R ρ s (sizeOf t>>=f'):=by unfold sizeOf;rw[bind_assoc];simp only[pure_bind];exact xh h hk
def Ex(v:Value)(top:Nat):Option Nat:=match v with
 |.int _ i=>if 0≤i∧i≤top then some i.toNat else none
 |_=>none
def xi(v:Option Value)(top d:Nat):Option Nat:=match v with
 |some v=>Ex v top
 |none=>some d
def Na(P:Program)(t:TypeId)(a:Addr)(n c:Nat)(lo hi mx:Option Value):Sem Value:=match P.underlying t,mx with
 |some (.slice elem),none=>match P.info? elem with
  |some i=>match xi hi n n with
   |some h=>match xi lo h 0 with
    |some l=>if l=0 then .pure (.slice (some a) h c)else if l<n then(if c=dM+i.size then .pure (.slice (some (a.add (l*i.size))) (h-l) c)else no)else no
    |none=>no
   |none=>no
  |none=>no
 |_,_=>no
def yY(P:Program)(t:TypeId)(x:Value)(lo hi mx:Option Value):Sem Value:=match x with
 |.slice (some a) n c=>if c<dM then(if CO P t=true then Instr.sliceAt t x lo hi mx else no)else Na P t a n c lo hi mx
 |x=>if CO P t=true then Instr.sliceAt t x lo hi mx else no
theorem iT{v v':Value}{top k:Nat}(hv:aX ρ v v')(h:Ex v top=some k):k≤top∧v'=v∧∀top' c,top≤top'→Instr.sliceBound v top' c=.pure k:=by
 unfold Ex at h;cases v<;>try cases h
 rename_i kk i;dsimp only at h;split at h;·rename_i hi;simp only[Option.some.injEq]at h;subst h;refine⟨by omega,hv.plain rfl,fun top' c ht=>?_⟩;show Sem.bind _ _=_;simp only[asIntOf,Pure.pure,Sem.bind];rw[if_pos (by omega)]
 ·cases h
theorem Hq(t:TypeId){a a':Addr}{n c c':Nat}(ha:dE ρ a a')(hc:dM≤c)(hn:n≤c')(hp:∃p,ρ a.block=some p∧a'.off+c'*(c-dM)≤p.top){lo lo' hi hi' mx mx':Option Value}(h1:dG ρ lo lo')(h2:dG ρ hi hi')(h3:dG ρ mx mx'):bj P aX ρ (Na P t a n c lo hi mx) (Instr.sliceAt t (.slice (some a') n c') lo' hi' mx'):=by
 unfold Na;cases ht:P.underlying t with
 |none=>exact .halt
 |some d=>
   cases d<;>try exact .halt
   rename_i elem;cases h3 with
   |some _=>exact .halt
   |none=>dsimp only;cases hi2:P.info? elem with
           |none=>exact .halt
           |some i=>
             dsimp only;cases hh:xi hi n n with
             |none=>exact .halt
             |some h=>
               dsimp only;cases hl:xi lo h 0 with
               |none=>exact .halt
               |some l=>
                 dsimp only;have hb:Instr.sliceBounds true n c' lo' hi' none=.pure (l,h,c'):=by
                  have low:∀{h:Nat},xi lo h 0=some l→∀(b:Nat→BoundsCode),(match(generalizing:=false)lo' with
                  |some v=>(Instr.sliceBound v h (b 0)).bind fun l=>Sem.pure (l,h,c')
                  |none=>Sem.pure (0,h,c'))=Sem.pure (l,h,c'):=by
                   intro h hl b;cases h1 with
                   |none=>cases hl;rfl
                   |some hv=>obtain⟨g1,g2,g3⟩:=iT hv hl;subst g2;dsimp only;rw[g3 h _ (Nat.le_refl _)];rfl
                  cases h2 with
                  |none=>cases hh;exact low hl fun _=> .sliceB
                  |some hv=>obtain⟨g1,g2,g3⟩:=iT hv hh;subst g2;show Sem.bind (Instr.sliceBound _ c' .sliceAcap) _=_;rw[g3 c' _ hn];exact low hl fun _=> .sliceB
                 have hln:l≤h∧h≤n:=by
                  constructor;·
                   cases h1 with
                   |none=>cases hl;exact Nat.zero_le _
                   |some hv=>exact(iT hv hl).1
                  ·cases h2 with
                    |none=>cases hh;exact Nat.le_refl _
                    |some hv=>exact(iT hv hh).1
                 obtain⟨p,hp1,hp2⟩:=hp;have go:∀s:Sem Value,bj P aX ρ s (.pure (.slice (some (if c'=l then a' else a'.add (l*i.size))) (h-l) (c'-l)))→bj P aX ρ s (Instr.sliceAt t (.slice (some a') n c') lo' hi' none):=by
                  intro s hs;refine eE ht (eE ht ?_);show bj P aX ρ s (Instr.sliceBounds true n c' lo' hi' none>>=_);rw[hb];refine JM hi2 ?_;show bj P aX ρ s (.pure (.slice (if c'=l then some a' else(some a').map (·.add (l*i.size))) (h-l) (c'-l)));by_cases hm:c'=l;·simp only[hm,if_true]at hs⊢;exact hs
                  ·simp only[hm,if_false,Option.map_some]at hs⊢;exact hs
                 by_cases hl0:l=0;·
                  rw[if_pos hl0];refine go _ ?_;subst hl0;have:(if c'=0 then a' else a'.add (0*i.size))=a':=by
                   by_cases hc0:c'=0;·rw[if_pos hc0]
                   ·rw[if_neg hc0];simp[Addr.add]
                  rw[this];simp only[Nat.sub_zero];exact .pure (.slice ha (.inr ⟨hc,by omega,p,hp1,hp2⟩))
                 ·
                  rw[if_neg hl0];by_cases hlt:l<n;·
                   rw[if_pos hlt];by_cases hcz:c=dM+i.size;·
                    rw[if_pos hcz];refine go _ ?_;rw[if_neg (by omega)];have hz:c-dM=i.size:=by omega
                    refine .pure (.slice (ha.add _) (.inr ⟨hc,by omega,p,?_,?_⟩));·
                     have:(a.add (l*i.size)).block=a.block:=by unfold Addr.add;split<;>rfl
                     rw[this];exact hp1
                    ·
                     rw[hz]at hp2⊢;have:(a'.add (l*i.size)).off=a'.off+l*i.size:=by
                      unfold Addr.add;split;·rename_i hz0;rw[hz0,Nat.add_zero]
                      ·rfl
                     rw[this,Nat.sub_mul];have:l*i.size≤c'*i.size:=Nat.mul_le_mul_right _ (by omega);omega
                   ·rw[if_neg hcz];exact .halt
                  ·rw[if_neg hlt];exact .halt
theorem yZ(t:TypeId){x x':Value}(hx:aX ρ x x'){lo lo' hi hi' mx mx':Option Value}(h1:dG ρ lo lo')(h2:dG ρ hi hi')(h3:dG ρ mx mx'):bj P aX ρ (yY P t x lo hi mx) (Instr.sliceAt t x' lo' hi' mx'):=by
 unfold yY;split;·
  rename_i a n c;by_cases hc:c<dM;·
   rw[if_pos hc];by_cases har:CO P t=true;·
    rw[if_pos har];exact pw t (Er har) hx h1 h2 h3 fun a n c e=>by cases e;exact hc
   ·rw[if_neg har];exact .halt
  ·rw[if_neg hc];cases hx with
    |slice ha hcr=>
     rcases hcr with⟨rfl,g⟩|⟨g1,g2,g3⟩;·exact absurd g hc
     ·exact Hq t ha g1 g2 g3 h1 h2 h3
 ·
  rename_i hne;by_cases har:CO P t=true;·rw[if_pos har];exact pw t (Er har) hx h1 h2 h3 fun a n c e=>absurd e (hne a n c)
  ·rw[if_neg har];exact .halt
theorem nw(b off i:Nat):(⟨b,off,none⟩:Addr).add i=⟨b,off+i,none⟩:=by
 unfold Addr.add;split;·rename_i h;subst h;rfl
 ·rfl
theorem tK{a:Addr}:∀(k i:Nat)(acc old:Array Value)(A A':AW),bO P (loadCellsFrom a i k acc) A=some (old,A')→A'=A∧old.size=acc.size+k∧(∀j,j<acc.size→old[j]?=acc[j]?)∧∀j,j<k→∃c e fr v,A.get a.block=some (.cells c e fr)∧old[acc.size+j]?=some v∧c[a.off+(i+j)]?=some v
 |0,i,acc,old,A,A',h=>by simp only[loadCellsFrom,Pure.pure,bO,Option.some.injEq,Prod.mk.injEq]at h;obtain⟨rfl,rfl⟩:=h;exact⟨rfl,by simp,fun _ _=>rfl,fun j hj=>absurd hj (Nat.not_lt_zero _)⟩
 |k+1,i,acc,old,A,A',h=>by
   have hb:(a.add i).block=a.block:=by unfold Addr.add;split<;>rfl
   have ho:(a.add i).off=a.off+i:=by
    unfold Addr.add;split;·rename_i h0;rw[h0,Nat.add_zero]
    ·rfl
   have h2:bO P (Sem.load .plain (a.add i) fun v=>loadCellsFrom a (i+1) k (acc.push v)) A=some (old,A'):=h;simp only[bO,hb,ho]at h2;split at h2;·
    rename_i c e fr hg;split at h2;·cases h2
    ·
     split at h2;·
      rename_i v hv;obtain⟨g1,g2,g3,g4⟩:=tK k (i+1) (acc.push v) old A A' h2;refine⟨g1,by rw[g2,Array.size_push];omega,fun j hj=>?_,fun j hj=>?_⟩;·
       rw[g3 j (by rw[Array.size_push];omega),Array.getElem?_push,if_neg (by omega)]
      ·cases j with
        |zero=>refine⟨c,e,fr,v,hg,?_,by simpa using hv⟩;have:=g3 acc.size (by rw[Array.size_push];omega);rw[Array.getElem?_push,if_pos rfl]at this;simpa using this
        |succ j=>
         obtain⟨c2,e2,fr2,v2,q1,q2,q3⟩:=g4 j (by omega);refine⟨c2,e2,fr2,v2,q1,?_,?_⟩;·rw[Array.size_push]at q2;rw[←q2];congr 1;omega
         ·rw[←q3];congr 1;omega
     ·cases h2
   ·cases h2
theorem JN{a:Addr}{k:Nat}{old:Array Value}{A A':AW}(h:bO P (loadCells a k) A=some (old,A')):A'=A∧old.size=k∧∀j,j<k→∃c e fr v,A.get a.block=some (.cells c e fr)∧old[j]?=some v∧c[a.off+j]?=some v:=by obtain⟨g1,g2,_,g4⟩:=tK k 0 #[] old A A' h;refine⟨g1,by simpa using g2,fun j hj=>?_⟩;obtain⟨c,e,fr,v,q1,q2,q3⟩:=g4 j hj;exact⟨c,e,fr,v,q1,by simpa using q2,by simpa using q3⟩
theorem JO{P:Prop}(h:P:=by simp only[Builtin.firstCells,Pure.pure,bO,Option.some.injEq,Prod.mk.injEq]at h;exact h.2.symm):P:=h
theorem Nb{size m:Nat}{x:Value}{new:Array Value}{A A':AW}(h:bO P (Builtin.firstCells size m x) A=some (new,A')):A'=A:=by
 cases x<;>try
  (simp[Builtin.firstCells,stuck,bO]at h;done)
 · exact JO
 ·rename_i a n c;cases a with
   |none=> exact JO
   |some a=>exact(JN h).1
theorem CW{α:Type}{m:Mode}{v:Value}(hv:cellish v=true){w:World}{b off:Nat}{c:Array Value}{e:TypeId}{fr:Nat×Nat}(hb:w.heap[b]?=some (.cells c e fr))(hlt:off<c.size)(hf:¬(fr.1≤off∧off<fr.2))(k:Sem α):(Sem.store m ⟨b,off,none⟩ v k).run P w=k.run P (w.setCell ⟨b,off,none⟩ v):=by
 have hcv:(w.cell? ⟨b,off,none⟩).isSome=true:=by simp[World.cell?,hb,hlt]
 have hnf:w.frozen? ⟨b,off,none⟩=false:=by
  simp only[World.frozen?,hb,Bool.and_eq_false_iff,decide_eq_false_iff_not];by_cases h1:fr.1≤off;·exact .inr (fun h2=>hf ⟨h1,h2⟩)
  ·exact .inl h1
 cases v<;>first
 |(simp[cellish]at hv;done)
 |(simp only[Sem.run];cases hcc:w.cell? ⟨b,off,none⟩with
    |none=>simp[hcc]at hcv
    |some u=>simp[hnf])
theorem uN{w:World}{b off:Nat}{v:Value}{c:Array Value}{e:TypeId}{fr:Nat×Nat}(hb:w.heap[b]?=some (.cells c e fr)):fF w (w.setCell ⟨b,off,none⟩ v) b∧(w.setCell ⟨b,off,none⟩ v).heap.size=w.heap.size∧(w.setCell ⟨b,off,none⟩ v).heap[b]?=some (.cells (c.setIfInBounds off v) e fr):=by refine⟨⟨fun j hj=>by simp[World.setCell,Array.getElem?_modify,Ne.symm hj],rfl,rfl,rfl⟩,by simp[World.setCell],?_⟩;simp[World.setCell,Array.getElem?_modify,hb]
theorem fF.trans{w w1 w2:World}{b:Nat}(h:fF w w1 b)(h':fF w1 w2 b):fF w w2 b:=⟨fun c hc=>(h'.other c hc).trans (h.other c hc),h'.tape.trans h.tape,h'.os.trans h.os,h'.out.trans h.out⟩
theorem qZ{b off:Nat}{e:TypeId}{fr:Nat×Nat}:∀(l:List Value)(i:Nat)(w:World)(c:Array Value),w.heap[b]?=some (.cells c e fr)→off+i+l.length≤c.size→(∀j,j<c.size→¬(fr.1≤j∧j<fr.2))→l.all cellish=true→∃w' c',(storeCells ⟨b,off,none⟩ l i).run P w=.ok () w'∧fF w w' b∧w'.heap.size=w.heap.size∧w'.heap[b]?=some (.cells c' e fr)∧c'.size=c.size∧∀j,c'[j]?=if off+i≤j∧j<off+i+l.length then l[j-(off+i)]? else c[j]?
 |[],i,w,c,hb,_,_,_=>⟨w,c,rfl,⟨fun _ _=>rfl,rfl,rfl,rfl⟩,rfl,hb,rfl,fun j=>by
  rw[if_neg (by simp only[List.length_nil];omega)]⟩
 |v::l,i,w,c,hb,hle,hf,hall=>by
  simp only[List.length_cons,List.all_cons,Bool.and_eq_true]at hle hall;obtain⟨s1,s2,s3⟩:=uN (v:=v) (off:=off+i) hb;have hsz:(c.setIfInBounds (off+i) v).size=c.size:=Array.size_setIfInBounds;obtain⟨w',c',r,q1,q2,q3,q4,q5⟩:=qZ (off:=off) l (i+1) (w.setCell ⟨b,off+i,none⟩ v) (c.setIfInBounds (off+i) v) s3 (by omega) (fun j hj=>hf j (by omega)) hall.2;refine⟨w',c',?_,s1.trans q1,q2.trans s2,q3,by rw[q4,Array.size_setIfInBounds],fun j=>?_⟩;·show Sem.run P (Sem.store .plain ((⟨b,off,none⟩:Addr).add i) v (storeCells ⟨b,off,none⟩ l (i+1))) w=_;rw[nw,CW hall.1 hb (by omega) (hf _ (by omega))];exact r
  ·
   rw[q5];simp only[List.length_cons];by_cases h1:off+(i+1)≤j∧j<off+(i+1)+l.length;·
    rw[if_pos h1,if_pos (by omega)];have:j-(off+i)=(j-(off+(i+1)))+1:=by omega
    rw[this,List.getElem?_cons_succ]
   ·
    rw[if_neg h1,Array.getElem?_setIfInBounds];by_cases h2:off+i=j;·subst h2;rw[if_pos rfl,if_pos (by omega),if_pos (by omega)];simp
    ·rw[if_neg h2,if_neg (by omega)]
theorem bj.chooseR{α β:Type}{R:br→α→β→Prop}{q:Question}{s:Sem α}{k':Nat→Sem β}(hq:q.forced=false)(hk:∀t,bj P R ρ s (k' (q.cut t))):bj P R ρ s (.choose q k'):=.jump fun A A' a w e H=>by
 obtain⟨ρ',b,w',hr,hR,HH,SS⟩:=(hk (w.tape w.drawn q)).sound e (H.heap (w':={w with drawn:=w.drawn+1}) rfl);exact⟨ρ',b,w',by simp only[Sem.run,hq];exact hr,hR,HH,(Step.heap (w:=w) (w':={w with drawn:=w.drawn+1}) rfl rfl rfl rfl).trans SS⟩
theorem bj.killL{α β:Type}{R:br→α→β→Prop}{a:Addr}{n:Nat}{s:Sem α}{s':Sem β}(ha:a.spot.isSome=true)(hk:bj P R ρ s s'):bj P R ρ (.freeze a n s) s':=.jump fun A A' a w e H=>by
 simp only[bO,ha,if_true]at e;split at e;·
  rename_i c e' fr hg;split at e;·
   rename_i hro;split at e;·obtain⟨H1,S1⟩:=H.kill hg hro;obtain⟨ρ',b,w',hr,hR,HH,SS⟩:=hk.sound e H1;exact⟨ρ',b,w',hr,hR,HH,S1.trans SS⟩
   ·cases e
  ·cases e
 ·cases e
theorem bj.shapeL{α β:Type}{R:br→α→β→Prop}{r:Nat}{k:Option (TypeId×Nat)→Sem α}{s':Sem β}(hk:∀x,bj P R ρ (k x) s'):bj P R ρ (.shape r k) s':=.jump fun A A' a w e H=>by
 simp only[bO]at e;split at e;·exact(hk _).sound e H
 ·exact(hk _).sound e H
 ·cases e
theorem bj.newT{α β:Type}{R:br→α→β→Prop}{o o':Obj}{k:Nat→Sem α}{k':Nat→Sem β}(h:sL ρ o o')(hk:∀(ρ':br)(r r':Nat)(p:Pos),ρ.le ρ'→ρ' r=some p→p.b=r'→p.s=0→p.top=Obj.top o'→bj P R ρ' (k r) (k' r')):bj P R ρ (.new o k) (.new o' k'):=.jump fun A A' a w e H=>by
 simp only[bO]at e;split at e;·
  rename_i hn;have hp:=h ⟨w.heap.size,0,Obj.top o',0⟩ rfl rfl;have hle:ρ.le (ρ.set A.nid ⟨w.heap.size,0,Obj.top o',0⟩):=br.set_le (H.none _ (Nat.le_refl _) hn);obtain⟨H1,S1⟩:=H.push (w':={w with heap:=w.heap.push o'}) (p:=⟨w.heap.size,0,Obj.top o',0⟩) hn (Nat.le_refl _) ⟨fun c hc=>by have hc':c≠w.heap.size:=hc;show(w.heap.push o')[c]?=_;rw[Array.getElem?_push];simp[hc'],rfl,rfl,rfl⟩ (by simp) (by simp) (hp.mono hle);obtain⟨ρ',a',w',hr,hR,HH,SS⟩:=(hk _ A.nid w.heap.size _ hle (br.set_self _ _ _) rfl rfl rfl).sound e H1;exact⟨ρ',a',w',by simp only[Sem.run];exact hr,hR,HH,S1.trans SS⟩
 ·cases e
theorem xj{α β:Type}{R:br→α→β→Prop}{s:Sem α}{f':Unit→Sem β}(n:Nat)(hk:bj P R ρ s (f' ())):bj P R ρ s (askRoom n>>=f'):=by
 unfold askRoom;split;·exact .markR hk
 ·exact hk
theorem JP{α β:Type}{R:br→α→β→Prop}{t:TypeId}{i:TypeInfo}{z:Value}{s:Sem α}{f':Value→Sem β}(h:P.info? t=some i)(hz:i.zero=some z)(hk:bj P R ρ s (f' z)):bj P R ρ s (zeroValue t>>=f'):=.programR (by
 show bj P R ρ s (((match P.info? t with|some i=>pure i|none=>stuck _:Sem TypeInfo)>>=fun i=>match i.zero with|some v=>pure v|none=>unsupported _)>>=f');rw[h];show bj P R ρ s ((match i.zero with|some v=>pure v|none=>unsupported _:Sem Value)>>=f');rw[hz];exact hk)
theorem tL:∀(k c m:Nat),c≤m+(m+768) / 4→Builtin.growBy m k c≤m+(m+768) / 4
 |0,c,m,h=>h
 |k+1,c,m,h=>by
  unfold Builtin.growBy;split;·exact h
  ·exact tL k _ m (by omega)
theorem y_{m c:Nat}(h:c<m):Builtin.nextslicecap m c≤2*m+192:=by
 unfold Builtin.nextslicecap;split;·omega
 ·
  split;·omega
  ·have:=tL 4 c m (by omega);omega
theorem kR(z:Array Value)(n:Nat):(Builtin.zeroCells z n).size=n*z.size:=by simp[Builtin.zeroCells]
end Go.Proofs.Eng
end
section
set_option linter.unusedSimpArgs false
set_option linter.unusedVariables false
namespace Go.Proofs.Eng
variable{P:Program}{ρ:br}
def q_ (elem : TypeId) (size n m c : Nat) (s x : Value) : Sem Value := do
  let newCap ← choose (.appendCap (n + m) c elem)
  askRoom (newCap * (← typeInfo elem).bytes)
  let old ← Builtin.firstCells size n s
  let new ← Builtin.firstCells size m x
  let rest := Builtin.zeroCells (← zeroValue elem).cells (newCap - (n + m))
  pure (.slice (some (← newRow elem (old ++ new ++ rest))) (n + m) newCap)
def oD (size n m c : Nat) (base : Option Addr) (x : Value) : Sem Value := do
  let new ← Builtin.firstCells size m x
  if let some a := base then storeCells (a.add (n * size)) new.toList
  pure (.slice base (n + m) c)
def za(elem:TypeId)(size n m:Nat)(s x:Value):Sem Value:=(Builtin.firstCells size n s).bind fun old=>(Builtin.firstCells size m x).bind fun new=>if old.size=n*size∧new.size=m*size then .new (.cells (old++new) elem) fun r=> .pure (.slice (some ⟨r,0,none⟩) (n+m) (dM+size))else no
theorem sL.more{c c' d:Array Value}(h:bg ρ c c')(e:TypeId):sL ρ (.cells c e) (.cells (c'++d) e):=fun p hs ht=>by
 refine .cells hs (by rw[hs,h.size,Array.size_append];omega) ht (fun i v hv=>?_) ⟨Nat.le_refl _,fun j _ h2=>absurd h2 (Nat.not_lt_zero _),fun _=>Nat.zero_le _⟩;obtain⟨v',g1,g2⟩:=h.get hv;refine⟨v',?_,g2⟩;rw[hs,Nat.zero_add,Array.getElem?_append_left (Array.getElem?_eq_some_iff.1 g1).1];exact g1
theorem ny{elem:TypeId}{size n m k:Nat}{old old' new new' rest:Array Value}(ho:bg ρ old old')(hn:bg ρ new new')(h1:old.size=n*size)(h2:new.size=m*size)(hk:n+m≤k)(hr:rest.size=(k-(n+m))*size):bj P aX ρ (.new (.cells (old++new) elem) fun r=> .pure (.slice (some ⟨r,0,none⟩) (n+m) (dM+size))) (newRow elem (old'++new'++rest)>>=fun a=>pure (.slice (some a) (n+m) k)):=by
 show bj P aX ρ _ (.new (.cells (old'++new'++rest) elem) fun r=> .pure (.slice (some ⟨r,0,none⟩) (n+m) k));refine .newT (sL.more (ho.append hn) elem) fun ρ' r r' p hl hp hb hs ht=> .pure (.slice ⟨rfl,p,hp,by simp[hb,hs]⟩ (.inr ⟨Nat.le_add_right _ _,hk,p,hp,?_⟩));rw[ht,Nat.add_sub_cancel_left];simp only[Obj.top,Array.size_append,←ho.size,←hn.size,h1,h2,hr,Nat.zero_add];have:k=n+m+(k-(n+m)):=by omega
 rw[←Nat.add_mul,←Nat.add_mul,←this];exact Nat.le_refl _
theorem tM{elem:TypeId}{i:TypeInfo}{z:Value}(hi:P.info? elem=some i)(hz:i.zero=some z)(hzs:z.cells.size=i.size)(n m c:Nat){s s' x x':Value}(hs:aX ρ s s')(hx:aX ρ x x'):bj P aX ρ (za elem i.size n m s x) (q_ elem i.size n m c s' x'):=by
 refine .chooseR rfl fun t=>?_;have hk:n+m≤Question.cut (.appendCap (n+m) c elem) t:=Nat.le_add_right _ _;generalize Question.cut (.appendCap (n+m) c elem) t=k at hk;show bj P aX ρ _ (typeInfo elem>>=fun i'=>askRoom (k*i'.bytes)>>=fun _=>Builtin.firstCells i.size n s'>>=fun old=>Builtin.firstCells i.size m x'>>=fun new=>zeroValue elem>>=fun z=>newRow elem (old++new++Builtin.zeroCells z.cells (k-(n+m)))>>=fun a=>pure (.slice (some a) (n+m) k));refine xh hi (xj _ ?_);refine bj.bind (dn i.size n hs) fun ρ1 old old' hl1 ho=>?_;refine bj.bind (dn i.size m (hx.mono hl1)) fun ρ2 new new' hl2 hn=>?_;by_cases hc:old.size=n*i.size∧new.size=m*i.size;·rw[if_pos hc];refine JP hi hz ?_;exact ny (ho.mono hl2) hn hc.1 hc.2 hk (by rw[kR,hzs])
 ·rw[if_neg hc];exact .halt
def Bd(elem:TypeId)(size n m:Nat)(a:Addr)(x:Value):Sem Value:=.shape a.block fun sh=>match sh with
 |some (e,_)=>if e=elem then(loadCells a (n*size)).bind fun old=>(Builtin.firstCells size m x).bind fun new=>if old.size=n*size∧new.size=m*size∧new.toList.all cellish=true then .freeze ⟨a.block,0,some 0⟩ 0 (.new (.cells (old++new) elem) fun r=> .pure (.slice (some ⟨r,0,none⟩) (n+m) (dM+size)))else no else no
 |none=>no
theorem bD.cellish{ρ:br}:∀{l l':List Value},bD ρ l l'→l.all cellish=true→l'.all Eng.cellish=true
 |_,_,.nil,_=>rfl
 |_,_,.cons hv t,h=>by
  simp only[List.all_cons,Bool.and_eq_true]at h⊢;refine⟨?_,t.cellish h.2⟩;cases hv<;>first|rfl|
   (simp[Eng.cellish]at h;done)
theorem Ey{elem:TypeId}{i:TypeInfo}{z:Value}(hi:P.info? elem=some i)(hz:i.zero=some z)(hzs:z.cells.size=i.size){n m c':Nat}{a a':Addr}(ha:dE ρ a a')(h0:a.off=0)(hn:n≤c')(hp:∃p,ρ a.block=some p∧a'.off+c'*i.size≤p.top){x x':Value}(hx:aX ρ x x'):bj P aX ρ (Bd elem i.size n m a x) (if n+m≤c' then oD i.size n m c' (some a') x' else q_ elem i.size n m c' (.slice (some a') n c') x'):=by
 by_cases hle:n+m≤c';·
  rw[if_pos hle];refine .jump fun A A' v w e H=>?_;unfold Bd at e;simp only[bO]at e;split at e;·
   rename_i c e0 fr hg;by_cases hee:e0=elem;·
    subst hee;rw[if_pos rfl,g_]at e;cases hl:bO P (loadCells a (n*i.size)) A with
    |none=>rw[hl]at e;cases e
    |some r=>
      obtain⟨old,A1⟩:=r;rw[hl]at e;obtain⟨rfl,hos,hold⟩:=JN hl;dsimp only[Option.bind]at e;rw[g_]at e;cases hf:bO P (Builtin.firstCells i.size m x) A1 with
      |none=>rw[hf]at e;cases e
      |some r2=>
        obtain⟨new,A2⟩:=r2;rw[hf]at e;obtain rfl:=Nb hf;obtain⟨ρ1,new',w1,hr1,hnew,H1,S1⟩:=(dn i.size m hx).sound hf H;dsimp only[Option.bind]at e;split at e;·
         rename_i hcond;obtain⟨_,hns,gO⟩:=hcond;simp only[bO,hg,Option.isSome_some,if_true]at e;split at e;·
          rename_i hro;split at e;·
           rename_i hfr2;obtain⟨hfr,hmark⟩:=hfr2;split at e;·
            rename_i hnid;have hnid':A2.nid<A2.stop:=hnid;simp only[Option.some.injEq,Prod.mk.injEq]at e;obtain⟨rfl,rfl⟩:=e;obtain⟨hs,p,hp1,ha'⟩:=ha;obtain⟨p2,hq1,hq2⟩:=hp;rw[hp1]at hq1;cases hq1;have hp1':=S1.le _ _ hp1;obtain⟨p3,o',hp3,hw,ho⟩:=H1.obj _ _ hg;rw[hp1']at hp3;cases hp3;cases ho with
            |@cells _ cc _ _ fr' hs0 hsn ht hc hfrel=>
             have e':a'=⟨p.b,0,none⟩:=by rw[ha',hs0,h0]
             subst e';have hsz:(n+m)*i.size≤cc.size:=by have:=Nat.mul_le_mul_right i.size hle;simp only[Nat.zero_add]at hq2;omega
             have hnsz:new'.size=m*i.size:=by rw[←hnew.size,hns]
             have hnf:∀j,j<cc.size→¬(fr'.1≤j∧j<fr'.2):=fun j hj⟨x1,x2⟩=>by
              rcases hfrel.2.1 j x1 x2 hj with h|⟨h1,h2,_⟩;·omega
              ·omega
             obtain⟨w2,c2,r2,q1,q2,q3,q4,q5⟩:=qZ (P:=P) (off:=0+n*i.size) new'.toList 0 w1 cc hw (by simp only[Array.length_toList,hnsz];rw[Nat.add_mul]at hsz;omega) hnf (bD.cellish hnew gO);simp only[Nat.zero_add,Nat.add_zero]at q5;have hle':ρ1.le (ρ1.set A2.nid ⟨p.b,0,p.top,0⟩):=br.set_le (H1.none _ (Nat.le_refl _) hnid');obtain⟨H2,S2⟩:=H1.regrow (w':=w2) (p:=⟨p.b,0,p.top,0⟩) (o:=.cells (old++new) e0) (o':=.cells c2 e0 fr') hnid' hg hp1' hro rfl q1 q2 q3 (by
              refine .cells rfl ?_ (by show p.top=_;rw[ht,q4]) (fun j v hv=>?_) ⟨hfrel.1,fun j x1 x2 x3=>absurd ⟨x1,x2⟩ (hnf j (by rw[←q4];exact x3)),fun _=>by rw[q4];exact hfrel.2.2 hmark⟩;·rw[q4,Array.size_append,hos,hns];rw[Nat.add_mul]at hsz;show 0+_≤_;omega
              ·
               show∃v',c2[0+j]?=some v'∧_;rw[Nat.zero_add,q5];rw[Array.getElem?_append]at hv;by_cases hj:j<n*i.size;·rw[if_pos (by omega)]at hv;obtain⟨c3,e3,fr3,v3,g1,g2,g3⟩:=hold j hj;rw[hg]at g1;cases g1;rw[g2]at hv;cases hv;rw[h0,Nat.zero_add]at g3;obtain⟨v',g4,g5⟩:=hc j _ g3;refine⟨v',?_,g5.mono hle'⟩;rw[if_neg (by omega)];rw[hs0,Nat.zero_add]at g4;exact g4
               ·rw[if_neg (by omega)]at hv;have hj2:=(Array.getElem?_eq_some_iff.1 hv).1;rw[hos]at hv hj2;obtain⟨v',g1,g2⟩:=hnew.get hv;refine⟨v',?_,g2.mono hle'⟩;rw[if_pos (by simp only[Array.length_toList,hnsz];omega),Array.getElem?_toList];exact g1);refine⟨_,.slice (some ⟨p.b,0,none⟩) (n+m) c',w2,?_,.slice ⟨rfl,_,br.set_self _ _ _,rfl⟩ (.inr ⟨Nat.le_add_right _ _,hle,_,br.set_self _ _ _,?_⟩),H2,S1.trans S2⟩;·show Sem.run P (Builtin.firstCells i.size m x'>>=_) w=_;rw[Sem.run_bind,hr1];show Sem.run P (storeCells ((⟨p.b,0,none⟩:Addr).add (n*i.size)) new'.toList>>=_) w1=_;rw[nw,Sem.run_bind,r2];rfl
             ·show 0+c'*(dM+i.size-dM)≤p.top;rw[Nat.add_sub_cancel_left];exact hq2
           ·cases e
          ·cases e
         ·cases e
        ·simp[no,bO]at e
   ·rw[if_neg hee]at e;simp[no,bO]at e
  ·simp[no,bO]at e
  ·cases e
 ·rw[if_neg hle];unfold Bd;refine .shapeL fun sh=>?_;match sh with
   |none=>exact .halt
   |some (e,_)=>
    dsimp only;by_cases hee:e=elem;·
     rw[if_pos hee];refine .chooseR rfl fun t=>?_;have hk:n+m≤Question.cut (.appendCap (n+m) c' elem) t:=Nat.le_add_right _ _;generalize Question.cut (.appendCap (n+m) c' elem) t=k at hk;show bj P aX ρ _ (typeInfo elem>>=fun i'=>askRoom (k*i'.bytes)>>=fun _=>loadCells a' (n*i.size)>>=fun old=>Builtin.firstCells i.size m x'>>=fun new=>zeroValue elem>>=fun z=>newRow elem (old++new++Builtin.zeroCells z.cells (k-(n+m)))>>=fun a=>pure (.slice (some a) (n+m) k));refine xh hi (xj _ ?_);refine bj.bind (gj ha _) fun ρ1 old old' hl1 ho=>?_;refine bj.bind (dn i.size m (hx.mono hl1)) fun ρ2 new new' hl2 hnw=>?_;by_cases hc:old.size=n*i.size∧new.size=m*i.size∧new.toList.all cellish=true;·rw[if_pos hc];refine JP hi hz (.killL rfl ?_);exact ny (ho.mono hl2) hnw hc.1 hc.2.1 hk (by rw[kR,hzs])
     ·rw[if_neg hc];exact .halt
    ·rw[if_neg hee];exact .halt
def Ez:TypeDesc→Bool
 |.int _=>true
 |_=>false
def lenQ:Value→Option Nat
 |.slice _ n _=>some n
 |.string s=>some s.size
 |_=>none
def Ou(size n c:Nat)(a:Addr)(x:Value):Sem Value:=(Builtin.firstCells size 0 x).bind fun new=>if new.size=0 then .pure (.slice (some a) n c)else no
def Hr(elem:TypeId)(i:TypeInfo)(base:Option Addr)(n c m:Nat)(x:Value):Sem Value:=match base with
 |none=>if n+m≤c then oD i.size n m c none x else za elem i.size n m (.slice none n c) x
 |some a=>if c<dM then(if n+m≤c then oD i.size n m c (some a) x else za elem i.size n m (.slice (some a) n c) x)else if m=0 then Ou i.size n c a x else if c=dM+i.size∧a.off=0 then Bd elem i.size n m a x else no
theorem re(size n m c:Nat){base base':Option Addr}(hb:aX ρ (.slice base n c) (.slice base' n c))(hc:base=none∨c<dM){x x':Value}(hx:aX ρ x x'):bj P aX ρ (oD size n m c base x) (oD size n m c base' x'):=by
 refine(dn size m hx).bnd fun ρ1 new new' hl hn=>?_;cases hb with
 |sliceNone=>exact .pure (.sliceNone _ _)
 |slice ha hcr=>have hlt:c<dM:=hc.resolve_left (by simp);exact(fG 0 ((ha.mono hl).add _) hn).bnd fun ρ2 _ _ hl2 _=> .pure (.slice (ha.mono (hl.trans hl2)) (.inl ⟨rfl,hlt⟩))
theorem Hs{elem:TypeId}{i:TypeInfo}{z:Value}(hi:P.info? elem=some i)(hz:i.zero=some z)(hzs:z.cells.size=i.size){base:Option Addr}{n c m:Nat}{s' x x':Value}(hs:aX ρ (.slice base n c) s')(hx:aX ρ x x'):∃base' c',s'=.slice base' n c'∧bj P aX ρ (Hr elem i base n c m x) (if n+m≤c' then oD i.size n m c' base' x' else q_ elem i.size n m c' (.slice base' n c') x'):=by
 have hs0:=hs;cases hs with
 |sliceNone=>
  refine⟨none,c,rfl,?_⟩;unfold Hr;dsimp only;by_cases h:n+m≤c;·rw[if_pos h,if_pos h];exact re _ _ _ _ hs0 (.inl rfl) hx
  ·rw[if_neg h,if_neg h];exact tM hi hz hzs n m c hs0 hx
 |@slice a a' _ _ c' ha hc=>
  refine⟨some a',c',rfl,?_⟩;unfold Hr;dsimp only;rcases hc with⟨rfl,hlt⟩|⟨g1,g2,g3⟩;·
   rw[if_pos hlt];by_cases h:n+m≤c;·rw[if_pos h,if_pos h];exact re _ _ _ _ hs0 (.inr hlt) hx
   ·rw[if_neg h,if_neg h];exact tM hi hz hzs n m c hs0 hx
  ·
   rw[if_neg (by omega)];by_cases hm:m=0;·
    subst hm;rw[if_pos rfl,if_pos (by omega)];refine bj.bind (dn i.size 0 hx) fun ρ1 new new' hl hn=>?_;by_cases h0:new.size=0;·
     rw[if_pos h0];have:new'.toList=[]:=by have:=hn.size;rw[h0]at this;exact List.length_eq_zero_iff.1 (by simpa using this.symm)
     show bj P aX ρ1 _ (storeCells _ new'.toList>>=fun _=>pure (.slice (some a') (n+0) c'));rw[this];exact .pure (.slice (ha.mono hl) (Em.mono hl (.inr ⟨g1,by omega,g3⟩)))
    ·rw[if_neg h0];exact .halt
   ·
    rw[if_neg hm];by_cases hcz:c=dM+i.size∧a.off=0;·
     rw[if_pos hcz];have:c-dM=i.size:=by omega
     rw[this]at g3;exact Ey hi hz hzs ha hcz.2 g2 g3 hx
    ·rw[if_neg hcz];exact .halt
theorem aX.lenQ{x x':Value}(hx:aX ρ x x'){m:Nat}(h:Eng.lenQ x=some m):Builtin.lenOf x'=pure m:=by cases hx<;>simp[Eng.lenQ]at h<;>subst h<;>rfl
def uO(P:Program)(ts:Array TypeId)(args:Array Value):Sem Value:=match ts,args with
 |⟨st::xt::_⟩,⟨[.slice base n c,x]⟩=>match P.underlying st,P.underlying xt with
  |some (.slice elem),some xd=>if Ez xd=true then no else match P.info? elem with
   |some i=>match i.zero,lenQ x with
    |some z,some m=>if z.cells.size=i.size∧n+m≤1099511627776∧(2*(n+m)+192)*i.bytes≤2^48 then Hr elem i base n c m x else no
    |_,_=>no
   |none=>no
  |_,_=>no
 |_,_=>no
theorem zb (ts : Array TypeId) (t : TypeId) {x x' : Array Value} (h : bg ρ x x') : bj P aX ρ (uO P ts x) (Builtin.append_ ts t x') := by
 unfold uO;split;·
  rename_i st xt tl base n c x1;obtain ⟨l'⟩ := x';unfold bg at h;cases h with
  | @cons _ s' _ _ hs ht =>
    cases ht with
    | @cons _ x1' _ _ hx hnil =>
     cases hnil;split;·
      rename_i elem xd hst hxt;by_cases hint : Ez xd = true;· rw [if_pos hint];exact .halt
      rw [if_neg hint];split;·
       rename_i i hi;split;·
        rename_i z m hz hm;by_cases hb : z.cells.size = i.size ∧ n + m ≤ 1099511627776 ∧ (2 * (n + m) + 192) * i.bytes ≤ 2 ^ 48;·
         rw [if_pos hb];obtain ⟨hzs, hb1, hb2⟩ := hb;obtain ⟨base', c', rfl, hsim⟩ := Hs (m := m) hi hz hzs hs hx;show bj P aX ρ _ (underlying st >>= _);refine eE hst ?_;show bj P aX ρ _ (sizeOf elem >>= _);refine JM hi ?_;show bj P aX ρ _ (underlying xt >>= _);refine eE hxt ?_;cases xd <;> first
         | exact absurd rfl hint
         | (
            show bj P aX ρ _ (Builtin.lenOf x1' >>= _);rw [hx.lenQ hm, pure_bind];by_cases hle : n + m ≤ c';· rw [if_pos hle] at hsim;show bj P aX ρ _ (if n + m ≤ c' then _ else _);rw [if_pos hle];exact hsim
            · rw [if_neg hle] at hsim;show bj P aX ρ _ (if n + m ≤ c' then _ else _);rw [if_neg hle];refine xh hi ?_;show bj P aX ρ _ (if _ ∧ _ then _ else _);rw [if_neg (by unfold IntKind.max IntKind.bits IntKind.signed;simp only;omega)];refine xh hi ?_;show bj P aX ρ _ (if Builtin.nextslicecap (n + m) c' * i.bytes > 2 ^ 48 then _ else _);rw [if_neg (by have h1 := y_ (m := n + m) (c := c') (by omega);have h2 := Nat.mul_le_mul_right i.bytes h1;omega)];exact hsim)
        · rw [if_neg hb];exact .halt
       · exact .halt
      · exact .halt
     · exact .halt
 · exact .halt
end Go.Proofs.Eng
end
section
set_option linter.unusedSimpArgs false
set_option linter.unusedVariables false
namespace Go.Proofs.Eng
variable{P:Program}{ρ:br}
def qs(P:Program)(s:TypeId)(i:Nat):Bool:=match P.underlying s with
 |some (.struct fs)=>match fs[i]? with
  |some f=>match P.info? f.type with
   |some d=>d.size !=0
   |none=>true
  |none=>true
 |_=>true
theorem uP(s:TypeId){v v':Value}(h:aX ρ v v')(i:Nat):bj P aX ρ (if qs P s i=true then Instr.fieldAt s v i else no) (Instr.fieldAt s v' i):=by
 by_cases hf:qs P s i=true;·rw[if_pos hf];refine wM s h i fun fs f d h1 h2 h3=>?_;unfold qs at hf;simp only[h1,h2,h3]at hf;simpa using hf
 ·rw[if_neg hf];exact .halt
def xk:Fn→Bool
 |.method _=>true
 |_=>false
def Ov(v:Value):Sem Next:=match v with
 |.pointer none|.nilIface|.nilFunc=>no
 |.func f x y=>if xk f=true then no else .pure (.value (.func f x y))
 |x=> .pure (.value x)
theorem bg.map{ev ev':Operand→Value}(h:∀x,aX ρ (ev x) (ev' x))(l:Array Operand):bg ρ (l.map ev) (l.map ev'):=by
 unfold bg;rw[Array.toList_map,Array.toList_map];induction l.toList with
 |nil=>exact .nil
 |cons x l ih=>exact .cons (h x) ih
theorem bg.cat{x x' y y':Array Value}(h:bD ρ x.toList x'.toList)(h2:bg ρ y y'):bg ρ (x++y) (x'++y'):=bg.append h h2
theorem pI{ev ev':Operand→Value}(h:∀x,aX ρ (ev x) (ev' x))(c:Call)(t:TypeId):bj P CH ρ (resolve ev c t) (resolve ev' c t):=by
 have ha:=bg.map h c.args;unfold resolve;cases c.callee with
 |builtin b=>exact .pure ⟨.builtin _ _ _ _,ha⟩
 |invoke recv name=>exact .pure ⟨.fn (.method name) .nil,bg.cat (.cons (h recv) .nil) ha⟩
 |value f=>
  dsimp only;have hf:=h f;generalize ev f=v at hf;generalize ev' f=v' at hf;cases hf<;>try exact .halt
  ·exact .pure ⟨.fn ‹_› ‹_›,bg.cat ‹bD ρ _ _› ha⟩
  ·exact .pure ⟨.nil,ha⟩
theorem cq.findR(q:Nat→Bool):∀{l l':List MapEntry},cq ρ l l'→(l.find? (fun e=>q e.born)=none∧l'.find? (fun e=>q e.born)=none)∨∃e e',l.find? (fun e=>q e.born)=some e∧l'.find? (fun e=>q e.born)=some e'∧yW ρ e e'
 |_,_,.nil=> .inl ⟨rfl,rfl⟩
 |_,_,.cons (k:=k) (k':=k') (v:=v) (v':=v') (n:=n) hk hv t=>by
   cases hq:q n with
   |true=>exact .inr ⟨⟨k,v,n⟩,⟨k',v',n⟩,by simp[List.find?_cons,hq],by simp[List.find?_cons,hq],⟨hk,hv,rfl⟩⟩
   |false=>simp only[List.find?_cons,hq];exact t.findR q
def zc(iter:Value):Sem Value:=match iter with
 |.pointer (some a)=>if a.off=0 then .getObj a.block fun o=>match o with
  |.mapIter (some m) _ seen stepped=>match seen.back? with
   |some stamp=> .getObj m fun om=>match om with
    |.map es clock=>if clock=stepped then(match es.find? (·.born==stamp)with
     |some e=> .pure (.tuple #[e.key,e.val])
     |none=>no)else no
    |_=>no
   |none=>no
  |_=>no else no
 |_=>no
theorem CX{x x':Value}(hx:aX ρ x x'):bj P aX ρ (zc x) (Instr.entry x'):=by
 cases hx<;>try exact .halt
 rename_i a a' ha;unfold zc;by_cases h0:a.off=0;·
  dsimp only;rw[if_pos h0];obtain⟨h1,p,hp,ha'⟩:=id ha;refine .look hp fun hs=>?_;have e:a'=⟨p.b,0,none⟩:=by rw[ha',hs,h0]
  rw[e];refine .getObj (r':=p.b) ⟨p,hp,rfl⟩ fun o o' q ho=>?_;cases ho<;>try exact .halt
  rename_i hs2 m m' hm since seen stepped;cases hbk:seen.back? with
  |none=>dsimp only;rw[hbk];exact .halt
  |some stamp=>
    dsimp only;rw[hbk];show bj P aX ρ _ (match seen.back? with|some stamp=>_|_=>_);rw[hbk];refine .getObj hm.at fun om om' q2 hom=>?_;cases hom<;>try exact .halt
    rename_i es es' clock hs3 hes;dsimp only;by_cases hc:clock=stepped;·
     rw[if_pos hc];show bj P aX ρ _ (if(clock !=stepped)=true then _ else _);rw[if_neg (by simp[hc])];have hf:=hes.findR (fun b=>b==stamp);rcases hf with⟨f1,f2⟩|⟨en,en',f1,f2,f3⟩;·
      have f1':es.find? (fun e=>e.born==stamp)=none:=by rw[←Array.find?_toList];exact f1
      rw[f1'];exact .halt
     ·
      have f1':es.find? (fun e=>e.born==stamp)=some en:=by rw[←Array.find?_toList];exact f1
      have f2':es'.find? (fun e=>e.born==stamp)=some en':=by rw[←Array.find?_toList];exact f2
      rw[f1'];show bj P aX ρ _ (match es'.find? (fun e=>e.born==stamp)with|some e=>_|none=>_);rw[f2'];exact .pure (.tuple (.cons f3.key (.cons f3.val .nil)))
    ·rw[if_neg hc];exact .halt
 ·dsimp only;rw[if_neg h0];exact .halt
theorem sO{a a':Addr}:∀(n:Nat){ρ:br}(acc:ByteArray),dE ρ a a'→bj P lX ρ (loadBytes a acc n) (loadBytes a' acc n):=by
 intro n;induction n generalizing a a' with
 |zero=>intro ρ acc _;exact .pure rfl
 |succ n ih=>
  intro ρ acc h;refine .load h fun v v' hv=>?_;cases hv<;>try exact .halt
  rename_i k b;cases k<;>try exact .halt
  exact ih _ (h.add 1)
theorem Ow{α β:Type}{R:br→α→β→Prop}{t e:TypeId}{s:Sem α}{f':TypeId→Sem β}(h:P.underlying t=some (.pointer e))(hk:bj P R ρ s (f' e)):bj P R ρ s (elemOf t>>=f'):=by unfold elemOf;rw[bind_assoc];exact eE h hk
def uQ(args:Array Value):Sem Next:=match args with
 |⟨[.slice (some a) n c]⟩=>if(c<dM∧c≠0)∨(dM≤c∧n≠0)then .pure (.value (.pointer (some a)))else no
 |_=>no
def zd(P:Program)(ts:Array TypeId)(args:Array Value):Sem Next:=match args with
 |⟨[.pointer (some a),.int _ n]⟩=>if 0<n∧n≤1099511627776 then match ts[0]? with
  |some pt=>match P.underlying pt with
   |some (.pointer e)=>(variablesAt a e n.toNat).bind fun y=>if y=true then(loadBytes a .empty n.toNat).bind fun s=> .freeze a n.toNat (.pure (.value (.string s)))else no
   |_=>no
  |none=>no else no
 |_=>no
def oE(P:Program)(b:Builtin)(ts:Array TypeId)(t:TypeId)(cs:Array Bool)(args:Array Value):Sem Next:=if fi args.toList=true then nv P b ts t cs args else if b.ctorIdx=20 then uQ args else if b.ctorIdx=21 then zd P ts args else nv P b ts t cs args
theorem ze{b:Builtin}(hb:b.ctorIdx=20)(ts:Array TypeId)(t:TypeId)(cs:Array Bool){x x':Array Value}(h:bg ρ x x'):bj P bM ρ (uQ x) (builtin b ts t cs x'):=by
 unfold uQ;split;·
  rename_i a n c;obtain⟨l'⟩:=x';unfold bg at h;cases h with
  |cons hv ht=>
    cases ht;cases hv with
    |@slice _ a' _ _ c' ha hc=>
     split;·
      rename_i hcond;have h0:c'≠0:=by
       rcases hc with⟨rfl,hlt⟩|⟨h1,h2,_⟩;·omega
       ·omega
      cases b<;>first
      |(simp[Builtin.ctorIdx]at hb;done)
      |(show bj P bM ρ _ (Sem.bind (if c'≠0 then pure (Value.pointer (some a'))else _) _);rw[if_pos h0];exact .pure (.value (.ptr ha)))
     ·exact .halt
 ·exact .halt
theorem CY {b : Builtin} (hb : b.ctorIdx = 21) (ts : Array TypeId) (t : TypeId) (cs : Array Bool) {x x' : Array Value} (h : bg ρ x x') : bj P bM ρ (zd P ts x) (builtin b ts t cs x') := by
 unfold zd;split;·
  rename_i a k n;obtain ⟨l'⟩ := x';unfold bg at h;cases h with
  | cons hv ht =>
    cases ht with
    | cons hv2 ht2 =>
      cases ht2;cases hv2;cases hv with
      | @ptr _ a' ha =>
        split;·
         rename_i hcond;split;·
          rename_i pt hpt;split;·
           rename_i e he;have hm : ¬ n > IntKind.i64.max := by unfold IntKind.max IntKind.bits IntKind.signed;simp only;omega
           cases b <;> first
           | (simp [Builtin.ctorIdx] at hb;done)
           | (
              show bj P bM ρ _ ((asInt (.int k n) >>= fun n => match ts[0]? with | some pt => _ | _ => _) >>= _);rw [hpt];show bj P bM ρ _ (Sem.bind (if n < 0 then _ else _) _);rw [if_neg (by omega)];show bj P bM ρ _ (Sem.bind (if n > IntKind.i64.max then _ else _) _);rw [if_neg hm];show bj P bM ρ _ (Sem.bind (if n = 0 then _ else _) _);rw [if_neg (by omega)];show bj P bM ρ _ ((elemOf pt >>= _) >>= _);rw [bind_assoc];refine Ow he ?_;show bj P bM ρ _ ((variablesAt a' e n.toNat >>= _) >>= _);rw [bind_assoc];refine bj.bind (ke ha e n.toNat) fun ρ1 y y' hl hy => ?_;by_cases hyt : y = true;· rw [if_pos hyt];show bj P bM ρ1 _ ((if y' = true then _ else _) >>= _);rw [if_pos (hy hyt)];show bj P bM ρ1 _ ((loadBytes a' .empty n.toNat >>= _) >>= _);rw [bind_assoc];refine bj.bind (sO n.toNat .empty (ha.mono hl)) fun ρ2 s s' hl2 hs => ?_;cases hs;exact .freeze (ha.mono (hl.trans hl2)) (.pure (.value (.string _)))
              · rw [if_neg hyt];exact .halt)
          · exact .halt
         · exact .halt
        · exact .halt
 · exact .halt
theorem uR(b:Builtin)(ts:Array TypeId)(t:TypeId)(cs:Array Bool){x x':Array Value}(h:bg ρ x x'):bj P bM ρ (oE P b ts t cs x) (builtin b ts t cs x'):=by
 unfold oE;split;·exact pE b ts t cs h
 ·
  split;·exact ze ‹_› ts t cs h
  ·
   split;·exact CY ‹_› ts t cs h
   ·exact pE b ts t cs h
def Be(P:Program)(C:ie)(tg:Target)(args:Array Value):Sem Next:=match tg with
 |.fn fn cap=>uJ P C fn args cap
 |.builtin b ts t cs=>if(b==.append)=true then(uO P ts args).bind fun v=> .pure (.value v)else oE P b ts t cs args
 |_=>no
theorem xl{C:ie}(hC:qQ P C){tg tg':Target}(h:nl ρ tg tg'){x x':Array Value}(ha:bg ρ x x'):bj P bM ρ (Be P C tg x) (invoke tg' x'):=by
 cases h with
 |fn hf hx=>exact qS hC hf ha hx
 |nil=>exact .halt
 |builtin b ts t cs=>
  show bj P bM ρ (if(b==.append)=true then _ else _) (builtin b ts t cs x');by_cases hb:(b==.append)=true;·rw[if_pos hb];rw[beq_iff_eq]at hb;subst hb;exact(zb ts t ha).bind fun _ _ _ _ hv=> .pure (.value hv)
  ·rw[if_neg hb];exact uR b ts t cs ha
 |collected h=>exact .halt
def JQ(P:Program)(C:ie)(ev:Operand→Value)(c:Call)(t:TypeId):Sem Next:=(resolve ev c t).bind fun d=>Be P C d.target d.args
theorem EA {C : ie} (hC : qQ P C) {ev ev' : Operand → Value} (h : ∀ x, aX ρ (ev x) (ev' x)) (c : Call) (t : TypeId) :
    bj P bM ρ (JQ P C ev c t) (do let d ← resolve ev' c t; invoke d.target d.args) :=
  (pI h c t).bind fun ρ1 d d' hl hd => xl hC hd.tg hd.args
def JR:Target→Bool
 |.fn _ _=>true
 |_=>false
def EB(ev:Operand→Value)(c:Call)(t:TypeId):Sem Next:=(resolve ev c t).bind fun d=>if JR d.target=true then .pure (.defer d)else no
theorem CZ{ev ev':Operand→Value}(h:∀x,aX ρ (ev x) (ev' x))(c:Call)(t:TypeId):bj P bM ρ (EB ev c t) (do pure (.defer (←resolve ev' c t))):=(pI h c t).bind fun ρ1 d d' hl hd=>by
 by_cases hk:JR d.target=true;·rw[if_pos hk];exact .pure (.defer hd)
 ·rw[if_neg hk];exact .halt
def gV(s:Sem Value):Sem Next:=s.bind fun v=> .pure (.value v)
def Bf(s:Sem Unit):Sem Next:=s.bind fun _=> .pure .skip
theorem cy{s s':Sem Value}(h:bj P aX ρ s s'):bj P bM ρ (gV s) (do pure (.value (←s'))):=h.bind fun _ _ _ _ hv=> .pure (.value hv)
theorem lH {s s' : Sem Unit} (h : bj P lX ρ s s') : bj P bM ρ (Bf s) (do s'; pure .skip) := h.bind fun _ _ _ _ _ => .pure .skip
def jq(s:ByteArray):Array Value:=s.data.map fun b=> .int .u8 b.toNat
def oF(elem:TypeId)(s:ByteArray):Sem Value:=.new (.cells (jq s) elem (dM,0)) fun r=> .pure (.slice (some ⟨r,0,none⟩) s.size (dM+1))
theorem uS(elem:TypeId)(s:ByteArray):bj P aX ρ (oF elem s) (Conv.stringToBytes elem s):=by
 refine .jump fun A A' v w e H=>?_;unfold oF at e;simp only[bO]at e;split at e;case isFalse=>cases e
 rename_i hn;cases e;have hsz:(jq s).size=s.size:=by simp[jq]
 have hfo:(Question.appendCap s.size 0 elem).forced=false:=rfl;have hk:s.size≤Question.cut (.appendCap s.size 0 elem) (w.tape w.drawn (.appendCap s.size 0 elem)):=Nat.le_add_right _ _;generalize hcap:Question.cut (.appendCap s.size 0 elem) (w.tape w.drawn (.appendCap s.size 0 elem))=cap at hk;let cc:Array Value:=jq s++Array.replicate (cap-s.size) (.int .u8 0);have hcc:cc.size=cap:=by simp only[cc,Array.size_append,Array.size_replicate,hsz];omega
 let w1:World:={w with drawn:=w.drawn+1,heap:=w.heap.push (.cells cc elem)};have hb1:w1.heap[w.heap.size]?=some (.cells cc elem (0,0)):=by simp[w1]
 have hrun:(Conv.stringToBytes elem s).run P w=.ok (.slice (some ⟨w.heap.size,0,none⟩) s.size cap) (w1.freeze {block:=w.heap.size,off:=cc.size} 1):=by
  show Sem.run P (.choose (.appendCap s.size 0 elem) _) w=_;simp only[Sem.run,hfo,Bool.false_eq_true,if_false,hcap];show Sem.run P (.new (.cells cc elem) _) _=_;simp only[Sem.run];show Sem.run P (.shape w.heap.size _) w1=_;have hsh:w1.shape? w.heap.size=some (elem,cc.size):=by simp[World.shape?,hb1]
  simp only[Sem.run,hsh];rfl
 have hfz:(w1.freeze {block:=w.heap.size,off:=cc.size} 1).heap[w.heap.size]?=some (.cells cc elem (cc.size,cc.size+1)):=by simp[World.freeze,Array.getElem?_modify,hb1]
 have hoth:∀c,c≠w.heap.size→(w1.freeze {block:=w.heap.size,off:=cc.size} 1).heap[c]?=w.heap[c]?:=fun c hc=>by
  have:w1.heap[c]?=w.heap[c]?:=by simp[w1,Array.getElem?_push,hc]
  simp[World.freeze,Array.getElem?_modify,Ne.symm hc,this]
 have hhs:(w1.freeze {block:=w.heap.size,off:=cc.size} 1).heap.size=w.heap.size+1:=by simp[World.freeze,w1]
 have hle:ρ.le (ρ.set A.nid ⟨w.heap.size,0,cc.size,0⟩):=br.set_le (H.none _ (Nat.le_refl _) hn);obtain⟨H1,S1⟩:=H.push (w':=w1.freeze {block:=w.heap.size,off:=cc.size} 1) (o:=.cells (jq s) elem (dM,0)) (p:=⟨w.heap.size,0,cc.size,0⟩) hn (Nat.le_refl _) ⟨hoth,rfl,rfl,rfl⟩ (by rw[hhs];omega) hfz (by
  refine .cells rfl (by show 0+_≤_;omega) rfl (fun i u hu=>?_) ⟨Nat.le_succ _,fun j h1 h2 h3=>absurd h3 (by have h1':cc.size≤j:=h1;omega),fun h=>absurd rfl h⟩;refine⟨u,?_,?_⟩;·show cc[0+i]?=_;rw[Nat.zero_add,Array.getElem?_append_left (Array.getElem?_eq_some_iff.1 hu).1];exact hu
  ·unfold jq at hu;rw[Array.getElem?_map]at hu;cases hb:s.data[i]? with
    |none=>rw[hb]at hu;cases hu
    |some b=>rw[hb]at hu;cases hu;exact .int _ _);refine⟨_,_,_,hrun,.slice ⟨rfl,_,br.set_self _ _ _,rfl⟩ (.inr ⟨Nat.le_add_right _ _,hk,_,br.set_self _ _ _,?_⟩),H1,S1⟩;show 0+cap*(dM+1-dM)≤cc.size;rw[Nat.add_sub_cancel_left,hcc];omega
def Nc:Option TypeDesc→Bool
 |some (.int .u8)=>true
 |_=>false
def zf(P:Program)(s d:TypeId)(x:Value):Sem Value:=match x with
 |.string b=>match P.underlying d with
  |some (.slice e)=>if(Nc (P.underlying e)&&(P.underlying s).isSome)=true then oF e b else no
  |_=>Bb P s d (.string b)
 |x=>Bb P s d x
theorem C3(s d:TypeId){x x':Value}(hx:aX ρ x x'):bj P aX ρ (zf P s d x) (convert s d x'):=by
 unfold zf;split;·
  rename_i b;have hx':=hx.plain rfl;subst hx';split;·
   rename_i e hd;by_cases hc:(Nc (P.underlying e)&&(P.underlying s).isSome)=true;·
    rw[if_pos hc];rw[Bool.and_eq_true]at hc;cases hs:P.underlying s with
    |none=>rw[hs]at hc;simp at hc
    |some ds=>
     have he:P.underlying e=some (.int .u8):=by
      have:=hc.1;unfold Nc at this;split at this;·assumption
      ·cases this
     refine eE hs (eE hd ?_);cases ds<;>exact eE he (uS e b)
   ·rw[if_neg hc];exact .halt
  ·exact wZ s d hx
 ·exact wZ s d hx
def Ht(P:Program)(C:ie)(ev:Operand→Value)(o:Oper):Sem Next:=match o.op with
 |.move x|.assign x=> .pure (.value (ev x))
 |.pick c a b=>match ev c with
  |.bool t=> .pure (.value (if t=true then ev a else ev b))
  |_=>no
 |.alloc elem=>if G9 P elem=true then gV (Instr.alloc elem true (.tuple #[]))else no
 |.box elem x=>gV (Instr.box elem (ev x))
 |.build t parts=>if G9 P t=true then gV (Instr.build t (parts.map fun(i,x)=>(i,ev x)))else no
 |.buildSlice t len parts=>if len<dM then(if uG P t=true then gV (Instr.buildSlice t len (parts.map fun(i,x)=>(i,ev x)))else no)else no
 |.load t a=>gV (Instr.loadAt t (ev a))
 |.store t a x=>Bf (Instr.storeAt t (ev a) (ev x))
 |.nilCheck x=>Ov (ev x)
 |.binOp op t x y _=>gV (M_ P op t x y (ev x) (ev y))
 |.unOp op _ x=>gV (if bP (ev x)=true then qT P (Op.unary op (ev x))else no)
 |.convert s d x=>gV (zf P s d (ev x))
 |.makeInterface t x=>gV (Instr.makeInterface t (ev x))
 |.makeFunc fn first captured=>match fn with
  |.func f=> .pure (.value (.func (.func f) (first.map ev) (captured.map ev)))
  |_=>no
 |.makeMap t r=>gV (Instr.makeMap t (r.map ev))
 |.makeSlice t l c=>if uG P t=true then gV (mH t (ev l) (ev c))else no
 |.slice t x lo hi mx=>gV (yY P t (ev x) (lo.map ev) (hi.map ev) (mx.map ev))
 |.fieldAddr s x f=>gV (if qs P s f=true then Instr.fieldAt s (ev x) f else no)
 |.field t x f=>gV (Instr.field t (ev x) f)
 |.indexAddr t x ix=>gV (Instr.indexAt t (ev x) (ev ix))
 |.index t x ix=>gV (Instr.index t (ev x) (ev ix))
 |.lookup t x ix ok=>gV (uK P t (ev x) (ev ix) ok)
 |.mapUpdate t m k x|.insert t m k x=>Bf (uL P t (ev m) (ev k) (ev x))
 |.mapEntry t m k=>gV (yX P t (ev m) (ev k))
 |.entryStore _ m s x=>Bf (pH (ev m) (ev s) (ev x))
 |.range t x=>gV (Instr.range t (ev x))
 |.next it isString=>gV (Ev (ev it) isString)
 |.entry it=>gV (zc (ev it))
 |.typeAssert x xt t ok=>if G9 P t=true then gV (Instr.typeAssert (ev x) xt t ok)else no
 |.extract t ix=>gV (Instr.extract (ev t) ix)
 |.call c=>JQ P C ev c o.type
 |.defer c=>EB ev c o.type
 |_=>no
structure oG(P:Program)(C:ie):Prop where
 cfg:qQ P C
theorem uT{C:ie}(hP:oG P C){ev ev':Operand→Value}(h:∀x,aX ρ (ev x) (ev' x))(o:Oper):bj P bM ρ (Ht P C ev o) (execOp ev' o):=by
 have gd:∀{b:Bool}{s:Sem Next}{s':Sem Next},(b=true→bj P bM ρ s s')→bj P bM ρ (if b=true then s else no) s':=fun{b}{s}{s'}hs=>by
  by_cases hb:b=true;·rw[if_pos hb];exact hs hb
  ·rw[if_neg hb];exact .halt
 obtain⟨dst,op,type,pos,after,guard⟩:=o;unfold Ht execOp;cases op<;>dsimp only<;>try exact .halt
 case move x=>exact .pure (.value (h x))
 case assign x=>exact .pure (.value (h x))
 case pick c a b=>
  have hc:=h c;cases hv:ev c<;>rw[hv]at hc<;>try exact .halt
  rename_i t;have hc':ev' c=.bool t:=hc.plain rfl;rw[hc'];show bj P bM ρ _ (.pure (.value (if t=true then ev' a else ev' b)));refine .pure (.value ?_);split;·exact h a
  ·exact h b
 case alloc elem=>exact gd fun hz=>cy (CM elem (tD hz))
 case box elem x=>exact cy (Hk elem (h x))
 case build t parts=>
  exact gd fun hz=>cy (CN t (tD hz) (by rw[Array.toList_map,Array.toList_map];exact iA.of_map h _))
 case buildSlice t n parts=>
  by_cases hn:n<dM;·
   rw[if_pos hn];exact gd fun hz=>cy (qN t (A_ hz) n hn (by rw[Array.toList_map,Array.toList_map];exact iA.of_map h _))
  ·rw[if_neg hn];exact .halt
 case load t a=>exact cy (yQ t (h a))
 case store t a x=>exact lH (wQ t (h a) (h x))
 case nilCheck x=>
  have hx:=h x;generalize ev x=v at hx;generalize ev' x=v' at hx;cases hx<;>first
  |exact .halt
  |exact .pure (.value (.bool _))
  |exact .pure (.value (.int _ _))
  |exact .pure (.value (.float _ _))
  |exact .pure (.value (.complex _ _ _))
  |exact .pure (.value (.string _))
  |exact .pure (.value (.ptr ‹_›))
  |exact .pure (.value (.sliceNone _ _))
  |exact .pure (.value (.slice ‹_› ‹_›))
  |exact .pure (.value .mapNone)
  |exact .pure (.value (.map ‹_›))
  |exact .pure (.value .chanNone)
  |exact .pure (.value (.iface _ ‹_›))
  |exact .pure (.value (.agg ‹_›))
  |exact .pure (.value (.tuple ‹_›))
  |skip
  rename_i f f' x x' y y' hf hx hy;unfold Ov;dsimp only;by_cases hm:xk f=true;·rw[if_pos hm];exact .halt
  ·rw[if_neg hm];cases hf<;>first
  |exact absurd rfl hm
  |exact .pure (.value (.func (.func _) hx hy))
  |exact .pure (.value (.func (.methodOf _ _) hx hy))
  |exact .pure (.value (.func (.via _ _ _ _) hx hy))
  |exact .pure (.value (.func (.yield ‹_›) hx hy))
 case binOp op t x y _=>exact cy (Hn op t x y (h x) (h y))
 case unOp op t x=>
  refine cy ?_;by_cases hp:bP (ev x)=true;·rw[if_pos hp,(h x).plain hp];exact mD rfl
  ·rw[if_neg hp];exact .halt
 case convert s d x=>exact cy (C3 s d (h x))
 case makeInterface t x=>exact cy (nr t (h x))
 case makeFunc fn first captured=>
  cases fn<;>try exact .halt
  exact .pure (.value (.func (.func _) (bg.map h first) (bg.map h captured)))
 case makeMap t r=>exact cy (xf t (dG.of_map h r))
 case makeSlice t l c=>exact gd fun hz=>cy (sN t (A_ hz) (h l) (h c))
 case slice t x lo hi mx=>exact cy (yZ t (h x) (dG.of_map h lo) (dG.of_map h hi) (dG.of_map h mx))
 case fieldAddr s x f=>exact cy (uP s (h x) f)
 case field t x f=>exact cy (CK t (h x) f)
 case indexAddr t x ix=>exact cy (wO t (h x) (h ix))
 case index t x ix=>exact cy (CL t (h x) (h ix))
 case lookup t x ix ok=>exact cy (yV t (h x) (h ix) ok)
 case mapUpdate t m k x=>exact lH (qW t (h m) (h k) (h x))
 case insert t m k x=>exact lH (qW t (h m) (h k) (h x))
 case mapEntry t m k=>exact cy (CU t (h m) (h k))
 case entryStore t m s x=>exact lH (qX t (h m) (h s) (h x))
 case range t x=>exact cy (CV t (h x))
 case next it b=>exact cy (Ew _ (h it) b)
 case entry it=>exact cy (CX (h it))
 case typeAssert x xt t ok=>exact gd fun hz=>cy (qL (h x) xt t (tD hz) ok)
 case extract t ix=>exact cy (wP (h t) ix)
 case call c=>exact EA hP.cfg h c type
 case defer c=>exact CZ h c type
end Go.Proofs.Eng
end
