/- Formulas, plain: the written form of a tree, as pieces; its words are parsed as that tree. -/
import Derived.Test.YthbdlnflmfchjaaGreatDoorFM1
namespace Go.Proofs.Fm
def kG(n:Nat):List UInt8:=if n<10 then[UInt8.ofNat (48+n)]else kG (n / 10)++[UInt8.ofNat (48+n%10)]termination_by n decreasing_by omega
inductive Pc where|blank|word(k:Kd)(x:BA)
def lt(x:BA):Pc:=.word .letters x
def sg(x:BA):Pc:=.word .sign x
def bV:Tm→Nat
 |.mk k _ _ _=>k
def ov(b k:Nat):Bool:=k=14||(k=13&&b≠1)
def kH(x:BA):Kd:=if x=qp then .letters else .sign
def dB(k:Nat)(x:BA):List Pc:=if k=6∨k=11 then[sg ou,.blank]else if k=7 then[.blank,sg mi,.blank]else if k=8 then[.blank,sg qF,.blank]else if k=9 then[.blank,sg we,.blank]else if k=10 then[.blank,.word (kH x) x,.blank]else if k=12 then[]else if k=13 then[.blank,lt v_,.blank]else if k=14 then[.blank,lt JI,.blank]else[sg fB,.blank]
def dv(k:Nat)(x:BA)(n:Nat):List Pc:=if k=1 then[.word .number ⟨(kG n).toArray⟩]else if k=2 then[.word .string x]else if k=3 then[lt x]else if k=4 then[lt dU]else if k=5 then[lt dV]else if k=6∨k=11 then[lt x,sg dS]else if k=12 then[lt sNot,.blank]else if k=15 then[lt sAll,.blank,lt x,.blank,lt qp,.blank]else if k=7∨k=8∨k=9∨k=10∨k=13∨k=14 then[]else[lt i_,.blank,lt x,.blank,lt qp,.blank]
def jc(k:Nat):List Pc:=if k=6∨k=11 then[sg fS]else[]
mutual
def dW:Tm→List Pc
 |.mk k x n subs=>dv k x n++(dz (if k=14 then 1 else 2) (dB k x) subs++jc k)
def dz(b:Nat)(sep:List Pc):List Tm→List Pc
 |[]=>[]
 |t::ts=>(if ov b (bV t)then sg dS::(dW t++[sg fS])else dW t)++fE b sep ts
def fE(b:Nat)(sep:List Pc):List Tm→List Pc
 |[]=>[]
 |t::ts=>sep++((if ov b (bV t)then sg dS::(dW t++[sg fS])else dW t)++fE b sep ts)
end
def c_(b:Nat)(t:Tm):List Pc:=if ov b (bV t)then sg dS::(dW t++[sg fS])else dW t
theorem iq(k:Nat)(x:BA)(n:Nat)(subs:List Tm):dW (.mk k x n subs)=dv k x n++(dz (if k=14 then 1 else 2) (dB k x) subs++jc k):=by rw[dW]
theorem wh(b:Nat)(sep:List Pc):dz b sep []=[]:=by rw[dz]
theorem ek(b:Nat)(sep:List Pc)(t:Tm)(ts:List Tm):dz b sep (t::ts)=c_ b t++fE b sep ts:=by rw[dz,c_]
theorem ft(b:Nat)(sep:List Pc):fE b sep []=[]:=by rw[fE]
theorem eS(b:Nat)(sep:List Pc)(t:Tm)(ts:List Tm):fE b sep (t::ts)=sep++(c_ b t++fE b sep ts):=by rw[fE,c_]
mutual
inductive ow(K:dL)(dT:Nat→Prop)(okT:BA→Prop)(okV:Kd→BA→Prop):Tm→Prop|num(n:Nat):dT n→ow K dT okT okV (.mk 1 ByteArray.empty n [])|text(x:BA):okT x→ow K dT okT okV (.mk 2 x 0 [])|name(x:BA):K.kept x=false→okV .letters x→ow K dT okT okV (.mk 3 x 0 [])|src:ow K dT okT okV (.mk 4 ByteArray.empty 0 [])|tgt:ow K dT okT okV (.mk 5 ByteArray.empty 0 [])|call(x:BA)(t:Tm)(ts:List Tm):K.func x=true→okV .letters x→x≠dU→x≠dV→kx K dT okT okV t→(∀a,a∈ts→kx K dT okT okV a)→ow K dT okT okV (.mk 6 x 0 (t::ts))
inductive qH(K:dL)(dT:Nat→Prop)(okT:BA→Prop)(okV:Kd→BA→Prop):Tm→Prop|atom(t:Tm):ow K dT okT okV t→qH K dT okT okV t|mul(p a:Tm):qH K dT okT okV p→ow K dT okT okV a→qH K dT okT okV (.mk 9 ByteArray.empty 0 [p,a])
inductive kx(K:dL)(dT:Nat→Prop)(okT:BA→Prop)(okV:Kd→BA→Prop):Tm→Prop|prod(t:Tm):qH K dT okT okV t→kx K dT okT okV t|add(t p:Tm):kx K dT okT okV t→qH K dT okT okV p→kx K dT okT okV (.mk 7 ByteArray.empty 0 [t,p])|sub(t p:Tm):kx K dT okT okV t→qH K dT okT okV p→kx K dT okT okV (.mk 8 ByteArray.empty 0 [t,p])
end
inductive kI(K:dL)(dT:Nat→Prop)(okT:BA→Prop)(okV:Kd→BA→Prop):Tm→Prop|cmp(x:BA)(a b:Tm):K.oper x=true→okV (kH x) x→kx K dT okT okV a→kx K dT okT okV b→kI K dT okT okV (.mk 10 x 0 [a,b])|test(x:BA)(t:Tm)(ts:List Tm):K.test x=true→okV .letters x→kx K dT okT okV t→(∀a,a∈ts→kx K dT okT okV a)→kI K dT okT okV (.mk 11 x 0 (t::ts))|not(t:Tm):kI K dT okT okV t→kI K dT okT okV (.mk 12 ByteArray.empty 0 [t])|and(t u:Tm)(ts:List Tm):kI K dT okT okV t→kI K dT okT okV u→(∀a,a∈ts→kI K dT okT okV a)→kI K dT okT okV (.mk 13 ByteArray.empty 0 (t::u::ts))|or(t u:Tm)(ts:List Tm):kI K dT okT okV t→kI K dT okT okV u→(∀a,a∈ts→kI K dT okT okV a)→kI K dT okT okV (.mk 14 ByteArray.empty 0 (t::u::ts))|each(k:Nat)(x:BA)(a b:Tm):k=15∨k=16→K.kept x=false→okV .letters x→kx K dT okT okV a→kI K dT okT okV b→kI K dT okT okV (.mk k x 0 [a,b])
section
variable{K:dL}{dT:Nat→Prop}{okT:BA→Prop}{okV:Kd→BA→Prop}{l:List Wd}{e:Nat}
end
section
variable{K:dL}{dT:Nat→Prop}{okT:BA→Prop}{okV:Kd→BA→Prop}{l:List Wd}{e:Nat}
theorem cW{b:Nat}{t:Tm}(h:bV t≠13∧bV t≠14):c_ b t=dW t:=by unfold c_ ov;rw[aA h.2,aA h.1];simp
theorem gh{k:Nat}{x:BA}{n:Nat}{subs:List Tm}(h:k≠13∧k≠14):bV (.mk k x n subs)≠13∧bV (.mk k x n subs)≠14:=h
theorem AV{t:Tm}(h:ow K dT okT okV t):bV t≠13∧bV t≠14:=by cases h<;>exact gh (by decide)
theorem qq{t:Tm}(h:qH K dT okT okV t):bV t≠13∧bV t≠14:=by
 cases h with
 |atom _ h=>exact AV h
 |mul=>exact gh (by decide)
theorem iP{t:Tm}(h:kx K dT okT okV t):bV t≠13∧bV t≠14:=by
 cases h with
 |prod _ h=>exact qq h
 |add=>exact gh (by decide)
 |sub=>exact gh (by decide)
end
section
variable{K:dL}{dT:Nat→Prop}{okT:BA→Prop}{okV:Kd→BA→Prop}{l:List Wd}{e:Nat}
def jG(k:Nat)(acc:List Tm):Tm:=if acc.length=1 then acc.headD default else .mk k ByteArray.empty 0 acc
theorem yK(rec:Gl→Nat→Option Re)(acc:List Tm)(n:Nat):step K l e rec (.more false acc) n=if isW l n v_ then andThen (rec .unit (n+1)) (fun ts n1=>rec (.more false (acc++ts)) n1)else some (.ok [jG 13 acc] n):=rfl
theorem yL(rec:Gl→Nat→Option Re)(acc:List Tm)(n:Nat):step K l e rec (.more true acc) n=if isW l n JI then andThen (rec (.several false) (n+1)) (fun ts n1=>rec (.more true (acc++ts)) n1)else some (.ok [jG 14 acc] n):=rfl
end
def an(x:BA):List UInt8:=x.data.toList
def ofBytes(l:List UInt8):BA:=⟨l.toArray⟩
@[simp]theorem de(l:List UInt8):an (ofBytes l)=l:=rfl
@[simp]theorem wi(x:BA):ofBytes (an x)=x:=rfl
theorem bd(x:BA):(an x).length=x.size:=by unfold an;rw[Array.length_toList];rfl
theorem oy(s:BA)(i:Nat)(h:i<s.size):(an s)[i]?=some s[i]:=by unfold an;rw[Array.getElem?_toList,Array.getElem?_eq_getElem (by exact h)];rfl
theorem uF(s:BA)(i:Nat):bc s i=((an s)[i]?.map UInt8.toNat).getD 0:=by
 by_cases h:i<s.size;·rw[bm h,oy s i h];rfl
 ·unfold bc;rw[dif_neg h,aU (by rw[bd];omega)];rfl
theorem M7{s:BA}{pre post:List UInt8}{c:UInt8}(h:an s=pre++c::post):∃hl:pre.length<s.size,s[pre.length]=c:=by
 have hl:pre.length<s.size:=by rw[←bd,h];simp
 refine⟨hl,?_⟩;have h1:=oy s pre.length hl;rw[h,List.getElem?_append_right (ai _),Nat.sub_self]at h1;injection h1 with h1;exact h1.symm
theorem nh{s:BA}{pre post:List UInt8}{c:UInt8}(h:an s=pre++c::post):bc s pre.length=c.toNat∧pre.length<s.size:=by obtain⟨h1,h2⟩:=M7 h;exact⟨by rw[bm h1,h2],h1⟩
theorem kJ{s:BA}{pre mid post:List UInt8}(h:an s=pre++(mid++post)):s.extract pre.length (pre.length+mid.length)=ofBytes mid:=by apply ByteArray.ext;rw[ByteArray.data_extract];apply Array.toList_inj.1;rw[Array.toList_extract,List.extract_eq_take_drop];show List.take _ (List.drop _ (an s))=mid;rw[h,List.drop_left,Nat.add_sub_cancel_left,List.take_left]
def PR(lo hi:Nat)(post:List UInt8):Prop:=match post with
 |[]=>True
 |c::_=>¬(lo≤c.toNat∧c.toNat≤hi)
def ez:List UInt8→List UInt8
 |[]=>[]
 |c::r=>if c=34∨c=92 then 92::c::ez r else c::ez r
theorem mB{n:Nat}(h:n<10):kG n=[UInt8.ofNat (48+n)]:=by rw[kG,if_pos h]
theorem wj{n:Nat}(h:¬n<10):kG n=kG (n / 10)++[UInt8.ofNat (48+n%10)]:=by rw[kG,if_neg h]
theorem CE{d:Nat}(h:d<10):(UInt8.ofNat (48+d)).toNat=48+d:=by rw[UInt8.toNat_ofNat'];omega
def jH(v:Nat)(l:List UInt8):Nat:=l.foldl (fun v c=>10*v+(c.toNat-48)) v
theorem ni(v:Nat):jH v []=v:=by unfold jH;rw[List.foldl_nil]
theorem lC(v:Nat)(c:UInt8)(r:List UInt8):jH v (c::r)=jH (10*v+(c.toNat-48)) r:=by unfold jH;rw[List.foldl_cons]
theorem po(a b:List UInt8)(v:Nat):jH v (a++b)=jH (jH v a) b:=by unfold jH;rw[List.foldl_append]
theorem wu(v d:Nat)(h:d<10):jH v [UInt8.ofNat (48+d)]=10*v+d:=by rw[lC,ni,CE h,Nat.add_sub_cancel_left]
theorem CF(n:Nat):jH 0 (kG n)=n:=by
 induction n using Nat.strongRecOn with
 |_ n ih=>
  by_cases h:n<10;·rw[mB h,wu 0 n h,Nat.mul_zero,Nat.zero_add]
  ·have h2:=ih (n / 10) (by omega);rw[wj h,po,h2,wu _ _ (Nat.mod_lt _ (by decide))];exact Nat.div_add_mod n 10
theorem kK{s:BA}{post:List UInt8}:∀(mid pre:List UInt8)(v:Nat),an s=pre++(mid++post)→bh s pre.length (pre.length+mid.length) v=jH v mid
 |[],pre,v,h=>by rw[bh,dif_neg (by simp),ni]
 |c::mid,pre,v,h=>by
  have hb:=nh (s:=s) (pre:=pre) (c:=c) (post:=mid++post) (by simpa using h);have ih:=kK (s:=s) (post:=post) mid (pre++[c]) (10*v+(c.toNat-48)) (by simpa using h);have e2:(pre++[c]).length=pre.length+1:=by simp
  rw[e2]at ih;rw[bh,dif_pos (by simp),hb.1,lC,←ih,List.length_cons,show pre.length+(mid.length+1)=pre.length+1+mid.length by omega]
theorem nj(n:Nat):bh (ofBytes (kG n)) 0 (ByteArray.size (ofBytes (kG n))) 0=n:=by
 have h:=kK (s:=ofBytes (kG n)) (post:=[]) (kG n) [] 0 (by simp);rw[List.length_nil,Nat.zero_add,CF]at h;have e:ByteArray.size (ofBytes (kG n))=(kG n).length:=by rw[←bd,de]
 rw[e];exact h
def ir(k:Kd)(x:BA):List UInt8:=if k=.string then 34::(ez (an x)++[34])else an x
def yM:Pc→List UInt8
 |.blank=>[32]
 |.word k x=>ir k x
def dX:List Pc→List UInt8
 |[]=>[]
 |p::r=>yM p++dX r
theorem kL:∀(a b:List Pc),dX (a++b)=dX a++dX b
 |[],_=>rfl
 |p::a,b=>by rw[List.cons_append,dX,dX,kL a b,List.append_assoc]
def form(t:Tm):BA:=ofBytes (dX (dW t))
def AX(c:UInt8):Prop:=c=60∨c=62∨c=126∨c=43∨c=45∨c=42∨c=40∨c=41∨c=44∨c=58
def AY(c:UInt8):Prop:=c=61∨c=33∨c=60∨c=62
structure Lex where
 ok:BA→Bool
 kept:BA→Bool
def j_(X:Lex):Kd→BA→Prop
 |.letters,x=>x.size≠0∧(∀c∈an x,97≤c.toNat∧c.toNat≤122)∧(12<x.size→X.kept x=true)
 |.number,x=>∃n,n≤1000000∧x=ofBytes (kG n)
 |.string,x=>X.ok x=true
 |.sign,x=>(∃c,AX c∧x=ofBytes [c])∨∃c,AY c∧x=ofBytes [c,61]
section
variable{X:Lex}{s:BA}
end
section
variable{K:dL}{X:Lex}{dT:Nat→Prop}{okT:BA→Prop}{okV:Kd→BA→Prop}
theorem AZ(k:Nat)(x:BA)(a b:Tm)(hk:dv k x 0=[])(ht:jc k=[])(h1:c_ (if k=14 then 1 else 2) a=dW a)(h2:c_ (if k=14 then 1 else 2) b=dW b):dW (.mk k x 0 [a,b])=dW a++(dB k x++dW b):=by rw[iq,hk,ht,ek,eS,ft,h1,h2];simp
end
section
variable{K:dL}{X:Lex}{l:List Wd}{e:Nat}
def bW(l:List Wd)(n:Nat):Nat:=((l.take n).map fun w=>(ir w.kind w.text).length+1).sum
theorem jI{n:Nat}{w:Wd}(h:l[n]?=some w):bW l (n+1)=bW l n+((ir w.kind w.text).length+1):=by unfold bW;obtain⟨hl,rfl⟩:=aQ.1 h;rw[List.take_succ_eq_append_getElem hl,List.map_append,List.sum_append_nat];simp
abbrev Hh:Nat→Prop:=fun n=>n≤1000000
abbrev Hi(X:Lex):BA→Prop:=fun x=>X.ok x=true
abbrev Hj(X:Lex):Kd→BA→Prop:=fun k x=>j_ X k x
abbrev P9(K:dL)(X:Lex):=ow K Hh (Hi X) (Hj X)
abbrev Om(K:dL)(X:Lex):=qH K Hh (Hi X) (Hj X)
abbrev JK(K:dL)(X:Lex):=kx K Hh (Hi X) (Hj X)
abbrev D8(K:dL)(X:Lex):=kI K Hh (Hi X) (Hj X)
def len(ps:List Pc):Nat:=(dX ps).length
theorem cQ(a b:List Pc):len (a++b)=len a+len b:=by unfold len;rw[kL,List.length_append]
theorem dm:len []=0:=rfl
theorem cD(r:List Pc):len (.blank::r)=1+len r:=by unfold len;rw[dX,yM,List.length_append];rfl
theorem kM(k:Kd)(x:BA)(r:List Pc):len (.word k x::r)=(ir k x).length+len r:=by unfold len;rw[dX,yM,List.length_append]
theorem dh(x:BA)(r:List Pc):len (lt x::r)=x.size+len r:=by unfold lt;rw[kM];show(an x).length+_=_;rw[bd]
theorem jd(x:BA)(r:List Pc):len (sg x::r)=x.size+len r:=by unfold sg;rw[kM];show(an x).length+_=_;rw[bd]
theorem Eg{P:Prop}(h:P:=by have h1:dS.size=1:=rfl;have h2:fS.size=1:=rfl;rw[h1,h2];omega):P:=h
theorem iu(b:Nat)(t:Tm):len (c_ b t)=if ov b (bV t)then len (dW t)+2 else len (dW t):=by
 unfold c_;split;·rw[jd,cQ,jd,dm];exact Eg
 ·rfl
theorem M8(t:Tm):len (c_ 1 t)≤len (c_ 2 t):=by
 rw[iu,iu];unfold ov;by_cases h14:bV t=14;·rw[h14];simp
 ·
  by_cases h13:bV t=13;·rw[h13];simp
  ·simp[h14,h13]
theorem M9(b:Nat)(t:Tm):len (dW t)≤len (c_ b t):=by
 rw[iu];split;·omega
 ·exact ai _
theorem Eh{n:Nat}{s:BA}(h:isW l n s=true):∃w,l[n]?=some w∧(ir w.kind w.text).length=s.size∧w.text=s:=by
 unfold isW at h;split at h;·rename_i w hw;rw[Bool.and_eq_true,Bool.or_eq_true,decide_eq_true_eq,decide_eq_true_eq,decide_eq_true_eq]at h;refine⟨w,hw,?_,h.2⟩;rw[←h.2,←bd];unfold ir;rw[if_neg];rcases h.1 with h|h<;>rw[h]<;>decide
 ·cases h
theorem el{n:Nat}{s:BA}(h:isW l n s=true):bW l (n+1)=bW l n+(s.size+1):=by obtain⟨w,h1,h2,_⟩:=Eh h;rw[jI h1,h2]
theorem pq{n:Nat}{w:Wd}(h:l[n]?=some w)(hk:w.kind=.letters):bW l (n+1)=bW l n+(w.text.size+1):=by rw[jI h,hk,←bd];rfl
def P_(K:dL)(X:Lex)(l:List Wd)(n:Nat)(ts:List Tm)(m:Nat):Gl→Prop
 |.several true=>∃t,ts=[t]∧D8 K X t∧len (dW t)+1+bW l n≤bW l m
 |.several false=>∃t,ts=[t]∧D8 K X t∧len (c_ 1 t)+1+bW l n≤bW l m
 |.more true acc=>acc≠[]→(∀a∈acc,D8 K X a)→∃t,ts=[t]∧D8 K X t∧len (dW t)+bW l n≤len (dz 1 (dB 14 ByteArray.empty) acc)+bW l m
 |.more false acc=>acc≠[]→(∀a∈acc,D8 K X a)→∃t,ts=[t]∧D8 K X t∧len (c_ 1 t)+bW l n≤len (dz 2 (dB 13 ByteArray.empty) acc)+bW l m
 |.unit=>∃t,ts=[t]∧D8 K X t∧len (c_ 2 t)+1+bW l n≤bW l m
 |.args=>∃t r,ts=t::r∧(∀a∈ts,JK K X a)∧len (dz 2 (dB 6 ByteArray.empty) ts)+2+1+bW l n≤bW l m
 |.moreArgs acc=>acc≠[]→(∀a∈acc,JK K X a)→(∃t r,ts=t::r)∧(∀a∈ts,JK K X a)∧len (dz 2 (dB 6 ByteArray.empty) ts)+2+bW l n≤len (dz 2 (dB 6 ByteArray.empty) acc)+bW l m
 |.term=>∃t,ts=[t]∧JK K X t∧len (dW t)+1+bW l n≤bW l m
 |.moreTerm t0=>JK K X t0→∃t,ts=[t]∧JK K X t∧len (dW t)+bW l n≤len (dW t0)+bW l m
 |.product=>∃t,ts=[t]∧Om K X t∧len (dW t)+1+bW l n≤bW l m
 |.moreProduct t0=>Om K X t0→∃t,ts=[t]∧Om K X t∧len (dW t)+bW l n≤len (dW t0)+bW l m
 |.atom=>∃t,ts=[t]∧P9 K X t∧len (dW t)+1+bW l n≤bW l m
theorem wy(b:Nat)(sep:List Pc):∀(ts:List Tm)(t:Tm),fE b sep (ts++[t])=fE b sep ts++(sep++c_ b t)
 |[],t=>by rw[List.nil_append,eS,ft,List.append_nil,List.nil_append]
 |a::ts,t=>by rw[List.cons_append,eS,eS,wy b sep ts t];simp
theorem oz(b:Nat)(sep:List Pc){acc:List Tm}(h:acc≠[])(t:Tm):len (dz b sep (acc++[t]))=len (dz b sep acc)+len sep+len (c_ b t):=by
 cases acc with
 |nil=>exact absurd rfl h
 |cons a ts=>rw[List.cons_append,ek,ek,wy,cQ,cQ,cQ,cQ];omega
theorem wA(k:Nat)(acc:List Tm)(h1:dv k ByteArray.empty 0=[])(h2:jc k=[]):dW (.mk k ByteArray.empty 0 acc)=dz (if k=14 then 1 else 2) (dB k ByteArray.empty) acc:=by rw[iq,h1,h2];simp
theorem nk(b:Nat)(sep:List Pc)(t:Tm):dz b sep [t]=c_ b t:=by rw[ek,ft,List.append_nil]
theorem qI{P:Tm→Prop}{acc:List Tm}{t:Tm}(h:∀a∈acc,P a)(ht:P t):∀a∈acc++[t],P a:=fun a ha=>by
 rcases List.mem_append.1 ha with ha|ha;·exact h a ha
 ·obtain rfl:=aK.1 ha;exact ht
theorem A9(k:Nat)(x:BA)(a b:Tm)(sep:List Pc)(he:dW (.mk k x 0 [a,b])=dW a++(sep++dW b)):len (dW (.mk k x 0 [a,b]))=len (dW a)+len sep+len (dW b):=by rw[he,cQ,cQ];omega
theorem tv{k:Nat}(hk:k=13∨k=14){acc:List Tm}(h0:acc≠[])(h:∀a∈acc,D8 K X a):D8 K X (jG k acc):=by
 cases acc with
 |nil=>exact absurd rfl h0
 |cons a r=>
   cases r with
   |nil=>exact h a (List.mem_cons_self ..)
   |cons b r=>
    have h1:jG k (a::b::r)=.mk k ByteArray.empty 0 (a::b::r):=by unfold jG;rw[if_neg (by simp)]
    rw[h1];rcases hk with rfl|rfl;·exact .and a b r (h a (by simp)) (h b (by simp)) (fun c hc=>h c (by simp[hc]))
    ·exact .or a b r (h a (by simp)) (h b (by simp)) (fun c hc=>h c (by simp[hc]))
theorem wB(k:Nat)(hk:k=6∨k=11)(x:BA)(ts:List Tm):len (dW (.mk k x 0 ts))=x.size+2+len (dz 2 (dB 6 ByteArray.empty) ts):=by
 have e:dW (.mk k x 0 ts)=lt x::sg dS::(dz 2 (dB 6 ByteArray.empty) ts++[sg fS]):=by
  rw[iq];rcases hk with rfl|rfl;·simp[dv,jc,dB]
  ·simp[dv,jc,dB]
 rw[e,dh,jd,cQ,jd,dm];exact Eg
theorem yN{P:Prop}(h:P:=by
 split at h;·
  rename_i w hw;split at h;·rename_i hc;injection h with h;subst h;exact⟨w,hw,hc.1,rfl,hc.2⟩
  ·cases h
 ·cases h):P:=h
theorem wC{n:Nat}{x:BA}(h:nameAt K l n=some x):∃w,l[n]?=some w∧w.kind=.letters∧w.text=x∧K.kept x=false:=by unfold nameAt at h;exact yN
theorem wD{n:Nat}{x:BA}(h:ik K l n=some x):∃w,l[n]?=some w∧w.kind=.letters∧w.text=x∧K.test x=true:=by unfold ik at h;exact yN
theorem wE{n:Nat}{x:BA}(h:fo K l n=some x):∃w,l[n]?=some w∧(w.kind=.letters∨w.kind=.sign)∧w.text=x∧K.oper x=true:=by unfold fo at h;exact yN
theorem wF:len (dB 13 ByteArray.empty)=5:=by rfl
theorem yO:len (dB 14 ByteArray.empty)=4:=by rfl
theorem sK:len (dB 6 ByteArray.empty)=2:=by rfl
theorem wG{k:Nat}(hk:k=7∨k=8∨k=9):len (dB k ByteArray.empty)=3:=by rcases hk with rfl|rfl|rfl<;>rfl
theorem iQ(x:BA):len (dB 10 x)=x.size+2:=by
 have e:dB 10 x=[.blank,.word (kH x) x,.blank]:=rfl;rw[e,cD,kM,cD,dm];have h:(ir (kH x) x).length=x.size:=by
  unfold ir;rw[if_neg (by unfold kH;split<;>decide),bd]
 rw[h];omega
theorem CG{x:BA}{k:Kd}(h:j_ X k x)(hk:k=.letters∨k=.sign)(hx:k=.letters↔x=qp):j_ X (kH x) x:=by
 unfold kH;split;·rename_i h1;rw[←hx.2 h1];exact h
 ·
  rename_i h1;rcases hk with rfl|rfl;·exact absurd (hx.1 rfl) h1
  ·exact h
end
section
variable{K:dL}{X:Lex}{l:List Wd}{e:Nat}
theorem bu{o:Option Re}{k:List Tm→Nat→Option Re}{ts:List Tm}{m:Nat}(h:andThen o k=some (.ok ts m)):∃us n,o=some (.ok us n)∧k us n=some (.ok ts m):=by
 cases o with
 |none=>cases h
 |some r=>
   cases r with
   |ok us n=>exact⟨us,n,rfl,h⟩
   |bad p=>cases h
theorem yP{a b:Tm}(h1:bV a≠13∧bV a≠14)(h2:bV b≠13∧bV b≠14){k:Nat}(hk:k=7∨k=8∨k=9):len (dW (.mk k ByteArray.empty 0 [a,b]))=len (dW a)+3+len (dW b):=by have hs:=wG hk;rw[A9 k ByteArray.empty a b _ (AZ k _ a b (by rcases hk with rfl|rfl|rfl<;>rfl) (by rcases hk with rfl|rfl|rfl<;>rfl) (cW h1) (cW h2)),hs]
theorem eX{ts us:List Tm}{n m:Nat}(h:some (Re.ok us n)=some (.ok ts m)):ts=us∧m=n:=by injection h with h;injection h with h1 h2;exact⟨h1.symm,h2.symm⟩
theorem Ei(hx:∀w∈l,j_ X w.kind w.text){rec:Gl→Nat→Option Re}(ih:∀n ts m,rec .args n=some (.ok ts m)→P_ K X l n ts m .args){n:Nat}{ts:List Tm}{m:Nat}(h:step K l e rec .atom n=some (.ok ts m)):P_ K X l n ts m .atom:=by
 simp only[step]at h;cases hw:l[n]? with
 |none=>rw[hw]at h;cases h
 |some w=>
   rw[hw]at h;dsimp only at h;have hm:w∈l:=List.mem_of_getElem? hw;have ht:=hx w hm;have hs:=jI hw;obtain⟨kd,x,p⟩:=w;dsimp only at h ht hs;cases kd with
   |number=>
    obtain⟨rfl,rfl⟩:=eX h;obtain⟨v,hv,rfl⟩:=ht;refine⟨_,rfl,?_,?_⟩;·rw[nj];exact .num v hv
    ·
     rw[nj,hs];have:dW (.mk 1 ByteArray.empty v [])=[.word .number (ofBytes (kG v))]:=by rw[iq];rfl
     rw[this,kM,dm];omega
   |string=>
    obtain⟨rfl,rfl⟩:=eX h;refine⟨_,rfl,.text x ht,?_⟩;have:dW (.mk 2 x 0 [])=[.word .string x]:=by rw[iq];rfl
    rw[hs,this,kM,dm];omega
   |sign=>cases h
   |letters=>
    dsimp only at h;have hl:(ir .letters x).length=x.size:=by show(an x).length=_;rw[bd]
    rw[hl]at hs;split at h;·
     rename_i hc;obtain⟨rfl,rfl⟩:=eX h;refine⟨_,rfl,.src,?_⟩;have:dW (.mk 4 ByteArray.empty 0 [])=[lt dU]:=by rw[iq];rfl
     rw[hs,this,dh,dm,hc];omega
    ·
     rename_i hc1;split at h;·
      rename_i hc;obtain⟨rfl,rfl⟩:=eX h;refine⟨_,rfl,.tgt,?_⟩;have:dW (.mk 5 ByteArray.empty 0 [])=[lt dV]:=by rw[iq];rfl
      rw[hs,this,dh,dm,hc];omega
     ·
      rename_i hc2;split at h;·rename_i hc3;obtain⟨us,k,h1,h2⟩:=bu h;obtain⟨rfl,rfl⟩:=eX h2;obtain⟨a,r,rfl,h3,h4⟩:=ih _ _ _ h1;refine⟨_,rfl,.call x a r hc3 ht hc1 hc2 (h3 a (List.mem_cons_self ..)) (fun b hb=>h3 b (List.mem_cons_of_mem _ hb)),?_⟩;rw[wB 6 (.inl rfl)];rw[hs]at h4;omega
      ·
       split at h;·
        rename_i hc4;obtain⟨rfl,rfl⟩:=eX h;refine⟨_,rfl,.name x hc4 ht,?_⟩;have:dW (.mk 3 x 0 [])=[lt x]:=by rw[iq];rfl
        rw[hs,this,dh,dm];omega
       ·cases h
theorem Ej{P:Prop}(h:P:=by have h6':len (dW t')+bW l k≤len (dW t)+bW l m:=h6;exact⟨t',rfl,h5,by omega⟩):P:=h
theorem Ek{P:Prop}(h:P:=by
 obtain⟨t,rfl,h3,h4⟩:=ih _ _ _ _ h1;obtain⟨t',rfl,h5,h6⟩:=ih _ _ _ _ h2 (by simp) (fun b hb=>by obtain rfl:=aK.1 hb;exact h3);rw[nk]at h6;exact⟨t',rfl,h5,by omega⟩):P:=h
theorem tw(hO:∀x,K.oper x=true→j_ X .letters x→x=qp)(hx:∀w∈l,j_ X w.kind w.text):∀(f:Nat)(g:Gl)(n:Nat)(ts:List Tm)(m:Nat),parse K l e f g n=some (.ok ts m)→P_ K X l n ts m g
 |0,_,_,_,_,h=>by cases h
 |f+1,g,n,ts,m,h=>by
   have ih:=tw hO hx f;have h':step K l e (parse K l e f) g n=some (.ok ts m):=h;clear h;cases g with
   |atom=>exact Ei hx (fun n ts m h=>ih _ n ts m h) h'
   |product=>obtain⟨us,k,h1,h2⟩:=bu (o:=parse K l e f .atom n) h';obtain⟨t,rfl,h3,h4⟩:=ih _ _ _ _ h1;obtain⟨t',rfl,h5,h6⟩:=ih _ _ _ _ h2 (.atom _ h3);exact Ej
   |moreProduct t=>
    intro ht;simp only[step]at h';split at h';·rename_i hc;obtain⟨us,k,h1,h2⟩:=bu h';obtain⟨a,rfl,h3,h4⟩:=ih _ _ _ _ h1;have hs:=el hc;obtain⟨t',rfl,h5,h6⟩:=ih _ _ _ _ h2 (.mul t a ht h3);have hl:=yP (qq ht) (AV h3) (.inr (.inr rfl));have h6':len (dW t')+bW l k≤len (dW (.mk 9 ByteArray.empty 0 [t,a]))+bW l m:=h6;have e1:we.size=1:=rfl;exact⟨t',rfl,h5,by omega⟩
    ·obtain⟨rfl,rfl⟩:=eX h';exact⟨t,rfl,ht,ai _⟩
   |term=>obtain⟨us,k,h1,h2⟩:=bu (o:=parse K l e f .product n) h';obtain⟨t,rfl,h3,h4⟩:=ih _ _ _ _ h1;obtain⟨t',rfl,h5,h6⟩:=ih _ _ _ _ h2 (.prod _ h3);exact Ej
   |moreTerm t=>
    intro ht;simp only[step]at h';split at h';·
     rename_i hc;obtain⟨us,k,h1,h2⟩:=bu h';obtain⟨a,rfl,h3,h4⟩:=ih _ _ _ _ h1;have hs:bW l (n+1)=bW l n+2:=by
      rcases Bool.or_eq_true_iff.1 hc with hc|hc;·exact el hc
      ·exact el hc
     by_cases hp:isW l n mi=true;·rw[if_pos hp]at h2;obtain⟨t',rfl,h5,h6⟩:=ih _ _ _ _ h2 (.add t a ht h3);have hl:=yP (iP ht) (qq h3) (k:=7) (.inl rfl);have h6':len (dW t')+bW l k≤len (dW (.mk 7 ByteArray.empty 0 [t,a]))+bW l m:=h6;exact⟨t',rfl,h5,by omega⟩
     ·rw[if_neg hp]at h2;obtain⟨t',rfl,h5,h6⟩:=ih _ _ _ _ h2 (.sub t a ht h3);have hl:=yP (iP ht) (qq h3) (k:=8) (.inr (.inl rfl));have h6':len (dW t')+bW l k≤len (dW (.mk 8 ByteArray.empty 0 [t,a]))+bW l m:=h6;exact⟨t',rfl,h5,by omega⟩
    ·obtain⟨rfl,rfl⟩:=eX h';exact⟨t,rfl,ht,ai _⟩
   |args=>
    simp only[step]at h';split at h';·
     rename_i hc;obtain⟨us,k,h1,h2⟩:=bu h';obtain⟨t,rfl,h3,h4⟩:=ih _ _ _ _ h1;have hs:=el hc;obtain⟨⟨a,r,rfl⟩,h5,h6⟩:=ih _ _ _ _ h2 (by simp) (fun b hb=>by obtain rfl:=aK.1 hb;exact h3);rw[nk,cW (iP h3)]at h6;have e1:dS.size=1:=rfl;exact⟨a,r,rfl,h5,by omega⟩
    ·cases h'
   |moreArgs acc=>
     intro h0 hall;simp only[step]at h';split at h';·rename_i hc;obtain⟨us,k,h1,h2⟩:=bu h';obtain⟨t,rfl,h3,h4⟩:=ih _ _ _ _ h1;have hs:=el hc;obtain⟨h7,h5,h6⟩:=ih _ _ _ _ h2 (by simp) (qI hall h3);rw[oz _ _ h0,cW (iP h3),sK]at h6;have e1:ou.size=1:=rfl;exact⟨h7,h5,by omega⟩
     ·
      split at h';·
       rename_i hc;obtain⟨rfl,rfl⟩:=eX h';have hs:=el hc;have e1:fS.size=1:=rfl;refine⟨?_,hall,by omega⟩;cases ts with
       |nil=>exact absurd rfl h0
       |cons a r=>exact⟨a,r,rfl⟩
      ·cases h'
   |several o=>
     cases o with
     |false=>obtain⟨us,k,h1,h2⟩:=bu (o:=parse K l e f .unit n) h';exact Ek
     |true=>obtain⟨us,k,h1,h2⟩:=bu (o:=parse K l e f (.several false) n) h';exact Ek
   |more o acc=>
     cases o with
     |false=>
       intro h0 hall;rw[yK]at h';split at h';·rename_i hc;obtain⟨us,k,h1,h2⟩:=bu h';obtain⟨t,rfl,h3,h4⟩:=ih _ _ _ _ h1;have hs:=el hc;obtain⟨t',rfl,h5,h6⟩:=ih _ _ _ _ h2 (by simp) (qI hall h3);rw[oz _ _ h0,wF]at h6;have e1:v_.size=3:=rfl;exact⟨t',rfl,h5,by omega⟩
       ·obtain⟨rfl,rfl⟩:=eX h';refine⟨_,rfl,tv (.inl rfl) h0 hall,?_⟩;cases acc with
         |nil=>exact absurd rfl h0
         |cons a r=>
           cases r with
           |nil=>rw[nk];have:=M8 a;show len (c_ 1 a)+_≤_;omega
           |cons b r=>
            have e1:jG 13 (a::b::r)=.mk 13 ByteArray.empty 0 (a::b::r):=by unfold jG;rw[if_neg (by simp)]
            have e2:c_ 1 (.mk 13 ByteArray.empty 0 (a::b::r))=dW (.mk 13 ByteArray.empty 0 (a::b::r)):=rfl;rw[e1,e2,wA 13 _ rfl rfl];exact ai _
     |true=>
       intro h0 hall;rw[yL]at h';split at h';·rename_i hc;obtain⟨us,k,h1,h2⟩:=bu h';obtain⟨t,rfl,h3,h4⟩:=ih _ _ _ _ h1;have hs:=el hc;obtain⟨t',rfl,h5,h6⟩:=ih _ _ _ _ h2 (by simp) (qI hall h3);rw[oz _ _ h0,yO]at h6;have e1:JI.size=2:=rfl;exact⟨t',rfl,h5,by omega⟩
       ·obtain⟨rfl,rfl⟩:=eX h';refine⟨_,rfl,tv (.inr rfl) h0 hall,?_⟩;cases acc with
         |nil=>exact absurd rfl h0
         |cons a r=>
           cases r with
           |nil=>rw[nk];have:=M9 1 a;show len (dW a)+_≤_;omega
           |cons b r=>
            have e1:jG 14 (a::b::r)=.mk 14 ByteArray.empty 0 (a::b::r):=by unfold jG;rw[if_neg (by simp)]
            rw[e1,wA 14 _ rfl rfl];exact ai _
   |unit=>
    simp only[step]at h';split at h';·
     rename_i hc;obtain⟨us,k,h1,h2⟩:=bu h';obtain⟨rfl,rfl⟩:=eX h2;obtain⟨t,rfl,h3,h4⟩:=ih _ _ _ _ h1;have hs:=el hc;refine⟨_,rfl,.not t h3,?_⟩;have e:dW (.mk 12 ByteArray.empty 0 [t])=lt sNot:: .blank::c_ 2 t:=by rw[iq,ek,ft];simp[dv,jc]
     have e1:sNot.size=3:=rfl;rw[cW (gh (by decide)),e,dh,cD];omega
    ·
     split at h';·
      rename_i hc;have hs:bW l (n+1)=bW l n+4:=by
       rcases Bool.or_eq_true_iff.1 hc with hc|hc;·exact el hc
       ·exact el hc
      split at h';·cases h'
      ·
       rename_i x hn;obtain⟨w,hw1,hw2,rfl,hw3⟩:=wC hn;have hs2:=pq hw1 hw2;have hm:w∈l:=List.mem_of_getElem? hw1;have htk:=hx w hm;rw[hw2]at htk;split at h';·
        rename_i hc2;have hs3:=el hc2;obtain⟨us,k,h1,h2⟩:=bu h';obtain⟨t,rfl,h3,h4⟩:=ih _ _ _ _ h1;split at h2;·
         rename_i hc3;have hs4:=el hc3;obtain⟨vs,k2,h5,h6⟩:=bu h2;obtain⟨rfl,rfl⟩:=eX h6;obtain⟨u,rfl,h7,h8⟩:=ih _ _ _ _ h5;refine⟨_,rfl,.each _ w.text t u (by split;exact .inl rfl;exact .inr rfl) hw3 htk h3 h7,?_⟩;have hk:∀k,k=15∨k=16→len (c_ 2 (.mk k w.text 0 [t,u]))=len (dW t)+len (c_ 2 u)+w.text.size+10:=by
          intro k hk;have e:dW (.mk k w.text 0 [t,u])=lt (if k=15 then sAll else i_):: .blank::lt w.text:: .blank::lt qp:: .blank::(dW t++(sg fB:: .blank::c_ 2 u)):=by
           rw[iq,ek,eS,ft];rcases hk with rfl|rfl;·rw[show(if 15=14 then 1 else 2)=2 from rfl,cW (iP h3)];simp[dv,jc,dB]
           ·rw[show(if 16=14 then 1 else 2)=2 from rfl,cW (iP h3)];simp[dv,jc,dB]
          have e1:(if k=15 then sAll else i_).size=3:=by split<;>rfl
          have e2:qp.size=2:=rfl;have e3:fB.size=1:=rfl;rw[cW (by rcases hk with rfl|rfl<;>exact gh (by decide)),e,dh,cD,dh,cD,dh,cD,cQ,jd,cD,e1,e2,e3];omega
         show len (c_ 2 (.mk _ w.text 0 [t,u]))+1+_≤_;rw[hk _ (by split;exact .inl rfl;exact .inr rfl)];have e2:qp.size=2:=rfl;have e3:fB.size=1:=rfl;have e4:n+1+1=n+2:=rfl;have e5:n+2+1=n+3:=rfl;rw[e4]at hs2;rw[e5]at hs3;omega
        ·cases h2
       ·cases h'
     ·
      split at h';·
       rename_i hc;have hs:=el hc;obtain⟨us,k,h1,h2⟩:=bu h';obtain⟨t,rfl,h3,h4⟩:=ih _ _ _ _ h1;split at h2;·rename_i hc2;have hs2:=el hc2;obtain⟨rfl,rfl⟩:=eX h2;refine⟨t,rfl,h3,?_⟩;have e1:dS.size=1:=rfl;have e2:fS.size=1:=rfl;rw[iu];split<;>omega
       ·cases h2
      ·
       split at h';·rename_i x hn;obtain⟨w,hw1,hw2,rfl,hw3⟩:=wD hn;have hs2:=pq hw1 hw2;have hm:w∈l:=List.mem_of_getElem? hw1;have htk:=hx w hm;rw[hw2]at htk;obtain⟨us,k,h1,h2⟩:=bu h';obtain⟨rfl,rfl⟩:=eX h2;obtain⟨a,r,rfl,h3,h4⟩:=ih _ _ _ _ h1;refine⟨_,rfl,.test w.text a r hw3 htk (h3 a (List.mem_cons_self ..)) (fun b hb=>h3 b (List.mem_cons_of_mem _ hb)),?_⟩;rw[cW (gh (by decide)),wB 11 (.inr rfl)];omega
       ·
        obtain⟨us,k,h1,h2⟩:=bu h';obtain⟨a,rfl,h3,h4⟩:=ih _ _ _ _ h1;split at h2;·
         rename_i x hn;obtain⟨w,hw1,hw2,rfl,hw3⟩:=wE hn;have hm:w∈l:=List.mem_of_getElem? hw1;have htk:=hx w hm;have hs2:bW l (k+1)=bW l k+(w.text.size+1):=by rw[jI hw1,←bd];unfold ir;rw[if_neg (by rcases hw2 with h|h<;>rw[h]<;>decide)]
         obtain⟨vs,k2,h5,h6⟩:=bu h2;obtain⟨rfl,rfl⟩:=eX h6;obtain⟨b,rfl,h7,h8⟩:=ih _ _ _ _ h5;have hop:j_ X (kH w.text) w.text:=by
          refine CG htk hw2 ⟨fun h=>hO _ hw3 (by rw[h]at htk;exact htk),fun h=>?_⟩;rcases hw2 with h2|h2;·exact h2
          ·
           rw[h2,h]at htk;rcases htk with⟨c,_,hc⟩|⟨c,_,hc⟩;·have h9:[105,110]=[c]:=congrArg an hc;injection h9 with _ h9;cases h9
           ·have h9:[105,110]=[c,61]:=congrArg an hc;injection h9 with _ h9;injection h9 with h9;exact absurd h9 (by decide)
         refine⟨_,rfl,.cmp w.text a b hw3 hop h3 h7,?_⟩;show len (c_ 2 (.mk 10 w.text 0 [a,b]))+1+_≤_;rw[cW (gh (by decide)),A9 10 w.text a b _ (AZ 10 _ a b rfl rfl (cW (iP h3)) (cW (iP h7))),iQ];omega
        ·cases h2
end
