/- The specification's words: what words says. -/
import Derived.Test.YthbdlnflmfchjaaGreatDoorAG
set_option linter.unusedVariables false
set_option linter.unusedSimpArgs false
namespace Go.Proofs.YthbdlnflmfchjaaGreatDoor
open Go.Proofs.Tryz
open Go.RowKit Go.Proofs.Fm Go.Proofs.MapEnt
set_option maxHeartbeats 3200000
set_option maxRecDepth 1000000
theorem mg{ok kept:BA→Bool}{s:BA}{i:Nat}(h:¬i<s.size):a_ ok kept s i=.ok []:=by rw[a_,dif_neg h]
theorem ja{ok kept:BA→Bool}{s:BA}{i:Nat}(h:i<s.size)(hc:s[i].toNat=32):a_ ok kept s i=a_ ok kept s (i+1):=by rw[a_,dif_pos h,bm h,if_pos hc]
theorem jb{ok kept:BA→Bool}{s:BA}{i:Nat}(h:i<s.size)(hc:¬s[i].toNat=32)(hw:bN ok kept s i=none):a_ ok kept s i=.error i:=by
 rw[a_,dif_pos h,bm h,if_neg hc];split;·rfl
 ·rename_i x e h1;rw[hw]at h1;cases h1
theorem il{ok kept:BA→Bool}{s:BA}{i:Nat}(h:i<s.size)(hc:¬s[i].toNat=32){x:Wd}{e:Nat}(hw:bN ok kept s i=some (x,e)):a_ ok kept s i=(a_ ok kept s e).map (x::·):=by
 rw[a_,dif_pos h,bm h,if_neg hc];split;·rename_i h1;rw[hw]at h1;cases h1
 ·rename_i x' e' h1;rw[hw]at h1;injection h1 with h1;injection h1 with h1 h2;subst h1;subst h2;rfl
theorem kD{ok kept:BA→Bool}{s:BA}{i:Nat}{r:Except Nat (List Wd)}{l0:List Wd}(h:r=(a_ ok kept s i).map (l0++·))(h1:¬i<s.size):r=.ok l0:=by rw[h,mg h1];exact congrArg Except.ok (List.append_nil l0)
def ng(r:Except Nat (List Wd))(e:Nat)(w:World)(E:Ending)(w':World):Prop:=match r with
 |.ok l=>∃(g c:Nat),E=.returned (.tuple #[.slice (some ⟨g,0,none⟩) (l.length+1) c,.int .i64 (-1)])∧w.heap.size≤g∧JD w' g l e
 |.error p=>E=.returned (.tuple #[.slice none 0 0,.int .i64 (p:Nat)])
theorem map_map{α:Type}(r:Except Nat (List α))(a b:List α):(r.map (b++·)).map (a++·)=r.map ((a++b)++·):=by
 cases r with
 |error p=>rfl
 |ok l=>show Except.ok (a++(b++l))=_;rw[←List.append_assoc];rfl
theorem mv(s:BA)(w:World)(hs:s.size≤100000):Calls prog 42 #[.string s] w fun E w'=>ng (a_ cU lang.kept s 0) s.size w E w'∧w.Since w.heap.size w':=by
 have HBad:Hid (∀p,a_ cU lang.kept s 0=.error p→∀E:Ending,E=.returned (.tuple #[.slice none 0 0,.int .i64 (p:Nat)])→∀w',ng (a_ cU lang.kept s 0) s.size w E w'):=aa (fun p h E hE w'=>by rw[h];exact hE);have HGood:Hid (∀l,a_ cU lang.kept s 0=.ok l→∀(g c:Nat)(w':World),w.heap.size≤g→JD w' g l s.size→ng (a_ cU lang.kept s 0) s.size w (.returned (.tuple #[.slice (some ⟨g,0,none⟩) (l.length+1) c,.int .i64 (-1)])) w'):=aa (fun l h g c w' h1 h2=>by rw[h];exact⟨g,c,rfl,h1,h2⟩);generalize hR:ng (a_ cU lang.kept s 0) s.size w=R at*;clear hR;have KW:=aa (fun i W(h:i<s.size)=>Cz s i W hs h);have HW0:Hid (a_ cU lang.kept s 0=(a_ cU lang.kept s 0).map ([]++·)):=aa (by cases a_ cU lang.kept s 0<;>rfl);go_enter func42,ntmps42;go_wp2_with fail;go_loopg[4,5]s.size(fun gg o4 o5 wr=>∃(i cu cap:Nat)(G:Option Addr)(l0:List Wd),gg=s.size-i∧i≤s.size∧o4=.slice G cu cap∧o5=.int .i64 (i:Nat)∧l0.length=cu∧cu≤i∧Hid (wr.ownsRow w.heap.size 115 3 (.slice G cu cap) cu (jk l0))∧Hid (w.Since w.heap.size wr)∧Hid (a_ cU lang.kept s 0=(a_ cU lang.kept s i).map (l0++·)));case atStart=>exact⟨0,0,0,none,[],by omega,by omega,rfl,rfl,rfl,by omega,aa (World.ownsRow_nil _ _ _ _),aa (ah _ _),HW0⟩
 case round=>
  obtain⟨i,cu,cap,G,l0,rfl,hi,rfl,rfl,hl0,hci,hO,hW,hE⟩:=hrel;by_cases h1:i<s.size;·
   have i1:(i:Int)<(s.size:Int):=by omega
   have z5:IntKind.i64.wrap ((i:Int)+1)=(i:Int)+1:=ax _ (by omega);by_cases h2:s[i].toNat=32;·
    have b1:(s[i].toNat:Int)=32:=by omega
    have hE2:Hid (a_ cU lang.kept s 0=(a_ cU lang.kept s (i+1)).map (l0++·)):=aa (by rw[hE.o,ja h1 h2]);clear h2;go_wp2_with fail;go_roundg(s.size-(i+1));case measure=>omega
    case rel=>exact⟨i+1,cu,cap,G,l0,rfl,by omega,rfl,by simp,hl0,by omega,hO,hW,hE2⟩
   ·
    have b1:¬(s[i].toNat:Int)=32:=by omega
    have K:=aa (KW.o i wr h1);cases hwa:bN cU lang.kept s i with
    |none=>rw[hwa]at K;have HR:=aa (HBad.o i (by rw[hE.o,jb h1 h2 hwa];rfl));clear h2 hwa;go_wp2_with fail;refine K.o.mono ?_;rintro r0 w3⟨⟨k,p,x,rfl⟩,hs3⟩;have W3:=aa (aZ hW.o hs3);clear hs3 K;go_wp2_with fail;exact au (v:=.tuple #[.slice none 0 0,.int .i64 (i:Nat)]) (by simp[results,results42,go_sem]) rfl ⟨HR.o _ rfl _,W3.o.alloc (by have:=W3.o.size;omega) _⟩
    |some xe=>
     obtain⟨x,e⟩:=xe;rw[hwa]at K;have hgt:=gZ cU lang.kept s i h1 hwa;have hE2:Hid (a_ cU lang.kept s 0=(a_ cU lang.kept s e).map ((l0++[x])++·)):=aa (by rw[hE.o,il h1 h2 hwa];exact map_map _ l0 [x]);have i5:¬(e:Int)<0:=by omega
     have HFL:=aa (qB x l0);clear h2 hwa;go_wp2_with fail;refine K.o.mono ?_;rintro r0 w3⟨rfl,hs3⟩;have W3:=aa (aZ hW.o hs3);have hO3:w3.ownsRow w.heap.size 115 3 (.slice G cu cap) cu (jk l0):=cZ hO.o (fun q _ hq=>hs3.block q hq);have hO4:=cZ (w':=w3.alloc (.cells #[.int .u8 (rK x:Nat),.string x.text,.int .i64 (x.place:Nat)] 115)) hO3 (fun q _ hq=>aj w3 _ q hq);obtain⟨v',w6,g',cap',a1,hv',hg1,hg2,O6,S6⟩:=vY _ w.heap.size G cu cap _ hO4 (rK x) x.text x.place (by omega) (by have:=W3.o.size;simp;omega);subst hv';rw[World.size_alloc]at a1;have W6:Hid (w.Since w.heap.size w6):=aa ((W3.o.alloc (by have:=W3.o.size;omega) _).trans S6.o);rw[←HFL.o]at O6;clear hs3 K hO3 hO4 hg1 hg2;go_wp2_with(refine jZ rfl (.tmp 27) (.tmp 29) rfl rfl rfl rfl a1 ?_);go_roundg(s.size-e);case measure=>omega
     case rel=>
      exact⟨e,cu+1,cap',some ⟨g',0,none⟩,l0++[x],rfl,hgt.2,by simp,rfl,by rw[List.length_append,hl0];rfl,by omega,O6,W6,hE2⟩
  ·
   have i1:¬(i:Int)<(s.size:Int):=by omega
   have HR:=aa (HGood.o l0 (kD hE.o h1));obtain⟨v',w6,g',cap',a1,hv',hg1,hg2,O6,S6⟩:=vY wr w.heap.size G cu cap _ hO.o 101 ⟨#[]⟩ s.size (by omega) hW.o.size;subst hv';rw[show(⟨#[]⟩:BA)=ByteArray.empty from rfl]at O6;have HG:=aa (aF hg1 hg2);have hrw:JD w6 g' l0 s.size:=⟨hg2,fun q hq=>by
    obtain⟨f0,f1,f2⟩:=tj s.size l0 q hq;have hcq:q≤cu:=by omega
    exact⟨(O6.o.cellAt (q*3) (by omega)).trans f0,(O6.o.cellAt (q*3+1) (by omega)).trans f1,(O6.o.cellAt (q*3+2) (by omega)).trans f2⟩⟩;have HRW:=aa hrw;have W6:Hid (w.Since w.heap.size w6):=aa (hW.o.trans S6.o);rw[hl0]at HR;rw[show((101:Nat):Int)=101 from rfl]at a1;clear hg1 hg2 hrw O6;go_wp2_with(refine jZ (v:=.slice G cu cap) (xv:=.slice (some ⟨wr.heap.size,0,none⟩) 1 1) (v':=.slice (some ⟨g',0,none⟩) (cu+1) cap') (w':=w6) ?_ (.tmp 32) (.tmp 36) ?_ ?_ ?_ ?_ ?_ ?_;exact rfl;exact rfl;exact rfl;exact rfl;exact rfl;exact a1);exact au (v:=.tuple #[.slice (some ⟨g',0,none⟩) (cu+1) cap',.int .i64 (-1)]) (by simp[results,results42,go_sem]) rfl ⟨HR.o _ _ _ HG.o.1 HRW.o,W6.o⟩
theorem ed(s:BA)(i e:Nat)(he:e≤s.size):(s.extract i e).size=e-i:=by rw[ByteArray.size_extract];omega
theorem ej(s:BA)(i e j:Nat)(he:e≤s.size)(hj:i+j<e):bc (s.extract i e) j=bc s (i+j):=by
 have h1:j<(s.extract i e).size:=by rw[ed s i e he];omega
 rw[bm h1,bm (show i+j<s.size by omega)];congr 1;exact ByteArray.getElem_extract h1
theorem mw(s:BA)(lo hi:Nat):∀(k n:Nat),s.size-n≤k→∀j,n≤j→j<bC s lo hi n→lo≤bc s j∧bc s j≤hi
 |k,n,hk,j,h1,h2=>by
   by_cases hc:n<s.size∧lo≤bc s n∧bc s n≤hi;·
    rw[ec hc]at h2;by_cases e:j=n;·rw[e];exact hc.2
    ·cases k with
      |zero=>omega
      |succ k=>exact mw s lo hi k (n+1) (by omega) j (by omega) h2
   ·rw[dg hc]at h2;omega
theorem gT(s:BA)(i e:Nat)(he:e≤s.size):∀(k j v:Nat),e-i-j=k→bh (s.extract i e) j (e-i) v=bh s (i+j) e v
 |0,j,v,hk=>by rw[bh,dif_neg (by omega),bh,dif_neg (by omega)]
 |k+1,j,v,hk=>by
  rw[bh,dif_pos (by omega),ej s i e j he (by omega),gT s i e he k (j+1) _ (by omega)];conv=>rhs;rw[bh,dif_pos (by omega)]
  rfl
theorem kE(ok:BA→Bool)(s:BA):∀(k i:Nat)(acc t:BA)(e:Nat),s.size-i≤k→Fm.quoted ok s i acc=some (t,e)→t.size≤acc.size+(s.size-i)
 |k,i,acc,t,e,hk,h=>by
   rw[Fm.quoted]at h;split at h;·
    rename_i hi;cases k with
    |zero=>omega
    |succ k=>
     split at h;·
      split at h;·injection h with h;injection h with h _;rw[←h];omega
      ·cases h
     ·
      split at h;·
       split at h;·
        split at h;·have:=kE ok s k (i+2) _ _ _ (by omega) h;rw[ByteArray.size_push]at this;omega
        ·cases h
       ·cases h
      ·have:=kE ok s k (i+1) _ _ _ (by omega) h;rw[ByteArray.size_push]at this;omega
   ·cases h
def Ea(x:Wd):Prop:=Ok x∧(x.kind=.number→(∀i(h:i<x.text.size),48≤x.text[i].toNat)∧bh x.text 0 x.text.size 0≤1000000∧x.text.size≤100000)
theorem vZ{ok kept:BA→Bool}{s:BA}{i:Nat}(hs:s.size≤100000)(hi:i<s.size){x:Wd}{e:Nat}(h:bN ok kept s i=some (x,e)):Ea x:=by
 unfold bN at h;simp only at h;split at h;·
  rename_i hc;split at h;·cases h
  ·
   injection h with h;injection h with h _;subst h;have hle:=d_ s 97 122 i (by omega);have hgt:i<bC s 97 122 i:=by rw[ec ⟨hi,hc⟩];exact dD s 97 122 (i+1)
   have hz:=ed s i _ hle;refine⟨⟨fun _=>⟨?_,?_⟩,fun h=>(by cases h),?_⟩,fun h=>(by cases h)⟩;·show 0<(s.extract i (bC s 97 122 i)).size;omega
   ·show 97≤bc (s.extract i (bC s 97 122 i)) 0∧bc (s.extract i (bC s 97 122 i)) 0≤122;rw[ej s i _ 0 hle (by omega)];exact hc
   ·show(s.extract i (bC s 97 122 i)).size≤maxLen;simp only[maxLen];omega
 ·
  rename_i hnl;split at h;·
   rename_i hc;split at h;·cases h
   ·
    rename_i hg;injection h with h;injection h with h _;subst h;have hle:=d_ s 48 57 i (by omega);have hz:=ed s i _ hle;refine⟨⟨fun h=>(by cases h),fun h=>(by cases h),?_⟩,fun _=>⟨fun j hj=>?_,?_,?_⟩⟩;·show(s.extract i (bC s 48 57 i)).size≤maxLen;simp only[maxLen];omega
    ·have hj2:j<(s.extract i (bC s 48 57 i)).size:=hj;have e1:=ej s i _ j hle (by omega);have e2:=(mw s 48 57 _ i (ai _) (i+j) (by omega) (by omega)).1;rw[←e1,bm hj2]at e2;exact e2
    ·show bh (s.extract i (bC s 48 57 i)) 0 (s.extract i (bC s 48 57 i)).size 0≤1000000;rw[hz,gT s i _ hle _ 0 0 rfl];exact Nat.le_of_not_lt (fun hh=>hg (.inl hh))
    ·show(s.extract i (bC s 48 57 i)).size≤100000;omega
  ·
   split at h;·
    split at h;·rename_i t e' hq;injection h with h;injection h with h _;subst h;have hz:=kE ok s _ (i+1) _ _ _ (ai _) hq;refine⟨⟨fun h=>(by cases h),fun h=>(by cases h),?_⟩,fun h=>(by cases h)⟩;show t.size≤maxLen;rw[show(ByteArray.empty).size=0 from rfl]at hz;simp only[maxLen];omega
    ·cases h
   ·
    split at h;·cases h
    ·
     rename_i hn;injection h with h;injection h with h _;subst h;rcases oj s i hi with⟨y,_,h2,h3,h4⟩|⟨_,h2⟩;·
      rw[h3];have hy:y.size≤s.size:=by rw[←h3,ByteArray.size_extract];omega
      have hb:bc y 0=bc s i:=by
       have hl:i+eW s i≤s.size:=by have h5:=congrArg ByteArray.size h3;rw[ByteArray.size_extract]at h5;omega
       rw[←h3,ej s i _ 0 hl (by omega)];rfl
      exact⟨⟨fun h=>(by cases h),fun _=>⟨h4,by show¬(97≤bc y 0∧bc y 0≤122);rw[hb];exact hnl⟩,by show y.size≤maxLen;simp only[maxLen];omega⟩,fun h=>(by cases h)⟩
     ·exact absurd h2 hn
theorem my{ok kept:BA→Bool}{s:BA}(hs:s.size≤100000):∀(k i:Nat),s.size-i≤k→∀l,a_ ok kept s i=.ok l→(∀x∈l,Ea x)∧l.length≤s.size-i
 |k,i,hk,l,h=>by
   by_cases hi:i<s.size;·
    cases k with
    |zero=>omega
    |succ k=>
      by_cases hc:s[i].toNat=32;·rw[ja hi hc]at h;have:=my hs k (i+1) (by omega) l h;exact⟨this.1,by omega⟩
      ·cases hw:bN ok kept s i with
        |none=>rw[jb hi hc hw]at h;cases h
        |some xe=>
          obtain⟨x,e⟩:=xe;rw[il hi hc hw]at h;have hgt:=gZ ok kept s i hi hw;cases hr:a_ ok kept s e with
          |error p=>rw[hr]at h;cases h
          |ok l2=>
           rw[hr]at h;injection h with h;subst h;have h2:=my hs k e (by omega) l2 hr;refine⟨fun y hy=>?_,by rw[List.length_cons];omega⟩;rcases List.mem_cons.1 hy with rfl|hy;·exact vZ hs hi hw
           ·exact h2.1 y hy
   ·rw[mg hi]at h;injection h with h;subst h;exact⟨fun x hx=>(by cases hx),aI _⟩
theorem mz{ok kept:BA→Bool}{s:BA}(hs:s.size≤100000){l:List Wd}(h:a_ ok kept s 0=.ok l):WsOk l∧uA l:=by have h1:=my hs _ 0 (ai _) l h;exact⟨⟨fun x hx=>(h1.1 x hx).1,by omega⟩,fun x hx hk=>(h1.1 x hx).2 hk⟩
mutual
def iO:Tm→Nat
 |.mk _ _ _ subs=>gu subs+1
def gu:List Tm→Nat
 |[]=>0
 |t::ts=>max (iO t) (gu ts)
end
mutual
def mh:Tm→Nat
 |.mk _ _ _ subs=>iM subs+1
def iM:List Tm→Nat
 |[]=>0
 |t::ts=>mh t+iM ts
end
theorem He(t:Tm):0<mh t:=by cases t;rw[mh];omega
theorem lB:∀(ts:List Tm)(i:Nat)(h:i<ts.length),gu (ts.take (i+1))=max (gu (ts.take i)) (iO ts[i])
 |[],i,h=>absurd h (aH _)
 |t::ts,0,h=>by show max (iO t) (gu [])=max (gu []) (iO t);rw[gu];omega
 |t::ts,i+1,h=>by have h':i<ts.length:=Nat.lt_of_succ_lt_succ h;have ih:=lB ts i h';show max (iO t) (gu (ts.take (i+1)))=max (max (iO t) (gu (ts.take i))) (iO ts[i]);rw[ih];omega
theorem ot:∀(ts:List Tm)(i:Nat)(h:i<ts.length),mh ts[i]≤iM ts
 |[],i,h=>absurd h (aH _)
 |t::ts,0,h=>by show mh t≤mh t+iM ts;omega
 |t::ts,i+1,h=>by have h':i<ts.length:=Nat.lt_of_succ_lt_succ h;have ih:=ot ts i h';show mh ts[i]≤mh t+iM ts;omega
theorem im:∀ts:List Tm,ts.length≤iM ts
 |[]=>aI _
 |t::ts=>by have:=im ts;have:=He t;rw[List.length_cons,iM];omega
mutual
theorem uD:∀t:Tm,iO t≤mh t
 |.mk _ _ _ subs=>by have:=qC subs;rw[iO,mh];omega
theorem qC:∀ts:List Tm,gu ts≤iM ts
 |[]=>ai _
 |t::ts=>by have:=uD t;have:=qC ts;rw[gu,iM];omega
end
theorem yI(ts:List Tm)(i:Nat)(h:i<ts.length):iO ts[i]≤iM ts:=ay (uD _) (ot ts i h)
theorem qD(ts:List Tm):∀i,gu (ts.take i)≤iM ts
 |0=>by rw[List.take_zero,gu];exact aI _
 |i+1=>by
  by_cases h:i<ts.length;·rw[lB ts i h];have:=qD ts i;have:=yI ts i h;omega
  ·rw[List.take_of_length_le (by omega)];exact qC ts
theorem P7{w:World}{A:Nat→Prop}{lo:Nat}{t:Tm}{cs:List Value}(h:aY w A lo t cs):∃a b c d,cs=[a,b,c,d]:=by
 cases t with
 |mk k x n subs=>unfold aY at h;obtain⟨G,c,us,h1,_⟩:=h;exact⟨_,_,_,_,h1⟩
theorem qo{w:World}{A:Nat→Prop}{lo:Nat}:∀(ts:List Tm)(us:List Value),bn w A lo ts us→us.length=ts.length*4∧∀i(h:i<ts.length),∃a b c d,aY w A lo ts[i] [a,b,c,d]∧us[i*4]?=some a∧us[i*4+1]?=some b∧us[i*4+2]?=some c∧us[i*4+3]?=some d
 |[],us,h=>by unfold bn at h;subst h;exact⟨rfl,fun i h=>absurd h (aH _)⟩
 |t::ts,us,h=>by
   unfold bn at h;obtain⟨a,b,rfl,h1,h2⟩:=h;obtain⟨v0,v1,v2,v3,rfl⟩:=P7 h1;obtain⟨hl,hg⟩:=qo ts b h2;refine⟨by rw[List.length_append,hl,List.length_cons];simp;omega,fun i hi=>?_⟩;cases i with
   |zero=>exact⟨v0,v1,v2,v3,h1,rfl,rfl,rfl,rfl⟩
   |succ i=>
    obtain⟨c0,c1,c2,c3,g1,g2,g3,g4,g5⟩:=hg i (Nat.lt_of_succ_lt_succ hi);have e:(i+1)*4=i*4+1+1+1+1:=by omega
    exact⟨c0,c1,c2,c3,g1,by rw[e];exact g2,by rw[e];exact g3,by rw[e];exact g4,by rw[e];exact g5⟩
theorem JE{P:Prop}(h:P:=by
 obtain⟨v0,v1,v2,v3,g0,g1,g2,g3,g4⟩:=hg i hi;rcases hr with⟨e,_⟩|⟨b,e1,_,_,e4,e5⟩;·rw[e]at hl;simp at hl;omega
 ·
  have hc:∀j v,us[j]?=some v→w.cell? ⟨b,j,none⟩=some v:=fun j v hj=>by obtain⟨h1,h2⟩:=aQ.1 hj;rw[e5 j h1,h2]
  exact⟨b,v0,v1,v2,v3,e1,e4,g0,hc _ _ g1,hc _ _ g2,hc _ _ g3,hc _ _ g4⟩):P:=h
theorem JF{P:Prop}(h:P:=by
 clear hs3;go_wp2_with fail;go_roundg(subs.length-(i+1));case measure=>omega
 case rel=>
  exact⟨i+1,max v d,rfl,by omega,by
   first|rfl|
    (congr 1;omega),by simp,HVT,W3,B3⟩):P:=h
theorem JG{P:Prop}(h:P:=by
 have i1:¬(i:Int)<(subs.length:Int):=by omega
 have hv:v≤1000000:=by rw[hV.o];have:=HTB.o i;have:=HK.o;omega
 have hD:Hid (v+1=D):=aa (by rw[HR.o,←HF.o,hV.o,show i=subs.length by omega]);have z5:IntKind.i64.wrap ((v:Int)+1)=(v:Int)+1:=ax _ (by omega);go_wp2_with fail;go_ret;exact⟨by rw[←hD.o];rfl,hW.o⟩):P:=h
theorem qE:∀(K:Nat)(t:Tm)(w:World)(A:Nat→Prop)(lo:Nat)(cs:List Value),mh t≤K→K≤1000000→aY w A lo t cs→Calls prog 46 #[.agg cs.toArray] w fun E w'=>E=.returned (.int .i64 (iO t:Nat))∧w.Since w.heap.size w'
 |0,.mk k x n subs,w,A,lo,cs,hK,_,_=>by rw[mh]at hK;omega
 |K+1,.mk k x n subs,w,A,lo,cs,hK,hM,h=>by
  have IH:=aa (fun(t:Tm)(w:World)(cs:List Value)h1 h2=>qE K t w A lo cs h1 (by omega) h2);rw[mh]at hK;unfold aY at h;obtain⟨G,c,us,rfl,hr,hs⟩:=h;obtain⟨hl,hg⟩:=qo subs us hs;have HG:Hid (∀i(h:i<subs.length),∃b v0 v1 v2 v3,G=some ⟨b,0,none⟩∧b<w.heap.size∧aY w A lo subs[i] [v0,v1,v2,v3]∧w.cell? ⟨b,i*4,none⟩=some v0∧w.cell? ⟨b,i*4+1,none⟩=some v1∧w.cell? ⟨b,i*4+2,none⟩=some v2∧w.cell? ⟨b,i*4+3,none⟩=some v3):=aa (fun i hi=>by exact JE);have HT:=aa (fun i h=>lB subs i h);have HTB:=aa (fun i=>qD subs i);have HSB:=aa (fun i h=>ot subs i h);have HDB:=aa (fun i h=>yI subs i h);have HF:Hid (gu (subs.take subs.length)=gu subs):=aa (by rw[List.take_length]);have HK:Hid (iM subs≤K):=aa (by omega);have HR:Hid (iO (.mk k x n subs)=gu subs+1):=aa (by rw[iO]);generalize iO (.mk k x n subs)=D at HR⊢;have hlen:subs.length≤1000000:=by have:=im subs;omega
  have S1:Hid (w.Since w.heap.size (w.alloc (.cells #[.int .u8 (k:Nat),.string x,.int .i64 (n:Nat),.slice G subs.length c] 39))):=aa ((ah _ _).alloc (ai _) _);have B1:=aa (aq w (.cells #[.int .u8 (k:Nat),.string x,.int .i64 (n:Nat),.slice G subs.length c] 39));clear hr hs hl hg hK;go_enter func46,ntmps46;go_wp2_with fail;go_loopg[3,4]subs.length(fun gg o3 o4 wr=>∃(i v:Nat),gg=subs.length-i∧i≤subs.length∧o3=.int .i64 (v:Nat)∧o4=.int .i64 (i:Nat)∧Hid (v=gu (subs.take i))∧Hid (w.Since w.heap.size wr)∧Hid (wr.heap[w.heap.size]?=some (.cells #[.int .u8 (k:Nat),.string x,.int .i64 (n:Nat),.slice G subs.length c] 39)));case atStart=>exact⟨0,0,by omega,by omega,rfl,rfl,aa rfl,S1,B1⟩
  case round=>
   obtain⟨i,v,rfl,hi,rfl,rfl,hV,hW,hB⟩:=hrel;obtain⟨-,-,-,p3,-⟩:=ba hB.o;by_cases h1:i<subs.length;·
    obtain⟨b,v0,v1,v2,v3,hG,hb,ht,g0,g1,g2,g3⟩:=HG.o i h1;have hv:v≤1000000:=by rw[hV.o];have:=HTB.o i;have:=HK.o;omega
    have hd:iO subs[i]≤1000000:=by have:=HDB.o i h1;have:=HK.o;omega
    have HVT:Hid (max v (iO subs[i])=gu (subs.take (i+1))):=aa (by rw[HT.o i h1,←hV.o]);have ht2:aY wr A lo subs[i] [v0,v1,v2,v3]:=aY.up ⟨hW.o.size,fun q _ hq _=>hW.o.block q hq⟩ _ _ ht;have K1:=aa (IH.o subs[i] wr _ (by have:=HSB.o i h1;have:=HK.o;omega) ht2);generalize iO subs[i]=d at HVT hd K1;have cc:∀j v,w.cell? ⟨b,j,none⟩=some v→wr.cell? ⟨b,j,none⟩=some v:=fun j v hj=>(az (hW.o.block b hb)).trans hj;have c0:=cc _ _ g0;have c1:=cc _ _ g1;have c2:=cc _ _ g2;have c3:=cc _ _ g3;rw[hG]at p3;have i1:(i:Int)<(subs.length:Int):=by omega
    have z5:IntKind.i64.wrap ((i:Int)+1)=(i:Int)+1:=ax _ (by omega);clear ht ht2 g0 g1 g2 g3 cc hG;go_wp2_with fail;refine K1.o.mono ?_;rintro r0 w3⟨rfl,hs3⟩;have W3:=aa (aZ hW.o hs3);have B3:=aa ((hs3.block w.heap.size (aV hB.o)).trans hB.o);exact JF
   · exact JG
theorem tp:∀(K:Nat)(t:Tm)(w:World)(A:Nat→Prop)(lo:Nat)(cs:List Value),mh t≤K→K≤1000000→aY w A lo t cs→Calls prog 40 #[.agg cs.toArray] w fun E w'=>E=.returned (.int .i64 (iO t:Nat))∧w.Since w.heap.size w'
 |0,.mk k x n subs,w,A,lo,cs,hK,_,_=>by rw[mh]at hK;omega
 |K+1,.mk k x n subs,w,A,lo,cs,hK,hM,h=>by
  have IH:=aa (fun(t:Tm)(w:World)(cs:List Value)h1 h2=>tp K t w A lo cs h1 (by omega) h2);rw[mh]at hK;unfold aY at h;obtain⟨G,c,us,rfl,hr,hs⟩:=h;obtain⟨hl,hg⟩:=qo subs us hs;have HG:Hid (∀i(h:i<subs.length),∃b v0 v1 v2 v3,G=some ⟨b,0,none⟩∧b<w.heap.size∧aY w A lo subs[i] [v0,v1,v2,v3]∧w.cell? ⟨b,i*4,none⟩=some v0∧w.cell? ⟨b,i*4+1,none⟩=some v1∧w.cell? ⟨b,i*4+2,none⟩=some v2∧w.cell? ⟨b,i*4+3,none⟩=some v3):=aa (fun i hi=>by exact JE);have HT:=aa (fun i h=>lB subs i h);have HTB:=aa (fun i=>qD subs i);have HSB:=aa (fun i h=>ot subs i h);have HDB:=aa (fun i h=>yI subs i h);have HF:Hid (gu (subs.take subs.length)=gu subs):=aa (by rw[List.take_length]);have HK:Hid (iM subs≤K):=aa (by omega);have HR:Hid (iO (.mk k x n subs)=gu subs+1):=aa (by rw[iO]);generalize iO (.mk k x n subs)=D at HR⊢;have hlen:subs.length≤1000000:=by have:=im subs;omega
  have S1:Hid (w.Since w.heap.size (w.alloc (.cells #[.int .u8 (k:Nat),.string x,.int .i64 (n:Nat),.slice G subs.length c] 39))):=aa ((ah _ _).alloc (ai _) _);have B1:=aa (aq w (.cells #[.int .u8 (k:Nat),.string x,.int .i64 (n:Nat),.slice G subs.length c] 39));clear hr hs hl hg hK;go_enter func40,ntmps40;obtain⟨-,-,-,y3,-⟩:=ba B1.o;go_wp2_with fail;go_loopg[3,9]subs.length(fun gg o3 o9 wr=>∃(i v:Nat),gg=subs.length-i∧i≤subs.length∧o3=.int .i64 (v:Nat)∧o9=.int .i64 (i:Nat)∧Hid (v=gu (subs.take i))∧Hid (w.Since w.heap.size wr)∧Hid (wr.heap[w.heap.size]?=some (.cells #[.int .u8 (k:Nat),.string x,.int .i64 (n:Nat),.slice G subs.length c] 39)));case atStart=>exact⟨0,0,by omega,by omega,rfl,rfl,aa rfl,S1,B1⟩
  case round=>
   obtain⟨i,v,rfl,hi,rfl,rfl,hV,hW,hB⟩:=hrel;obtain⟨-,-,-,p3,-⟩:=ba hB.o;by_cases h1:i<subs.length;·
    obtain⟨b,v0,v1,v2,v3,hG,hb,ht,g0,g1,g2,g3⟩:=HG.o i h1;obtain⟨k',x',n',G',m',c',ev⟩:=dy ht;cases ev;have hv:v≤1000000:=by rw[hV.o];have:=HTB.o i;have:=HK.o;omega
    have hd:iO subs[i]≤1000000:=by have:=HDB.o i h1;have:=HK.o;omega
    have HVT:Hid (max v (iO subs[i])=gu (subs.take (i+1))):=aa (by rw[HT.o i h1,←hV.o]);have hWa:=hW.o.alloc hW.o.size (.cells #[.int .u8 (k':Nat),.string x',.int .i64 (n':Nat),.slice G' m' c'] 39);have ht2:aY (wr.alloc (.cells #[.int .u8 (k':Nat),.string x',.int .i64 (n':Nat),.slice G' m' c'] 39)) A lo subs[i] [.int .u8 (k':Nat),.string x',.int .i64 (n':Nat),.slice G' m' c']:=aY.up ⟨hWa.size,fun q _ hq _=>hWa.block q hq⟩ _ _ ht;have W2:=aa hWa;have B2:=aa ((aj wr (.cells #[.int .u8 (k':Nat),.string x',.int .i64 (n':Nat),.slice G' m' c'] 39) w.heap.size (aV hB.o)).trans hB.o);have K1:=aa (IH.o subs[i] (wr.alloc (.cells #[.int .u8 (k':Nat),.string x',.int .i64 (n':Nat),.slice G' m' c'] 39)) _ (by have:=HSB.o i h1;have:=HK.o;omega) ht2);generalize iO subs[i]=d at HVT hd K1;have cc:∀j v,w.cell? ⟨b,j,none⟩=some v→wr.cell? ⟨b,j,none⟩=some v:=fun j v hj=>(az (hW.o.block b hb)).trans hj;have c0:=cc _ _ g0;have c1:=cc _ _ g1;have c2:=cc _ _ g2;have c3:=cc _ _ g3;subst hG;have i1:(i:Int)<(subs.length:Int):=by omega
    have z5:IntKind.i64.wrap ((i:Int)+1)=(i:Int)+1:=ax _ (by omega);clear ht ht2 g0 g1 g2 g3 cc hWa;go_wp2_with fail;refine K1.o.mono ?_;rintro r0 w3⟨rfl,hs3⟩;have W3:=aa (aZ W2.o hs3);have B3:=aa ((hs3.block w.heap.size (aV B2.o)).trans B2.o);exact JF
   · exact JG
def fA(x:BA):BA×Nat:=if x=⟨#[119,111,114,100,115]⟩∨x=⟨#[116,97,103,115]⟩∨x=⟨#[104,111,108,101,115]⟩∨x=⟨#[110,117,109,98,101,114,115]⟩then(⟨#[100]⟩,108)else if x=⟨#[116,101,120,116]⟩then(⟨#[100]⟩,115)else if x=⟨#[108,101,110,103,116,104]⟩then(⟨#[100]⟩,110)else if x=⟨#[115,105,122,101]⟩then(⟨#[108]⟩,110)else if x=⟨#[102,105,114,115,116]⟩∨x=⟨#[108,97,115,116]⟩then(⟨#[108]⟩,115)else if x=⟨#[99,111,117,110,116]⟩then(⟨#[108,115]⟩,110)else if x=⟨#[108,111,119,101,114]⟩then(⟨#[115]⟩,115)else if x=⟨#[104,97,115]⟩then(⟨#[100,116]⟩,98)else(⟨#[115,115]⟩,98)
theorem AU{P:Prop}(h:P:=by
 go_enter func183,ntmps183;go_wp2_with fail;exact au (v:=.tuple #[.string ⟨#[100]⟩,.int .u8 108]) (by simp[results,results183,go_sem]) rfl ⟨by rw[HR.o];rfl,rfl⟩):P:=h
theorem JH{P:Prop}(h:P:=by
 go_enter func183,ntmps183;go_wp2_with fail;exact au (v:=.tuple #[.string ⟨#[108]⟩,.int .u8 115]) (by simp[results,results183,go_sem]) rfl ⟨by rw[HR.o];rfl,rfl⟩):P:=h
theorem kF(x:BA)(w:World):Calls prog 183 #[.string x] w fun E w'=>E=.returned (.tuple #[.string (fA x).1,.int .u8 ((fA x).2:Nat)])∧w'=w:=by
 by_cases h1:x=⟨#[119,111,114,100,115]⟩;·subst h1;have HR:Hid (fA ⟨#[119,111,114,100,115]⟩=(⟨#[100]⟩,108)):=aa (by decide);exact AU
 by_cases h2:x=⟨#[116,97,103,115]⟩;·subst h2;have HR:Hid (fA ⟨#[116,97,103,115]⟩=(⟨#[100]⟩,108)):=aa (by decide);exact AU
 by_cases h3:x=⟨#[104,111,108,101,115]⟩;·subst h3;have HR:Hid (fA ⟨#[104,111,108,101,115]⟩=(⟨#[100]⟩,108)):=aa (by decide);exact AU
 by_cases h4:x=⟨#[110,117,109,98,101,114,115]⟩;·subst h4;have HR:Hid (fA ⟨#[110,117,109,98,101,114,115]⟩=(⟨#[100]⟩,108)):=aa (by decide);exact AU
 by_cases h5:x=⟨#[116,101,120,116]⟩;·
  subst h5;have HR:Hid (fA ⟨#[116,101,120,116]⟩=(⟨#[100]⟩,115)):=aa (by decide);go_enter func183,ntmps183;go_wp2_with fail;exact au (v:=.tuple #[.string ⟨#[100]⟩,.int .u8 115]) (by simp[results,results183,go_sem]) rfl ⟨by rw[HR.o];rfl,rfl⟩
 by_cases h6:x=⟨#[108,101,110,103,116,104]⟩;·
  subst h6;have HR:Hid (fA ⟨#[108,101,110,103,116,104]⟩=(⟨#[100]⟩,110)):=aa (by decide);go_enter func183,ntmps183;go_wp2_with fail;exact au (v:=.tuple #[.string ⟨#[100]⟩,.int .u8 110]) (by simp[results,results183,go_sem]) rfl ⟨by rw[HR.o];rfl,rfl⟩
 by_cases h7:x=⟨#[115,105,122,101]⟩;·
  subst h7;have HR:Hid (fA ⟨#[115,105,122,101]⟩=(⟨#[108]⟩,110)):=aa (by decide);go_enter func183,ntmps183;go_wp2_with fail;exact au (v:=.tuple #[.string ⟨#[108]⟩,.int .u8 110]) (by simp[results,results183,go_sem]) rfl ⟨by rw[HR.o];rfl,rfl⟩
 by_cases h8:x=⟨#[102,105,114,115,116]⟩;·subst h8;have HR:Hid (fA ⟨#[102,105,114,115,116]⟩=(⟨#[108]⟩,115)):=aa (by decide);exact JH
 by_cases h9:x=⟨#[108,97,115,116]⟩;·subst h9;have HR:Hid (fA ⟨#[108,97,115,116]⟩=(⟨#[108]⟩,115)):=aa (by decide);exact JH
 by_cases h10:x=⟨#[99,111,117,110,116]⟩;·
  subst h10;have HR:Hid (fA ⟨#[99,111,117,110,116]⟩=(⟨#[108,115]⟩,110)):=aa (by decide);go_enter func183,ntmps183;go_wp2_with fail;exact au (v:=.tuple #[.string ⟨#[108,115]⟩,.int .u8 110]) (by simp[results,results183,go_sem]) rfl ⟨by rw[HR.o];rfl,rfl⟩
 by_cases h11:x=⟨#[108,111,119,101,114]⟩;·
  subst h11;have HR:Hid (fA ⟨#[108,111,119,101,114]⟩=(⟨#[115]⟩,115)):=aa (by decide);go_enter func183,ntmps183;go_wp2_with fail;exact au (v:=.tuple #[.string ⟨#[115]⟩,.int .u8 115]) (by simp[results,results183,go_sem]) rfl ⟨by rw[HR.o];rfl,rfl⟩
 by_cases h12:x=⟨#[104,97,115]⟩;·
  subst h12;have HR:Hid (fA ⟨#[104,97,115]⟩=(⟨#[100,116]⟩,98)):=aa (by decide);go_enter func183,ntmps183;go_wp2_with fail;exact au (v:=.tuple #[.string ⟨#[100,116]⟩,.int .u8 98]) (by simp[results,results183,go_sem]) rfl ⟨by rw[HR.o];rfl,rfl⟩
 have HR:Hid (fA x=(⟨#[115,115]⟩,98)):=aa (by unfold fA;simp only[h1,h2,h3,h4,h5,h6,h7,h8,h9,h10,h11,h12,or_self,if_false]);have b1:=bJ x ⟨#[119,111,114,100,115]⟩;rw[aA h1,show(⟨#[119,111,114,100,115]⟩:BA).toList=[119,111,114,100,115]from by rw[Lib.toList_data]]at b1;have b2:=bJ x ⟨#[116,97,103,115]⟩;rw[aA h2,show(⟨#[116,97,103,115]⟩:BA).toList=[116,97,103,115]from by rw[Lib.toList_data]]at b2;have b3:=bJ x ⟨#[104,111,108,101,115]⟩;rw[aA h3,show(⟨#[104,111,108,101,115]⟩:BA).toList=[104,111,108,101,115]from by rw[Lib.toList_data]]at b3;have b4:=bJ x ⟨#[110,117,109,98,101,114,115]⟩;rw[aA h4,show(⟨#[110,117,109,98,101,114,115]⟩:BA).toList=[110,117,109,98,101,114,115]from by rw[Lib.toList_data]]at b4;have b5:=bJ x ⟨#[116,101,120,116]⟩;rw[aA h5,show(⟨#[116,101,120,116]⟩:BA).toList=[116,101,120,116]from by rw[Lib.toList_data]]at b5;have b6:=bJ x ⟨#[108,101,110,103,116,104]⟩;rw[aA h6,show(⟨#[108,101,110,103,116,104]⟩:BA).toList=[108,101,110,103,116,104]from by rw[Lib.toList_data]]at b6;have b7:=bJ x ⟨#[115,105,122,101]⟩;rw[aA h7,show(⟨#[115,105,122,101]⟩:BA).toList=[115,105,122,101]from by rw[Lib.toList_data]]at b7;have b8:=bJ x ⟨#[102,105,114,115,116]⟩;rw[aA h8,show(⟨#[102,105,114,115,116]⟩:BA).toList=[102,105,114,115,116]from by rw[Lib.toList_data]]at b8;have b9:=bJ x ⟨#[108,97,115,116]⟩;rw[aA h9,show(⟨#[108,97,115,116]⟩:BA).toList=[108,97,115,116]from by rw[Lib.toList_data]]at b9;have b10:=bJ x ⟨#[99,111,117,110,116]⟩;rw[aA h10,show(⟨#[99,111,117,110,116]⟩:BA).toList=[99,111,117,110,116]from by rw[Lib.toList_data]]at b10;have b11:=bJ x ⟨#[108,111,119,101,114]⟩;rw[aA h11,show(⟨#[108,111,119,101,114]⟩:BA).toList=[108,111,119,101,114]from by rw[Lib.toList_data]]at b11;have b12:=bJ x ⟨#[104,97,115]⟩;rw[aA h12,show(⟨#[104,97,115]⟩:BA).toList=[104,97,115]from by rw[Lib.toList_data]]at b12;clear h1 h2 h3 h4 h5 h6 h7 h8 h9 h10 h11 h12;go_enter func183,ntmps183;go_wp2_with fail;exact au (v:=.tuple #[.string ⟨#[115,115]⟩,.int .u8 98]) (by simp[results,results183,go_sem]) rfl ⟨by rw[HR.o];rfl,rfl⟩
