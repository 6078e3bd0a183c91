/- The specification's parser: what all its functions say, by induction on the depth of parse. -/
import Derived.Test.YthbdlnflmfchjaaGreatDoorRS
set_option linter.unusedVariables false
set_option linter.unusedSimpArgs false
namespace Go.Proofs.YthbdlnflmfchjaaGreatDoor
open Go.Proofs.Tryz
open Go.RowKit Go.Proofs.Fm Go.Proofs.MapEnt
set_option maxHeartbeats 3200000
set_option maxRecDepth 1000000
theorem Cv(l:List Wd)(n:Nat):ik lang l n=if bZ l n=108∧lang.test (cJ l n)=true then some (cJ l n)else none:=by
 unfold ik bZ cJ;cases hx:l[n]? with
 |none=>exact(if_neg (fun h=>absurd h.1 (by decide))).symm
 |some x=>
   obtain⟨k,t,p⟩:=x;show(if k=.letters∧lang.test t=true then some t else none)=(if rK ⟨k,t,p⟩=108∧lang.test t=true then some t else none);by_cases hk:k=.letters;·
    subst hk;have e1:rK ⟨.letters,t,p⟩=108:=rfl;by_cases h:lang.test t=true;·exact(if_pos ⟨rfl,h⟩).trans (if_pos ⟨e1,h⟩).symm
    ·exact(if_neg (fun e=>h e.2)).trans (if_neg (fun e=>h e.2)).symm
   ·
    have e1:rK ⟨k,t,p⟩≠108:=by
     cases k with
     |letters=>exact absurd rfl hk
     |sign=>exact(by decide:111≠108)
     |number=>exact(by decide:110≠108)
     |string=>exact(by decide:115≠108)
    exact(if_neg (fun e=>hk e.1)).trans (if_neg (fun e=>e1 e.1)).symm
theorem Hc{l:List Wd}{n:Nat}(h:bZ l n=108):n+1≤l.length:=by
 rcases Nat.lt_or_ge n l.length with h1|h1;·exact h1
 ·unfold bZ at h;rw[aU h1]at h;exact absurd h (by decide)
theorem yC(pb g c e F:Nat)(l:List Wd)(hl:WsOk l)(HU:RFun pb g c e l F 102 #[.pointer (some ⟨pb,0,none⟩)] .unit)(HF:RFun pb g c e l F 43 #[.pointer (some ⟨pb,0,none⟩),.string ⟨#[111,114]⟩] (.several true))(HT:RPart pb g c e l F 179 .term)(HR:RArgsP pb g c e l F)(w:World)(n:Nat)(r:Re)(h:Rs w pb g c l e n (-1))(hr:parse lang l e (F+1) .unit n=some r):Calls prog 102 #[.pointer (some ⟨pb,0,none⟩)] w (dt TermOf cP w pb g c l e r):=by
 have hr2:Fm.step lang l e (parse lang l e F) .unit n=some r:=hr;rw[Fm.step]at hr2;by_cases c1:isW l n sNot=true;·rw[if_pos c1]at hr2;exact Cw pb g c e F l hl HU HF HT HR w n r h c1 hr2
 rw[if_neg c1]at hr2;have c1:=aC.2 c1;by_cases ca:isW l n sAll=true;·rw[ca,Bool.true_or,if_pos rfl]at hr2;exact runit_all pb g c e F l hl HU HF HT HR w n r h c1 ca hr2
 have ca:=aC.2 ca;by_cases cb:isW l n i_=true;·rw[cb,ca,Bool.or_true,if_pos rfl]at hr2;exact Cx pb g c e F l hl HU HF HT HR w n r h c1 ca cb hr2
 have cb:=aC.2 cb;rw[ca,cb,Bool.or_false,if_neg Bool.false_ne_true]at hr2;by_cases c3:isW l n dS=true;·rw[if_pos c3]at hr2;exact yD pb g c e F l hl HU HF HT HR w n r h c1 ca cb c3 hr2
 rw[if_neg c3]at hr2;have c3:=aC.2 c3;rw[Cv]at hr2;by_cases hk:bZ l n=108;·
  by_cases htt:lang.test (cJ l n)=true;·rw[if_pos ⟨hk,htt⟩]at hr2;exact yE pb g c e F l hl HU HF HT HR w n r h c1 ca cb c3 hk _ rfl htt (Hc hk) hr2
  ·rw[if_neg (fun h=>htt h.2)]at hr2;exact th pb g c e F l hl HU HF HT HR w n r h c1 ca cb c3 (.inr ⟨hk,aC.2 htt⟩) hr2
 ·rw[if_neg (fun h=>hk h.1)]at hr2;exact th pb g c e F l hl HU HF HT HR w n r h c1 ca cb c3 (.inl hk) hr2
theorem lA{pb g c e F fn:Nat}{args:Array Value}{l:List Wd}{gl:Gl}(h:RFun pb g c e l F fn args gl)(h1:∀w n r,Rs w pb g c l e n (-1)→parse lang l e (F+1) gl n=some r→Calls prog fn args w (dt TermOf cP w pb g c l e r)):RFun pb g c e l (F+1) fn args gl:=fun f hf w n r hp hr=>by
 rcases Nat.lt_or_ge F f with hlt|hge;·
  obtain rfl:f=F+1:=by omega
  exact h1 w n r hp hr
 ·exact h f hge w n r hp hr
structure PZ(pb g c e:Nat)(l:List Wd)(F:Nat):Prop where
 unit:RFun pb g c e l F 102 #[.pointer (some ⟨pb,0,none⟩)] .unit
 conj:RFun pb g c e l F 43 #[.pointer (some ⟨pb,0,none⟩),.string ⟨#[97,110,100]⟩] (.several false)
 form:RFun pb g c e l F 43 #[.pointer (some ⟨pb,0,none⟩),.string ⟨#[111,114]⟩] (.several true)
 term:RPart pb g c e l F 179 .term
 prod:RPart pb g c e l F 239 .product
 atom:RPart pb g c e l F 287 .atom
 args:RArgsP pb g c e l F
theorem ti(pb g c e:Nat)(l:List Wd)(hl:WsOk l)(hN:uA l):∀F,PZ pb g c e l F
 |0=>by
  have h:∀fn args gl,RFun pb g c e l 0 fn args gl:=fun fn args gl f hf w n r hp hr=>by
   obtain rfl:f=0:=by omega
   cases hr
  refine⟨h _ _ _,h _ _ _,h _ _ _,h _ _ _,h _ _ _,h _ _ _,fun f hf w n r hp hr=>?_⟩;obtain rfl:f=0:=by omega
  cases hr
 |F+1=>by
  have ih:=ti pb g c e l hl hN F;refine⟨lA ih.unit fun w n r hp hr=>yC pb g c e F l hl ih.unit ih.form ih.term ih.args w n r hp hr,lA ih.conj fun w n r hp hr=>uB pb g c e F l hl ih.unit w n r hp hr,lA ih.form fun w n r hp hr=>vS pb g c e F l hl ih.conj w n r hp hr,lA ih.term fun w n r hp hr=>yF pb g c e F l hl ih.prod w n r hp hr,lA ih.prod fun w n r hp hr=>sI pb g c e F l hl ih.atom w n r hp hr,lA ih.atom fun w n r hp hr=>yG pb g c e F l hl hN ih.args w n r hp hr,fun f hf w n r hp hr=>?_⟩;rcases Nat.lt_or_ge F f with hlt|hge;·
   obtain rfl:f=F+1:=by omega
   exact yH pb g c e F l hl ih.term w n r hp hr
  ·exact ih.args f hge w n r hp hr
theorem nc(pb g c e:Nat)(l:List Wd)(hl:WsOk l)(hN:uA l)(w:World)(n f:Nat)(r:Re)(h:Rs w pb g c l e n (-1))(hr:parse lang l e f (.several true) n=some r):Calls prog 43 #[.pointer (some ⟨pb,0,none⟩),.string ⟨#[111,114]⟩] w (dt TermOf cP w pb g c l e r):=(ti pb g c e l hl hN f).form f (ai _) w n r h hr
theorem jF(c:Nat)(w:World):Calls prog 174 #[.int .u8 (c:Nat)] w fun e w'=>e=.returned (.bool (decide (97≤c∧c≤122)))∧w'=w:=by
 go_enter func174,ntmps174;by_cases h1:97≤c;·
  by_cases h2:c≤122;·
   have HD:=aa (aB (aF h1 h2));have i1:(97:Int)≤(c:Int):=by omega
   have i2:(c:Int)≤122:=by omega
   go_wp2_with fail;go_ret;exact⟨by
    first|rfl|
     (rw[HD.o];rfl),rfl⟩
  ·
   have HD:Hid (decide (97≤c∧c≤122)=false):=aa (aA (fun h=>h2 h.2));have i1:(97:Int)≤(c:Int):=by omega
   have i2:¬(c:Int)≤122:=by omega
   go_wp2_with fail;go_ret;exact⟨by
    first|rfl|
     (rw[HD.o];rfl),rfl⟩
 ·
  have HD:Hid (decide (97≤c∧c≤122)=false):=aa (aA (fun h=>h1 h.1));have i1:¬(97:Int)≤(c:Int):=by omega
  go_wp2_with fail;go_ret;exact⟨by
   first|rfl|
    (rw[HD.o];rfl),rfl⟩
theorem kC(c:Nat)(w:World):Calls prog 176 #[.int .u8 (c:Nat)] w fun e w'=>e=.returned (.bool (decide (48≤c∧c≤57)))∧w'=w:=by
 go_enter func176,ntmps176;by_cases h1:48≤c;·
  by_cases h2:c≤57;·
   have HD:=aa (aB (aF h1 h2));have i1:(48:Int)≤(c:Int):=by omega
   have i2:(c:Int)≤57:=by omega
   go_wp2_with fail;go_ret;exact⟨by
    first|rfl|
     (rw[HD.o];rfl),rfl⟩
  ·
   have HD:Hid (decide (48≤c∧c≤57)=false):=aa (aA (fun h=>h2 h.2));have i1:(48:Int)≤(c:Int):=by omega
   have i2:¬(c:Int)≤57:=by omega
   go_wp2_with fail;go_ret;exact⟨by
    first|rfl|
     (rw[HD.o];rfl),rfl⟩
 ·
  have HD:Hid (decide (48≤c∧c≤57)=false):=aa (aA (fun h=>h1 h.1));have i1:¬(48:Int)≤(c:Int):=by omega
  go_wp2_with fail;go_ret;exact⟨by
   first|rfl|
    (rw[HD.o];rfl),rfl⟩
theorem nd(acc s:BA)(i:Nat)(h:i<s.size):acc++s.extract i (i+1)=acc.push s[i]:=by
 apply ByteArray.ext;rw[ByteArray.data_append,ByteArray.data_extract,ByteArray.data_push];apply Array.toList_inj.1;rw[Array.toList_append,Array.toList_extract,Array.toList_push,List.extract_eq_take_drop,Nat.add_sub_cancel_left];have hl:i<s.data.toList.length:=by rw[Array.length_toList];exact h
 rw[aO hl];rfl
def D9(o:Option (BA×Nat)):Value:=match o with
 |some (t,e)=> .tuple #[.string t,.int .i64 (e:Nat)]
 |none=> .tuple #[.string ⟨#[]⟩,.int .i64 (-1)]
theorem Ju{P:Prop}(h:P:=by
 go_wp2_with fail;go_roundg(s.size-(i+1+1));case measure=>omega
 case rel=>
  exact⟨i+1+1,acc.push s[i+1],rfl,by omega,by rw[←HP2.o],by simp,aa (by have:=hA.o;rw[ByteArray.size_push];omega),hR,hW⟩):P:=h
theorem D_{P:Prop}(h:P:=by go_wp2_with fail;refine au (v:=(.tuple #[.string ⟨#[]⟩,.int .i64 (-1)])) (by simp[results,results173,go_sem]) rfl ⟨?_,hW.o⟩;rw[hR.o];rfl):P:=h
theorem vT(s:BA)(at_:Nat)(w:World)(hs:s.size≤100000)(hat:at_<s.size):Calls prog 173 #[.string s,.int .i64 (at_:Nat)] w fun e w'=>e=.returned (D9 (Fm.quoted cU s (at_+1) ByteArray.empty))∧w.Since w.heap.size w':=by
 have HS:=aa (fun(r:Option (BA×Nat))(h:Fm.quoted cU s (at_+1) ByteArray.empty=r)=>h);have z0:IntKind.i64.wrap ((at_:Int)+1)=(at_:Int)+1:=ax _ (by omega);go_enter func173,ntmps173;go_wp2_with fail;go_loopg[6,7](s.size-(at_+1))(fun gg o6 o7 wr=>∃(i:Nat)(acc:BA),gg=s.size-i∧i≤s.size∧o6=.string acc∧o7=.int .i64 (i:Nat)∧Hid (acc.size≤i)∧Hid (Fm.quoted cU s (at_+1) ByteArray.empty=Fm.quoted cU s i acc)∧Hid (w.Since w.heap.size wr));case atStart=>exact⟨at_+1,⟨#[]⟩,rfl,hat,rfl,rfl,aa (aI _),aa rfl,aa (ah _ _)⟩
 case round=>
  obtain⟨i,acc,rfl,hi,rfl,rfl,hA,hE,hW⟩:=hrel;by_cases h1:i<s.size;·
   have i1:(i:Int)<(s.size:Int):=by omega
   have z5:IntKind.i64.wrap ((i:Int)+1)=(i:Int)+1:=ax _ (by omega);have hbt:=bm h1;have hq:Fm.quoted cU s i acc=if s[i].toNat=34 then(if cU acc then some (acc,i+1)else none)else if s[i].toNat=92 then(if h2:i+1<s.size then(if bc s (i+1)=34∨bc s (i+1)=92 then Fm.quoted cU s (i+2) (acc.push s[i+1])else none)else none)else Fm.quoted cU s (i+1) (acc.push s[i]):=by rw[Fm.quoted,dif_pos h1,hbt]
   have HP:=aa (nd acc s i h1);by_cases h2:s[i].toNat=34;·
    rw[if_pos h2]at hq;have b1:(s[i].toNat:Int)=34:=by omega
    cases ht:cU acc with
    |true=>rw[ht]at hq;have hR:=aa (hE.o.trans hq);have K:=aa (fun W=>gS acc W (by have:=hA.o;omega));rw[ht]at K;clear hq h2 ht HP;go_wp2_with fail;refine(K.o _).mono ?_;rintro r0 w2⟨rfl,hs2⟩;have HS2:=aa hs2;clear hs2;go_wp2_with fail;refine au (v:=(.tuple #[.string acc,.int .i64 ((i:Int)+1)])) (by simp[results,results173,go_sem]) rfl ⟨?_,aZ hW.o HS2.o⟩;rw[hR.o];rfl
    |false=>
     rw[ht]at hq;have hR:=aa (hE.o.trans hq);have K:=aa (fun W=>gS acc W (by have:=hA.o;omega));rw[ht]at K;clear hq h2 ht HP;go_wp2_with fail;refine(K.o _).mono ?_;rintro r0 w2⟨rfl,hs2⟩;have HS2:=aa hs2;clear hs2;go_wp2_with fail;refine au (v:=(.tuple #[.string ⟨#[]⟩,.int .i64 (-1)])) (by simp[results,results173,go_sem]) rfl ⟨?_,aZ hW.o HS2.o⟩;rw[hR.o];rfl
   ·
    rw[if_neg h2]at hq;have b1:¬(s[i].toNat:Int)=34:=by omega
    by_cases h3:s[i].toNat=92;·
     have b2:(s[i].toNat:Int)=92:=by omega
     rw[if_pos h3]at hq;clear b1;by_cases h4:i+1<s.size;·
      have i2:(i:Int)+1<(s.size:Int):=by omega
      have i3:¬(i:Int)+1=(s.size:Int):=by omega
      have i4:(0:Int)≤(i:Int)+1:=by omega
      have i5:((i:Int)+1).toNat=i+1:=by omega
      have z6:IntKind.i64.wrap ((i:Int)+1+1)=(i:Int)+1+1:=ax _ (by omega);rw[dif_pos h4,bm h4]at hq;have HP2:=aa (nd acc s (i+1) h4);have a1:acc.size≤i:=hA.o;have HP1:Hid ((s.extract (i+1) (i+1+1)).size≤1):=aa (by rw[ByteArray.size_extract];omega);have c0:(((i:Int)+1)==(s.size:Int))=false:=ae i3;by_cases h5:s[i+1].toNat=34;·
       rw[if_pos (.inl h5)]at hq;have hR:=aa (hE.o.trans hq);have c1:(s[i+1].toNat:Int)=34:=by omega
       clear hq h2 h3 h5 HP;exact Ju
      ·
       by_cases h6:s[i+1].toNat=92;·
        rw[if_pos (.inr h6)]at hq;have hR:=aa (hE.o.trans hq);have c1:(s[i+1].toNat:Int)=92:=by omega
        clear hq h2 h3 h5 h6 HP;exact Ju
       ·
        rw[if_neg (fun h=>h.elim h5 h6)]at hq;have hR:=aa (hE.o.trans hq);have c1:¬(s[i+1].toNat:Int)=34:=by omega
        have c2:¬(s[i+1].toNat:Int)=92:=by omega
        have c3:((s[i+1].toNat:Int)!=34)=true:=bne_iff_ne.2 c1;have c4:((s[i+1].toNat:Int)!=92)=true:=bne_iff_ne.2 c2;clear hq h2 h3 h5 h6 HP;exact D_
     ·
      rw[dif_neg h4]at hq;have hR:=aa (hE.o.trans hq);have i3:(i:Int)+1=(s.size:Int):=by omega
      have c0:(((i:Int)+1)==(s.size:Int))=true:=ag i3;clear hq h2 h3 HP;exact D_
    ·
     have b2:¬(s[i].toNat:Int)=92:=by omega
     rw[if_neg h3]at hq;have hR:=aa (hE.o.trans hq);have a1:acc.size≤i:=hA.o;have HP1:Hid ((s.extract i (i+1)).size≤1):=aa (by rw[ByteArray.size_extract];omega);clear hq h2 h3;go_wp2_with fail;go_roundg(s.size-(i+1));case measure=>omega
     case rel=>
      exact⟨i+1,acc.push s[i],rfl,by omega,by rw[←HP.o],by simp,aa (by have:=hA.o;rw[ByteArray.size_push];omega),hR,hW⟩
  ·
   have hR:=aa (hE.o.trans (by rw[Fm.quoted,dif_neg h1]));have i1:¬(i:Int)<(s.size:Int):=by omega
   exact D_
def iN(s:BA)(i:Nat)(x:BA):Bool:=decide (i+x.size≤s.size)&&decide (s.extract i (i+x.size)=x)
theorem pn{s:BA}{i:Nat}(h:i<s.size):s.extract i (i+1)=⟨#[s[i]]⟩:=by have e:=nd ByteArray.empty s i h;rw[ByteArray.empty_append]at e;rw[e];rfl
theorem vU{s:BA}{i:Nat}(h:i+1<s.size):s.extract i (i+2)=⟨#[s[i],s[i+1]]⟩:=by
 have e1:=pn (s:=s) (i:=i) (by omega);have e2:=nd (s.extract i (i+1)) s (i+1) h;have e3:s.extract i (i+2)=s.extract i (i+1)++s.extract (i+1) (i+2):=by apply ByteArray.ext;rw[ByteArray.data_append,ByteArray.data_extract,ByteArray.data_extract,ByteArray.data_extract,Array.extract_append_extract];congr 1<;>omega
 rw[e3,show i+2=i+1+1 from rfl,e2,e1];rfl
theorem AS(s:BA)(i:Nat)(a:UInt8):iN s i ⟨#[a]⟩=(decide (i<s.size)&&decide (bc s i=a.toNat)):=by
 unfold iN;show(decide (i+1≤s.size)&&decide (s.extract i (i+1)=⟨#[a]⟩))=_;by_cases h:i<s.size;·
  rw[pn h,bm h,aB (show i+1≤s.size from h),aB h];congr 1;apply decide_eq_decide.2;constructor;·intro e;injection e with e;injection e with e;injection e with e;rw[e]
  ·intro e;rw[UInt8.toNat_inj.1 e]
 ·rw[aA (show¬i+1≤s.size from h),aA h];rfl
theorem AT(s:BA)(i:Nat)(a b:UInt8):iN s i ⟨#[a,b]⟩=(decide (i+1<s.size)&&(decide (bc s i=a.toNat)&&decide (bc s (i+1)=b.toNat))):=by
 unfold iN;show(decide (i+2≤s.size)&&decide (s.extract i (i+2)=⟨#[a,b]⟩))=_;by_cases h:i+1<s.size;·
  rw[vU h,bm h,bm (show i<s.size by omega),aB (show i+2≤s.size from h),aB h];congr 1;rw[←Bool.decide_and];apply decide_eq_decide.2;constructor;·intro e;injection e with e;injection e with e;injection e with e e2;injection e2 with e2;exact⟨by rw[e],by rw[e2]⟩
  ·rintro⟨e,e2⟩;rw[UInt8.toNat_inj.1 e,UInt8.toNat_inj.1 e2]
 ·rw[aA (show¬i+2≤s.size from h),aA h];rfl
theorem Jv{P:Prop}(h:P:=by
 by_cases h60:a=60;·subst h60;exact⟨rfl,by decide⟩
 by_cases h62:a=62;·subst h62;exact⟨rfl,by decide⟩
 by_cases h126:a=126;·subst h126;exact⟨rfl,by decide⟩
 by_cases h40:a=40;·subst h40;exact⟨rfl,by decide⟩
 by_cases h41:a=41;·subst h41;exact⟨rfl,by decide⟩
 by_cases h44:a=44;·subst h44;exact⟨rfl,by decide⟩
 by_cases h58:a=58;·subst h58;exact⟨rfl,by decide⟩
 by_cases h43:a=43;·subst h43;exact⟨rfl,by decide⟩
 by_cases h45:a=45;·subst h45;exact⟨rfl,by decide⟩
 by_cases h42:a=42;·subst h42;exact⟨rfl,by decide⟩
 simp[h60,h62,h126,h40,h41,h44,h58,h43,h45,h42]):P:=h
theorem oj(s:BA)(i:Nat)(hi:i<s.size):(∃x,dp.find? (iN s i)=some x∧eW s i=x.size∧s.extract i (i+eW s i)=x∧0<x.size)∨(dp.find? (iN s i)=none∧eW s i=0):=by
 have key:(match dp.find? (iN s i)with|some x=>eW s i=x.size∧0<x.size|none=>eW s i=0):=by
  unfold dp eW;simp only[List.find?_cons,List.find?_nil,AS,AT];have hc:=bm hi;have hp:decide (i<s.size)=true:=aB hi;rw[hp];simp only[Bool.true_and];have u33:UInt8.toNat 33=33:=rfl;have u40:UInt8.toNat 40=40:=rfl;have u41:UInt8.toNat 41=41:=rfl;have u42:UInt8.toNat 42=42:=rfl;have u43:UInt8.toNat 43=43:=rfl;have u44:UInt8.toNat 44=44:=rfl;have u45:UInt8.toNat 45=45:=rfl;have u58:UInt8.toNat 58=58:=rfl;have u60:UInt8.toNat 60=60:=rfl;have u61:UInt8.toNat 61=61:=rfl;have u62:UInt8.toNat 62=62:=rfl;have u126:UInt8.toNat 126=126:=rfl;by_cases hL:i+1<s.size;·
   rw[aB hL];simp only[Bool.true_and,hL,and_true];generalize bc s i=a;generalize bc s (i+1)=b;clear hc hp hL hi;simp only[u33,u40,u41,u42,u43,u44,u45,u58,u60,u61,u62,u126];by_cases hb:b=61;·
    subst hb;by_cases h61:a=61;·subst h61;exact⟨rfl,by decide⟩
    by_cases h33:a=33;·subst h33;exact⟨rfl,by decide⟩
    by_cases h60:a=60;·subst h60;exact⟨rfl,by decide⟩
    by_cases h62:a=62;·subst h62;exact⟨rfl,by decide⟩
    by_cases h126:a=126;·subst h126;exact⟨rfl,by decide⟩
    by_cases h40:a=40;·subst h40;exact⟨rfl,by decide⟩
    by_cases h41:a=41;·subst h41;exact⟨rfl,by decide⟩
    by_cases h44:a=44;·subst h44;exact⟨rfl,by decide⟩
    by_cases h58:a=58;·subst h58;exact⟨rfl,by decide⟩
    by_cases h43:a=43;·subst h43;exact⟨rfl,by decide⟩
    by_cases h45:a=45;·subst h45;exact⟨rfl,by decide⟩
    by_cases h42:a=42;·subst h42;exact⟨rfl,by decide⟩
    simp[h61,h33,h60,h62,h126,h40,h41,h44,h58,h43,h45,h42]
   ·simp only[hb,and_false,if_false,decide_false,Bool.and_false];exact Jv
  ·rw[aA hL];simp only[Bool.false_and,hL,and_false,if_false];generalize bc s i=a;clear hc hp hL hi;simp only[u33,u40,u41,u42,u43,u44,u45,u58,u60,u61,u62,u126];exact Jv
 cases hf:dp.find? (iN s i)with
 |none=>rw[hf]at key;exact .inr ⟨rfl,key⟩
 |some x=>
  rw[hf]at key;have hx:=List.find?_some hf;unfold iN at hx;rw[Bool.and_eq_true,decide_eq_true_eq,decide_eq_true_eq]at hx;exact .inl ⟨x,rfl,key.1,by rw[key.1];exact hx.2,key.2⟩
def eG(o:Option (Wd×Nat))(E:Ending):Prop:=match o with
 |some (x,e)=>E=.returned (.tuple #[.agg #[.int .u8 (rK x:Nat),.string x.text,.int .i64 (x.place:Nat)],.int .i64 (e:Nat)])
 |none=>∃(k p:Int)(x:BA),E=.returned (.tuple #[.agg #[.int .u8 k,.string x,.int .i64 p],.int .i64 (-1)])
abbrev zw:Obj:=.cells #[.int .u8 0,.string ⟨#[]⟩,.int .i64 0] 115
def qn(w wc:World):Prop:=w.Since w.heap.size wc∧wc.heap[w.heap.size]?=some zw
section
variable{w wc w':World}
theorem qn.start(w:World):qn w (w.alloc zw):=⟨(ah _ _).alloc (ai _) _,aq w _⟩
theorem qn.lt(h:qn w wc):w.heap.size<wc.heap.size:=aV h.2
theorem qn.since(h:qn w wc)(hs:wc.Since wc.heap.size w'):qn w w':=⟨aZ h.1 hs,(hs.block _ h.lt).trans h.2⟩
theorem qn.alloc(h:qn w wc)(o:Obj):qn w (wc.alloc o):=h.since ((ah _ _).alloc (ai _) _)
theorem qn.facts(h:qn w wc):wc.cell? ⟨w.heap.size,0,none⟩=some (.int .u8 0)∧wc.cell? ⟨w.heap.size,1,none⟩=some (.string ⟨#[]⟩)∧wc.cell? ⟨w.heap.size,2,none⟩=some (.int .i64 0)∧∀j,wc.frozen? ⟨w.heap.size,j,none⟩=false:=by
 obtain⟨h0,h1,h2⟩:=bp h.2;exact⟨h0,h1,h2,fun j=>by unfold World.frozen?;rw[h.2];simp⟩
theorem qn.fin(h:qn w wc)(a b c:Value):w.Since w.heap.size (((wc.setCell ⟨w.heap.size,0,none⟩ a).setCell ⟨w.heap.size,1,none⟩ b).setCell ⟨w.heap.size,2,none⟩ c):=((h.1.setCell (ai _) _).setCell (ai _) _).setCell (ai _) _
end
theorem vV(s:BA)(i:Nat)(w:World)(hs:s.size≤100000)(hi:i<s.size)(hc:s[i].toNat=34):Calls prog 101 #[.string s,.int .i64 (i:Nat)] w fun E w'=>eG (bN cU lang.kept s i) E∧w.Since w.heap.size w':=by
 have hw:bN cU lang.kept s i=match Fm.quoted cU s (i+1) ByteArray.empty with|some (t,e)=>some (⟨.string,t,i⟩,e)|none=>none:=by unfold bN;simp only[bm hi,hc];rw[if_neg (by decide),if_neg (by decide),if_pos trivial];rfl
 have K:=aa (vT s i (w.alloc zw) hs hi);have I1:=aa (qn.start w);have i1:(i:Int)<(s.size:Int):=by omega
 have b1:(s[i].toNat:Int)=34:=by omega
 cases hq:Fm.quoted cU s (i+1) ByteArray.empty with
 |none=>rw[hq]at hw K;rw[hw];rw[show D9 none=.tuple #[.string ⟨#[]⟩,.int .i64 (-1)]from rfl]at K;clear hw hq hc;go_enter func101,ntmps101;go_wp2_with fail;refine K.o.mono ?_;rintro r0 w2⟨rfl,hs2⟩;have I2:=aa (I1.o.since hs2);obtain⟨q0,q1,q2,q3⟩:=I2.o.facts;clear hs2;go_wp2_with fail;exact au (v:=.tuple #[.agg #[.int .u8 115,.string ⟨#[]⟩,.int .i64 (i:Nat)],.int .i64 (-1)]) (by simp[results,results101,go_sem,q0,q1,q2,q3]) rfl ⟨⟨_,_,_,rfl⟩,I2.o.fin _ _ _⟩
 |some te=>obtain⟨t,e⟩:=te;rw[hq]at hw K;rw[hw];rw[show D9 (some (t,e))=.tuple #[.string t,.int .i64 (e:Nat)]from rfl]at K;clear hw hq hc;go_enter func101,ntmps101;go_wp2_with fail;refine K.o.mono ?_;rintro r0 w2⟨rfl,hs2⟩;have I2:=aa (I1.o.since hs2);obtain⟨q0,q1,q2,q3⟩:=I2.o.facts;clear hs2;go_wp2_with fail;exact au (v:=.tuple #[.agg #[.int .u8 115,.string t,.int .i64 (i:Nat)],.int .i64 (e:Nat)]) (by simp[results,results101,go_sem,q0,q1,q2,q3]) rfl ⟨rfl,I2.o.fin _ _ _⟩
theorem Jw{P:Prop}(h:P:=by
 go_wp2_with fail;obtain rfl:=hE2.o;have s1:(i:Int)≤(j:Int):=by omega
 have s2:(j:Int)≤(s.size:Int):=by omega
 have hX:(s.extract i j).size=j-i:=by rw[ByteArray.size_extract];omega
 have HGood:=HGood;have HBad:=HBad;go_wp2_with fail;generalize s.extract i j=X at*;refine(KK.o X _).mono ?_;rintro r0 w3⟨rfl,hs3⟩;have I3:=aa (hI.o.since hs3);obtain⟨q0,q1,q2,q3⟩:=I3.o.facts;clear hs3;cases hk:lang.kept X with
 |true=>rw[hk]at HGood;go_wp2_with fail;exact au (v:=.tuple #[.agg #[.int .u8 108,.string X,.int .i64 (i:Nat)],.int .i64 (j:Nat)]) (by simp[results,results101,go_sem,q0,q1,q2,q3]) rfl ⟨HGood.o (fun h=>by cases h.2) _ rfl,I3.o.fin _ _ _⟩
 |false=>
  rw[hk]at HGood HBad;by_cases hl:12<X.size;·
   have l1:(12:Int)<(X.size:Int):=by omega
   have HC:Hid (12<j-i):=aa (by omega);go_wp2_with fail;exact au (v:=.tuple #[.agg #[.int .u8 0,.string ⟨#[]⟩,.int .i64 0],.int .i64 (-1)]) (by simp[results,results101,go_sem,q0,q1,q2,q3]) rfl ⟨HBad.o ⟨HC.o,trivial⟩ _ ⟨_,_,_,rfl⟩,I3.o.fin _ _ _⟩
  ·
   have l1:¬(12:Int)<(X.size:Int):=by omega
   have HC:Hid (¬(12<j-i)):=aa (by omega);go_wp2_with fail;exact au (v:=.tuple #[.agg #[.int .u8 108,.string X,.int .i64 (i:Nat)],.int .i64 (j:Nat)]) (by simp[results,results101,go_sem,q0,q1,q2,q3]) rfl ⟨HGood.o (fun h=>HC.o h.1) _ rfl,I3.o.fin _ _ _⟩):P:=h
theorem Jy{P:Prop}(h:P:=by
 rw[←hE.o,dg (fun h=>by have h2':=h.2;rw[bm h1]at h2';exact h2 h2')]):P:=h
theorem uC(s:BA)(i:Nat)(w:World)(hs:s.size≤100000)(hi:i<s.size)(hc:97≤s[i].toNat∧s[i].toNat≤122):Calls prog 101 #[.string s,.int .i64 (i:Nat)] w fun E w'=>eG (bN cU lang.kept s i) E∧w.Since w.heap.size w':=by
 have hw:bN cU lang.kept s i=(if 12<bC s 97 122 i-i∧lang.kept (s.extract i (bC s 97 122 i))=false then none else some (⟨.letters,s.extract i (bC s 97 122 i),i⟩,bC s 97 122 i)):=by unfold bN;simp only[bm hi];rw[if_pos hc]
 have HLe:=aa (d_ s 97 122 i (by omega));have HGe:=aa (dD s 97 122 i);obtain⟨e,he⟩:∃e,bC s 97 122 i=e:=⟨_,rfl⟩;rw[he]at hw HLe HGe;have HE:=aa he;clear he;have HBad:Hid (12<e-i∧lang.kept (s.extract i e)=false→∀E:Ending,(∃(k p:Int)(x:BA),E=Ending.returned (.tuple #[.agg #[.int .u8 k,.string x,.int .i64 p],.int .i64 (-1)]))→eG (bN cU lang.kept s i) E):=aa (fun h E hE=>by rw[hw,if_pos h];exact hE);have HGood:Hid (¬(12<e-i∧lang.kept (s.extract i e)=false)→∀E:Ending,E=.returned (.tuple #[.agg #[.int .u8 108,.string (s.extract i e),.int .i64 (i:Nat)],.int .i64 (e:Nat)])→eG (bN cU lang.kept s i) E):=aa (fun h E hE=>by rw[hw,if_neg h];exact hE);generalize eG (bN cU lang.kept s i)=R at*;have K:=aa (fun(j:Nat)(h:j<s.size)W=>jF s[j].toNat W);have KK:=aa (fun x W=>vW x W);have K1:=aa (jF s[i].toNat (w.alloc zw));rw[aB hc]at K1;have I1:=aa (qn.start w);have i1:(i:Int)<(s.size:Int):=by omega
 have b1:¬(s[i].toNat:Int)=34:=by omega
 clear hw hc;go_enter func101,ntmps101;go_wp2_with fail;refine K1.o.mono ?_;rintro r0 w2⟨rfl,rfl⟩;go_wp2_with fail;go_loopg[6](s.size-i)(fun gg o6 wr=>∃(j:Nat),gg=s.size-j∧i≤j∧j≤s.size∧o6=.int .i64 (j:Nat)∧Hid (bC s 97 122 j=e)∧Hid (qn w wr));case atStart=>exact⟨i,rfl,ai _,by omega,rfl,HE,I1⟩
 case round=>
  obtain⟨j,rfl,hij,hj,rfl,hE,hI⟩:=hrel;by_cases h1:j<s.size;·
   have i2:(j:Int)<(s.size:Int):=by omega
   have z5:IntKind.i64.wrap ((j:Int)+1)=(j:Int)+1:=ax _ (by omega);by_cases h2:97≤s[j].toNat∧s[j].toNat≤122;·
    have K2:=aa (K.o j h1 wr);rw[aB h2]at K2;have hE2:Hid (bC s 97 122 (j+1)=e):=aa (by
     rw[←hE.o,ec (n:=j) ⟨h1,by rw[bm h1];exact h2⟩]);clear h2;go_wp2_with fail;refine K2.o.mono ?_;rintro r0 w2⟨rfl,rfl⟩;go_wp2_with fail;go_roundg(s.size-(j+1));case measure=>omega
    case rel=>exact⟨j+1,rfl,by omega,by omega,by simp,hE2,hI⟩
   ·have K2:=aa (K.o j h1 wr);rw[aA h2]at K2;have hE2:Hid (j=e):=aa (by exact Jy);clear h2;go_wp2_with fail;refine K2.o.mono ?_;rintro r0 w2⟨rfl,rfl⟩;exact Jw
  ·
   have i2:¬(j:Int)<(s.size:Int):=by omega
   have hE2:Hid (j=e):=aa (by rw[←hE.o,dg (fun h=>h1 h.1)]);clear h1;exact Jw
theorem nf(s:BA)(j:Nat):∀(k i v:Nat),j-i=k→i≤j→bh s i (j+1) v=10*bh s i j v+(bc s j-48)
 |0,i,v,hk,h=>by
  obtain rfl:i=j:=by omega
  rw[bh,dif_pos (aG i),bh,dif_neg (by omega),bh,dif_neg (by omega)]
 |k+1,i,v,hk,h=>by
  rw[bh,dif_pos (by omega),nf s j k (i+1) _ (by omega) (by omega)];conv=>rhs;rw[bh,dif_pos (by omega)]
theorem Jz{P:Prop}(h:P:=by
 obtain rfl:=hE2.o;have s1:(i:Int)≤(j:Int):=by omega
 have s2:(j:Int)≤(s.size:Int):=by omega
 obtain⟨q0,q1,q2,q3⟩:=hI.o.facts;by_cases hv:1000000<v;·
  have l1:(1000000:Int)<(v:Int):=by omega
  have HC:Hid (1000000<bh s i j 0):=aa (by have:=HV.o;omega);go_wp2_with fail;exact au (v:=.tuple #[.agg #[.int .u8 0,.string ⟨#[]⟩,.int .i64 0],.int .i64 (-1)]) (by simp[results,results101,go_sem,q0,q1,q2,q3]) rfl ⟨HBad.o (.inl HC.o) _ ⟨_,_,_,rfl⟩,hI.o.fin _ _ _⟩
 ·
  have l1:¬(1000000:Int)<(v:Int):=by omega
  have HC:Hid (¬1000000<bh s i j 0):=aa (by have:=HV.o;omega);by_cases h48:s[i].toNat=48;·
   have c1:(s[i].toNat:Int)=48:=by omega
   have c2:((s[i].toNat:Int)==48)=true:=ag c1;by_cases hl:1<j-i;·
    have l2:(i:Int)+1<(j:Int):=by omega
    have HC2:=aa (aF hl h48);clear hl h48 l1;have l1:decide ((1000000:Int)<(v:Int))=false:=aA (by omega);go_wp2_with fail;exact au (v:=.tuple #[.agg #[.int .u8 0,.string ⟨#[]⟩,.int .i64 0],.int .i64 (-1)]) (by simp[results,results101,go_sem,q0,q1,q2,q3]) rfl ⟨HBad.o (.inr HC2.o) _ ⟨_,_,_,rfl⟩,hI.o.fin _ _ _⟩
   ·
    have l2:¬(i:Int)+1<(j:Int):=by omega
    have HC2:=aa hl;clear hl h48;go_wp2_with fail;exact au (v:=.tuple #[.agg #[.int .u8 110,.string (s.extract i j),.int .i64 (i:Nat)],.int .i64 (j:Nat)]) (by simp[results,results101,go_sem,q0,q1,q2,q3]) rfl ⟨HGood.o (fun h=>h.elim HC.o (fun h=>HC2.o h.1)) _ rfl,hI.o.fin _ _ _⟩
  ·
   have c1:¬(s[i].toNat:Int)=48:=by omega
   have c2:((s[i].toNat:Int)==48)=false:=ae c1;have HC2:=aa h48;clear h48;go_wp2_with fail;exact au (v:=.tuple #[.agg #[.int .u8 110,.string (s.extract i j),.int .i64 (i:Nat)],.int .i64 (j:Nat)]) (by simp[results,results101,go_sem,q0,q1,q2,q3]) rfl ⟨HGood.o (fun h=>h.elim HC.o (fun h=>HC2.o h.2)) _ rfl,hI.o.fin _ _ _⟩):P:=h
theorem vX(s:BA)(i:Nat)(w:World)(hs:s.size≤100000)(hi:i<s.size)(hc:48≤s[i].toNat∧s[i].toNat≤57):Calls prog 101 #[.string s,.int .i64 (i:Nat)] w fun E w'=>eG (bN cU lang.kept s i) E∧w.Since w.heap.size w':=by
 have hn:¬(97≤s[i].toNat∧s[i].toNat≤122):=by omega
 have hw:bN cU lang.kept s i=(if 1000000<bh s i (bC s 48 57 i) 0∨1<bC s 48 57 i-i∧s[i].toNat=48 then none else some (⟨.number,s.extract i (bC s 48 57 i),i⟩,bC s 48 57 i)):=by unfold bN;simp only[bm hi];rw[if_neg hn,if_pos hc]
 have HLe:=aa (d_ s 48 57 i (by omega));obtain⟨e,he⟩:∃e,bC s 48 57 i=e:=⟨_,rfl⟩;rw[he]at hw HLe;have HE:=aa he;clear he;have HBad:Hid ((1000000<bh s i e 0∨1<e-i∧s[i].toNat=48)→∀E:Ending,(∃(k p:Int)(x:BA),E=Ending.returned (.tuple #[.agg #[.int .u8 k,.string x,.int .i64 p],.int .i64 (-1)]))→eG (bN cU lang.kept s i) E):=aa (fun h E hE=>by rw[hw,if_pos h];exact hE);have HGood:Hid (¬(1000000<bh s i e 0∨1<e-i∧s[i].toNat=48)→∀E:Ending,E=.returned (.tuple #[.agg #[.int .u8 110,.string (s.extract i e),.int .i64 (i:Nat)],.int .i64 (e:Nat)])→eG (bN cU lang.kept s i) E):=aa (fun h E hE=>by rw[hw,if_neg h];exact hE);generalize eG (bN cU lang.kept s i)=R at*;have K:=aa (fun(j:Nat)(h:j<s.size)W=>kC s[j].toNat W);have K0:=aa (jF s[i].toNat (w.alloc zw));have K1:=aa (kC s[i].toNat (w.alloc zw));rw[aA hn]at K0;rw[aB hc]at K1;have I1:=aa (qn.start w);have i1:(i:Int)<(s.size:Int):=by omega
 have b1:¬(s[i].toNat:Int)=34:=by omega
 have zi:IntKind.i64.wrap ((i:Int)+1)=(i:Int)+1:=ax _ (by omega);clear hw hc hn;go_enter func101,ntmps101;go_wp2_with fail;refine K0.o.mono ?_;rintro r0 w2⟨rfl,rfl⟩;go_wp2_with fail;refine K1.o.mono ?_;rintro r0 w2⟨rfl,rfl⟩;go_wp2_with fail;go_loopg[6,10](s.size-i)(fun gg o6 o10 wr=>∃(j v:Nat),gg=s.size-j∧i≤j∧j≤s.size∧o6=.int .i64 (j:Nat)∧o10=.int .i64 (v:Nat)∧v≤1000001∧Hid (v=min (bh s i j 0) 1000001)∧Hid (bC s 48 57 j=e)∧Hid (qn w wr));case atStart=>
  exact⟨i,0,rfl,ai _,by omega,rfl,rfl,by omega,aa (by rw[bh,dif_neg (by omega)];rfl),HE,I1⟩
 case round=>
  obtain⟨j,v,rfl,hij,hj,rfl,rfl,hv1,HV,hE,hI⟩:=hrel;by_cases h1:j<s.size;·
   have i2:(j:Int)<(s.size:Int):=by omega
   have z5:IntKind.i64.wrap ((j:Int)+1)=(j:Int)+1:=ax _ (by omega);by_cases h2:48≤s[j].toNat∧s[j].toNat≤57;·
    have K2:=aa (K.o j h1 wr);rw[aB h2]at K2;have hE2:Hid (bC s 48 57 (j+1)=e):=aa (by
     rw[←hE.o,ec (n:=j) ⟨h1,by rw[bm h1];exact h2⟩]);have HV2:Hid (min (10*v+(s[j].toNat-48)) 1000001=min (bh s i (j+1) 0) 1000001):=aa (by rw[nf s j _ i 0 rfl hij,bm h1];have:=HV.o;omega);have z2:IntKind.u8.wrap ((s[j].toNat:Int)-48)=(s[j].toNat:Int)-48:=IntWalk.u8_in _ (by omega);have z3:IntKind.i64.wrap (10*(v:Int))=10*(v:Int):=ax _ (by omega);have z4:IntKind.i64.wrap (10*(v:Int)+((s[j].toNat:Int)-48))=10*(v:Int)+((s[j].toNat:Int)-48):=ax _ (by omega);have HH:=aa h2;clear h2;have HMin:Hid (Value.int .i64 (min (wrap64 (10*(v:Int)+wrap64 ((s[j].toNat:Int)-48))) 1000001)=.int .i64 ((min (10*v+(s[j].toNat-48)) 1000001:Nat):Int)):=aa (by have hh:=HH.o;rw[aR ((s[j].toNat:Int)-48) (by omega),aR (10*(v:Int)+((s[j].toNat:Int)-48)) (by omega)];congr 1;omega);clear z3 z4;go_wp2_with fail;refine K2.o.mono ?_;rintro r0 w2⟨rfl,rfl⟩;go_wp2_with fail;go_roundg(s.size-(j+1));case measure=>omega
    case rel=>exact⟨j+1,_,rfl,by omega,by omega,by simp,HMin.o,by omega,HV2,hE2,hI⟩
   ·have K2:=aa (K.o j h1 wr);rw[aA h2]at K2;have hE2:Hid (j=e):=aa (by exact Jy);clear h2;go_wp2_with fail;refine K2.o.mono ?_;rintro r0 w2⟨rfl,rfl⟩;exact Jz
  ·
   have i2:¬(j:Int)<(s.size:Int):=by omega
   have hE2:Hid (j=e):=aa (by rw[←hE.o,dg (fun h=>h1 h.1)]);clear h1;exact Jz
theorem JA{P:Prop}(h:P:=by
 go_wp2_with fail;go_roundg(14-(n+1));case measure=>omega
 case rel=>exact⟨n+1,rfl,by omega,by simp,HR,I4⟩):P:=h
theorem Cy(s:BA)(i:Nat)(w:World)(hs:s.size≤100000)(hi:i<s.size)(h34:¬s[i].toNat=34)(hn:¬(97≤s[i].toNat∧s[i].toNat≤122))(hc:¬(48≤s[i].toNat∧s[i].toNat≤57)):Calls prog 101 #[.string s,.int .i64 (i:Nat)] w fun E w'=>eG (bN cU lang.kept s i) E∧w.Since w.heap.size w':=by
 have hw:bN cU lang.kept s i=(match dp.find? (iN s i)with|some x=>some (⟨.sign,x,i⟩,i+x.size)|none=>none):=by
  unfold bN;simp only[bm hi];rw[if_neg hn,if_neg hc,if_neg h34];rcases oj s i hi with⟨x,h1,h2,h3,h4⟩|⟨h1,h2⟩;·rw[h1,if_neg (by omega),h3,h2]
  ·rw[h1,if_pos h2]
 have HBad:Hid (dp.find? (iN s i)=none→∀E:Ending,(∃(k p:Int)(x:BA),E=Ending.returned (.tuple #[.agg #[.int .u8 k,.string x,.int .i64 p],.int .i64 (-1)]))→eG (bN cU lang.kept s i) E):=aa (fun h E hE=>by rw[hw,h];exact hE);have HGood:Hid (∀x,dp.find? (iN s i)=some x→∀E:Ending,E=.returned (.tuple #[.agg #[.int .u8 111,.string x,.int .i64 (i:Nat)],.int .i64 ((i+x.size:Nat):Int)])→eG (bN cU lang.kept s i) E):=aa (fun x h E hE=>by rw[hw,h];exact hE);generalize eG (bN cU lang.kept s i)=R at*;have K0:=aa (jF s[i].toNat (w.alloc zw));have K1:=aa (kC s[i].toNat (w.alloc zw));rw[aA hn]at K0;rw[aA hc]at K1;have KS:=aa M6;have HSz:Hid (∀x∈dp,x.size≤2):=aa (by decide);have I1:=aa (qn.start w);have i1:(i:Int)<(s.size:Int):=by omega
 have b1:¬(s[i].toNat:Int)=34:=by omega
 have HLen:Hid (dp.length=14):=aa rfl;clear hw hc hn h34;go_enter func101,ntmps101;go_wp2_with fail;refine K0.o.mono ?_;rintro r0 w2⟨rfl,rfl⟩;go_wp2_with fail;refine K1.o.mono ?_;rintro r0 w2⟨rfl,rfl⟩;go_wp2_with fail;go_loopg[11]14(fun gg o11 wr=>∃(n:Nat),gg=14-n∧n≤14∧o11=.int .i64 (n:Nat)∧Hid ((dp.drop n).find? (iN s i)=dp.find? (iN s i))∧Hid (qn w wr));case atStart=>exact⟨0,rfl,by omega,rfl,aa rfl,I1⟩
 case round=>
  obtain⟨n,rfl,hn,rfl,hE,hI⟩:=hrel;by_cases h1:n<14;·
   have i2:(n:Int)<14:=by omega
   have z5:IntKind.i64.wrap ((n:Int)+1)=(n:Int)+1:=ax _ (by omega);have hl:n<dp.length:=by rw[HLen.o];exact h1
   have hd:(dp.drop n).find? (iN s i)=if iN s i dp[n]=true then some dp[n]else(dp.drop (n+1)).find? (iN s i):=by rw[aO hl,List.find?_cons];cases iN s i dp[n]<;>rfl
   rw[hE.o]at hd;have hsz:=HSz.o _ (List.getElem_mem hl);have hM:∀W b,dc W b dp→W.cell? ⟨b,n,none⟩=some (.string dp[n]):=fun W b h=>h.2 n hl;generalize dp[n]=x at hd hsz hM;have HM:=aa hM;have HD:=aa hd;clear hM hd hl;go_wp2_with fail;refine(KS.o _).mono ?_;rintro r0 w3⟨rfl,hw3⟩;have I3:Hid (qn w w3):=aa (by rw[hw3];exact hI.o.alloc _);clear hw3;go_wp2_with fail;refine(KS.o _).mono ?_;rintro r0 w4⟨rfl,hw4⟩;have I4:Hid (qn w w4):=aa (by rw[hw4];exact I3.o.alloc _);have k0:=HM.o w4 w3.heap.size (by rw[hw4];exact dc.made _ _);obtain⟨q0,q1,q2,q3⟩:=I4.o.facts;have z6:IntKind.i64.wrap ((i:Int)+(x.size:Int))=(i:Int)+(x.size:Int):=ax _ (by omega);clear hw4;by_cases h2:i+x.size≤s.size;·
    have l1:(i:Int)+(x.size:Int)≤(s.size:Int):=by omega
    have l2:(i:Int)≤(i:Int)+(x.size:Int):=by omega
    have l3:(0:Int)≤(i:Int)+(x.size:Int):=by omega
    have l5:((i:Int)+(x.size:Int)).toNat=i+x.size:=by omega
    have hb:=bJ (s.extract i (i+x.size)) x;by_cases h3:s.extract i (i+x.size)=x;·
     rw[aB h3]at hb;have HR:Hid (dp.find? (iN s i)=some x):=aa (by
      rw[HD.o,if_pos (by unfold iN;rw[aB h2,aB h3];rfl)]);clear h3;go_wp2_with fail;exact au (v:=.tuple #[.agg #[.int .u8 111,.string x,.int .i64 (i:Nat)],.int .i64 ((i:Int)+(x.size:Int))]) (by simp[results,results101,go_sem,q0,q1,q2,q3]) rfl ⟨HGood.o x HR.o _ rfl,I4.o.fin _ _ _⟩
    ·rw[aA h3]at hb;have HR:Hid ((dp.drop (n+1)).find? (iN s i)=dp.find? (iN s i)):=aa (by
       rw[HD.o,if_neg (by unfold iN;rw[aA h3,Bool.and_false];exact Bool.false_ne_true)]);clear h3;exact JA
   ·
    have l1:¬(i:Int)+(x.size:Int)≤(s.size:Int):=by omega
    have HR:Hid ((dp.drop (n+1)).find? (iN s i)=dp.find? (iN s i)):=aa (by
     rw[HD.o,if_neg (by unfold iN;rw[aA h2,Bool.false_and];exact Bool.false_ne_true)]);clear h2;exact JA
  ·
   have i2:¬(n:Int)<14:=by omega
   have HR:Hid (dp.find? (iN s i)=none):=aa (by
    rw[←hE.o,List.drop_eq_nil_of_le (by rw[HLen.o];omega)];rfl);go_wp2_with fail;refine(KS.o _).mono ?_;rintro r0 w3⟨rfl,hw3⟩;have I3:Hid (qn w w3):=aa (by rw[hw3];exact hI.o.alloc _);obtain⟨q0,q1,q2,q3⟩:=I3.o.facts;clear hw3;go_wp2_with fail;exact au (v:=.tuple #[.agg #[.int .u8 0,.string ⟨#[]⟩,.int .i64 0],.int .i64 (-1)]) (by simp[results,results101,go_sem,q0,q1,q2,q3]) rfl ⟨HBad.o HR.o _ ⟨_,_,_,rfl⟩,I3.o.fin _ _ _⟩
theorem Cz(s:BA)(i:Nat)(w:World)(hs:s.size≤100000)(hi:i<s.size):Calls prog 101 #[.string s,.int .i64 (i:Nat)] w fun E w'=>eG (bN cU lang.kept s i) E∧w.Since w.heap.size w':=by
 by_cases h1:s[i].toNat=34;·exact vV s i w hs hi h1
 by_cases h2:97≤s[i].toNat∧s[i].toNat≤122;·exact uC s i w hs hi h2
 by_cases h3:48≤s[i].toNat∧s[i].toNat≤57;·exact vX s i w hs hi h3
 exact Cy s i w hs hi h1 h2 h3
theorem Hd:(prog.info? 115).map (fun i=>(i.zero,i.size,i.bytes))=some (some (.agg #[.int .u8 0,.string ByteArray.empty,.int .i64 0]),3,32):=by kernel_rfl
theorem cZ{w w':World}{base:Nat}{e:TypeId}{size n:Nat}{v:Value}{xs:List Value}(h:w.ownsRow base e size v n xs)(hb:∀k,v.ownBlock=some k→k<w.heap.size→w'.heap[k]?=w.heap[k]?):w'.ownsRow base e size v n xs:=by
 obtain⟨h1,⟨e1,e2⟩|⟨g,cp,cur,rfl,h2,h3,h4⟩⟩:=h;·exact⟨h1,.inl ⟨e1,e2⟩⟩
 ·exact⟨h1,.inr ⟨g,cp,cur,rfl,h2,(hb g rfl (aV h3)).trans h3,h4⟩⟩
theorem oo{w:World}{base:Nat}{e:TypeId}{size n:Nat}{v:Value}{xs:List Value}(h:w.ownsRow base e size v n xs):∀k,v.ownBlock=some k→base≤k:=by
 obtain⟨_,⟨e1,_⟩|⟨g,cp,cur,rfl,h2,_⟩⟩:=h;·intro k hk;rw[e1]at hk;cases hk
 ·intro k hk;rw[show(Value.slice (some ⟨g,0,none⟩) n cp).ownBlock=some g from rfl]at hk;rw[←Option.some.inj hk];exact h2
theorem JB{P:Prop}(h:P:=by
 obtain⟨_,⟨_,e⟩|⟨g',cp,cur,e,h2,h3,_⟩⟩:=r2;·omega
 ·exact⟨g',cp,e,h2,(aE.1 h3).1⟩):P:=h
theorem vY(W:World)(base:Nat)(G:Option Addr)(cu cap:Nat)(us:List Value)(hO:W.ownsRow base 115 3 (.slice G cu cap) cu us)(k:Nat)(x:BA)(p:Nat)(hn:cu+1≤200000)(hbase:base≤W.heap.size):∃v' w6 g' cap',(Builtin.append_ #[107,107] 107 #[.slice G cu cap,.slice (some ⟨W.heap.size,0,none⟩) 1 1]).run prog (W.alloc (.cells #[.int .u8 (k:Nat),.string x,.int .i64 (p:Nat)] 115))=.ok v' w6∧v'=.slice (some ⟨g',0,none⟩) (cu+1) cap'∧base≤g'∧g'<w6.heap.size∧Hid (w6.ownsRow base 115 3 (.slice (some ⟨g',0,none⟩) (cu+1) cap') (cu+1) (us++[.int .u8 (k:Nat),.string x,.int .i64 (p:Nat)]))∧Hid (W.Since base w6):=by
 have hO4:=cZ (w':=W.alloc (.cells #[.int .u8 (k:Nat),.string x,.int .i64 (p:Nat)] 115)) hO (fun q _ hq=>aj W _ q hq);obtain⟨h0,h1,h2⟩:=bp (aq W (.cells #[.int .u8 (k:Nat),.string x,.int .i64 (p:Nat)] 115));obtain⟨i0,hi,hz0,hz1,hz2⟩:=info_parts Hd;obtain⟨v',w',r1,r2,r3,_,r4⟩:=run_append_own_at (P:=prog) (w:=W.alloc (.cells #[.int .u8 (k:Nat),.string x,.int .i64 (p:Nat)] 115)) base 107 107 115 i0 (.agg #[.int .u8 0,.string ByteArray.empty,.int .i64 0]) 3 32 underlying107 hi hz0 hz1 hz2 rfl (by decide) _ cu us hO4 ⟨W.heap.size,0,none⟩ 1 1 [.int .u8 (k:Nat),.string x,.int .i64 (p:Nat)] rfl (fun j u hu=>by
  match j,hu with
  |0,hu=>cases hu;exact h0
  |1,hu=>cases hu;exact h1
  |2,hu=>cases hu;exact h2
  |j+3,hu=>cases hu) (fun u hu=>by simp only[List.mem_cons,aS,or_false]at hu;rcases hu with rfl|rfl|rfl<;>rfl) (by simp only[maxLen];omega) (by omega) (by simp;omega);obtain⟨g',cap',rfl,hg1,hg2⟩:∃g' cap',v'=.slice (some ⟨g',0,none⟩) (cu+1) cap'∧base≤g'∧g'<w'.heap.size:=by exact JB
 exact⟨_,w',g',cap',r1,rfl,hg1,hg2,aa r2,aa (((ah base W).alloc hbase _).grown r3 (by simp;omega) (fun q hq=>oo hO q hq))⟩
theorem JC{P:Prop}(h:P:=by unfold Oper.wp execOp;simp only[ho,ht,resolve,invoke,builtin,Sem.run_bind,Sem.run_pure,Result.andThen_ok,List.map_toArray,List.map_cons,List.map_nil,hs,hx,hr];exact h):P:=h
theorem sJ{o:Oper}{a:Act}{w w':World}{K:Act→World→Prop}{Q:Exit→Act→World→Prop}(s x:Operand)(ho:o.op=.call {callee:=.builtin .append,args:=#[s,x],argTypes:=#[107,107]})(ht:o.type=107){v v' xv:Value}(hs:a.eval s=v)(hx:a.eval x=xv)(hr:(Builtin.append_ #[107,107] 107 #[v,xv]).run prog w=.ok v' w')(h:K (a.put o.dst v') w'):Oper.wp prog o a w K Q:=by exact JC
theorem jZ{ops:Array Oper}{rest:List Oper}{o:Oper}{a:Act}{w w':World}{Q:Exit→Act→World→Prop}(hg:o.guard=none)(s x:Operand)(ho:o.op=.call {callee:=.builtin .append,args:=#[s,x],argTypes:=#[107,107]})(ht:o.type=107){v v' xv:Value}(hs:a.eval s=v)(hx:a.eval x=xv)(hr:(Builtin.append_ #[107,107] 107 #[v,xv]).run prog w=.ok v' w')(h:wpList prog ops Q rest (a.put o.dst v') w'):wpList prog ops Q (o::rest) a w:=wpList_plain hg fun _ hK=>sJ s x ho ht hs hx hr (hK _ _ h)
def jk:List Wd→List Value
 |[]=>[]
 |x::l=> .int .u8 (rK x:Nat):: .string x.text:: .int .i64 (x.place:Nat)::jk l
theorem qB(x:Wd):∀l:List Wd,jk (l++[x])=jk l++[.int .u8 (rK x:Nat),.string x.text,.int .i64 (x.place:Nat)]
 |[]=>rfl
 |y::l=>by rw[List.cons_append,jk,jk,qB x l];rfl
theorem tj(e:Nat):∀(l:List Wd)(i:Nat),i≤l.length→(jk l++[.int .u8 ((101:Nat):Int),.string ByteArray.empty,.int .i64 (e:Nat)])[i*3]?=some (.int .u8 (bZ l i:Nat))∧(jk l++[.int .u8 ((101:Nat):Int),.string ByteArray.empty,.int .i64 (e:Nat)])[i*3+1]?=some (.string (cJ l i))∧(jk l++[.int .u8 ((101:Nat):Int),.string ByteArray.empty,.int .i64 (e:Nat)])[i*3+2]?=some (.int .i64 (aW l e i:Nat))
 |[],i,h=>by
  obtain rfl:i=0:=by simpa using h
  exact⟨rfl,rfl,rfl⟩
 |x::l,0,h=>⟨rfl,rfl,rfl⟩
 |x::l,i+1,h=>by
  obtain⟨h0,h1,h2⟩:=tj e l i (by simpa using h);have e0:(i+1)*3=i*3+1+1+1:=by omega
  have e1:i*3+1+1+1+1=(i*3+1)+1+1+1:=rfl;refine⟨?_,?_,?_⟩;·rw[e0,jk];exact h0
  ·rw[e0,jk];exact h1
  ·rw[e0,jk];exact h2
theorem cG{ts e:TypeId}{size bytes:Nat}{z:Value}(ht:prog.underlying ts=some (.slice e))(hinfo:(prog.info? e).map (fun i=>(i.zero,i.size,i.bytes))=some (some z,size,bytes))(hz:z.cells.size=size)(hs0:0<size)(hb:bytes≤1000)(W:World)(base:Nat)(G:Option Addr)(cu cap:Nat)(us news:List Value)(hO:W.ownsRow base e size (.slice G cu cap) cu us)(hl:news.length=size)(h1:∀u∈news,u.oneCell'=true)(hn:cu+1≤200000)(hbase:base≤W.heap.size):∃v' w6 g' cap',(Builtin.append_ #[ts,ts] ts #[.slice G cu cap,.slice (some ⟨W.heap.size,0,none⟩) 1 1]).run prog (W.alloc (.cells news.toArray e))=.ok v' w6∧v'=.slice (some ⟨g',0,none⟩) (cu+1) cap'∧base≤g'∧g'<w6.heap.size∧Hid (w6.ownsRow base e size (.slice (some ⟨g',0,none⟩) (cu+1) cap') (cu+1) (us++news))∧Hid (W.Since base w6)∧Hid (∀k,k<W.heap.size→G.map (·.block)≠some k→w6.heap[k]?=W.heap[k]?):=by
 have hO4:=cZ (w':=W.alloc (.cells news.toArray e)) hO (fun q _ hq=>aj W _ q hq);obtain⟨i0,hi,hz0,hz1,hz2⟩:=info_parts hinfo;obtain⟨v',w',r1,r2,r3,_,r4⟩:=run_append_own_at (P:=prog) (w:=W.alloc (.cells news.toArray e)) base ts ts e i0 z size bytes ht hi hz0 hz1 hz2 hz hs0 _ cu us hO4 ⟨W.heap.size,0,none⟩ 1 1 news (by omega) (fun j u hu=>by
  have e1:((⟨W.heap.size,0,none⟩:Addr).add j)=⟨W.heap.size,j,none⟩:=by unfold Addr.add;split<;>simp_all
  rw[e1];unfold World.cell?;rw[aq];simpa using hu) h1 (by simp only[maxLen];omega) (by have:=Nat.mul_le_mul hn hb;omega) (by simp;omega);obtain⟨g',cap',rfl,hg1,hg2⟩:∃g' cap',v'=.slice (some ⟨g',0,none⟩) (cu+1) cap'∧base≤g'∧g'<w'.heap.size:=by exact JB
 refine⟨_,w',g',cap',r1,rfl,hg1,hg2,aa r2,aa (((ah base W).alloc hbase _).grown r3 (by simp;omega) (fun q hq=>oo hO q hq)),aa (fun k hk hne=>?_)⟩;refine(r3.block k (by simp;omega) (fun h=>hne ?_)).trans (aj W _ k hk);rcases hO.2 with⟨e2,_⟩|⟨g,cp,cur,e2,_⟩;·rw[e2]at h;cases h
 ·injection e2 with e2 _ _;subst e2;exact h.symm
theorem mf{ts:TypeId}{o:Oper}{a:Act}{w w':World}{K:Act→World→Prop}{Q:Exit→Act→World→Prop}(s x:Operand)(ho:o.op=.call {callee:=.builtin .append,args:=#[s,x],argTypes:=#[ts,ts]})(ht:o.type=ts){v v' xv:Value}(hs:a.eval s=v)(hx:a.eval x=xv)(hr:(Builtin.append_ #[ts,ts] ts #[v,xv]).run prog w=.ok v' w')(h:K (a.put o.dst v') w'):Oper.wp prog o a w K Q:=by exact JC
theorem cV{ts:TypeId}{ops:Array Oper}{rest:List Oper}{o:Oper}{a:Act}{w w':World}{Q:Exit→Act→World→Prop}(hg:o.guard=none)(s x:Operand)(ho:o.op=.call {callee:=.builtin .append,args:=#[s,x],argTypes:=#[ts,ts]})(ht:o.type=ts){v v' xv:Value}(hs:a.eval s=v)(hx:a.eval x=xv)(hr:(Builtin.append_ #[ts,ts] ts #[v,xv]).run prog w=.ok v' w')(h:wpList prog ops Q rest (a.put o.dst v') w'):wpList prog ops Q (o::rest) a w:=wpList_plain hg fun _ hK=>mf s x ho ht hs hx hr (hK _ _ h)
