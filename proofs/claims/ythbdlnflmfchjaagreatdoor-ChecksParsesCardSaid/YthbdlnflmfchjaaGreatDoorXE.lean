/- Same: the specification's walked. -/
import Derived.Test.YthbdlnflmfchjaaGreatDoorLA
set_option linter.unusedVariables false
set_option linter.unusedSimpArgs false
namespace Go.Proofs.YthbdlnflmfchjaaGreatDoor
open Go.Proofs.Tryz
open Go.RowKit Go.Proofs.Fm Go.Proofs.MapEnt
set_option maxHeartbeats 3200000
set_option maxRecDepth 1000000
theorem Gj(k k':Nat)(x x':BA)(n n':Int)(subs subs':List Tz):yB (.mk k x n subs) (.mk k' x' n' subs')=(decide (k=k')&&decide (x=x')&&decide (n=n')&&gK subs subs'):=by rw[yB]
theorem ym:∀{ts us:List Tz},ts.length≠us.length→gK ts us=false:=fun{ts us}h=>by
 cases he:gK ts us with
 |false=>rfl
 |true=>exact absurd (congrArg List.length ((rI ts us).1 he)) h
theorem uv{ts us:List Tz}{i:Nat}(h1:i<ts.length)(h2:i<us.length):gK (ts.drop i) (us.drop i)=(yB ts[i] us[i]&&gK (ts.drop (i+1)) (us.drop (i+1))):=by rw[aO h1,aO h2,gK]
theorem yn{ts us:List Tz}{i:Nat}(h:ts.length=us.length)(h1:¬i<ts.length):gK (ts.drop i) (us.drop i)=true:=by rw[List.drop_of_length_le (by omega),List.drop_of_length_le (by omega),gK]
theorem Cl{P:Prop}(h:P:=by
 go_enter func19,ntmps19;go_wp2_with fail;go_ret;exact⟨by rw[hR.o];rfl,S1.o⟩):P:=h
theorem jV:∀(K:Nat)(t u:Tz)(w:World)(cs ds:List Value),wtZ t≤K→K≤1000000→TzAt w t cs→TzAt w u ds→Calls prog 19 #[.agg cs.toArray,.agg ds.toArray] w fun E w'=>E=.returned (.bool (yB t u))∧w.Since w.heap.size w'
 |0,.mk k x n subs,u,w,cs,ds,hK,_,_,_=>by rw[wtZ]at hK;omega
 |K+1,.mk k x n subs,.mk k' x' n' subs',w,cs,ds,hK,hM,h,h'=>by
   have IH:=aa (fun(t u:Tz)(w:World)(cs ds:List Value)h1 h2 h3=>jV K t u w cs ds h1 (by omega) h2 h3);rw[wtZ]at hK;unfold TzAt at h h';obtain⟨G,c,us,rfl,_,hr,hs⟩:=h;obtain⟨G',c',us',rfl,_,hr',hs'⟩:=h';have HG:=aa (fun i h=>fJ hr hs i h);have HG':=aa (fun i h=>fJ hr' hs' i h);have HSB:=aa (fun i h=>gp subs i h);have HK:Hid (dH subs≤K):=aa (by omega);have HR:=aa (Gj k k' x x' n n' subs subs');have hlen:subs.length≤1000000:=by have:=fv subs;omega
   generalize yB (.mk k x n subs) (.mk k' x' n' subs')=R at HR⊢;have S1:Hid (w.Since w.heap.size ((w.alloc (.cells #[.int .u8 (k:Nat),.string x,.int .i64 n,.slice G subs.length c] 39)).alloc (.cells #[.int .u8 (k':Nat),.string x',.int .i64 n',.slice G' subs'.length c'] 39))):=aa (((ah _ _).alloc (ai _) _).alloc (by simp) _);have B1:=aa ((aj (w.alloc (.cells #[.int .u8 (k:Nat),.string x,.int .i64 n,.slice G subs.length c] 39)) (.cells #[.int .u8 (k':Nat),.string x',.int .i64 n',.slice G' subs'.length c'] 39) w.heap.size (by simp)).trans (aq w (.cells #[.int .u8 (k:Nat),.string x,.int .i64 n,.slice G subs.length c] 39)));have B2:=aa (aq (w.alloc (.cells #[.int .u8 (k:Nat),.string x,.int .i64 n,.slice G subs.length c] 39)) (.cells #[.int .u8 (k':Nat),.string x',.int .i64 n',.slice G' subs'.length c'] 39));rw[World.size_alloc]at B2;obtain⟨-,-,-,y3,-⟩:=ba B1.o;obtain⟨-,-,-,y4,-⟩:=ba B2.o;clear hr hs hr' hs' hK;by_cases q1:k=k';·
    by_cases q2:x=x';·
     by_cases q3:n=n';·
      by_cases q4:subs.length=subs'.length;·
       have f1:((k:Int)!=(k':Int))=false:=by subst q1;simp
       have f2:(x.toList==x'.toList)=true:=by subst q2;exact beq_self_eq_true _
       have f3:(n !=n')=false:=by subst q3;simp
       have f4:((subs.length:Int)!=(subs'.length:Int))=false:=by rw[q4];simp
       have hR:Hid (R=gK (subs.drop 0) (subs'.drop 0)):=aa (by rw[HR.o,aB q1,aB q2,aB q3];simp);have HL:=aa q4;clear q1 q2 q3 q4 HR;go_enter func19,ntmps19;go_wp2_with fail;go_loopg[5]subs.length(fun gg o5 wr=>∃(i:Nat),gg=subs.length-i∧i≤subs.length∧o5=.int .i64 (i:Nat)∧Hid (R=gK (subs.drop i) (subs'.drop i))∧Hid (w.Since w.heap.size wr)∧Hid (wr.heap[w.heap.size]?=some (.cells #[.int .u8 (k:Nat),.string x,.int .i64 n,.slice G subs.length c] 39))∧Hid (wr.heap[w.heap.size+1]?=some (.cells #[.int .u8 (k':Nat),.string x',.int .i64 n',.slice G' subs'.length c'] 39)));case atStart=>exact⟨0,by omega,by omega,rfl,hR,S1,B1,B2⟩
       case round=>
        obtain⟨i,rfl,hi,rfl,hE,hW,hB,hB'⟩:=hrel;obtain⟨-,-,-,p3,-⟩:=ba hB.o;obtain⟨-,-,-,p4,-⟩:=ba hB'.o;by_cases h1:i<subs.length;·
         have h2:i<subs'.length:=by have:=HL.o;omega
         obtain⟨a,k1,x1,n1,G1,m1,c1,hG1,ha,ht1,g0,g1,g2,g3⟩:=HG.o i h1;obtain⟨a',k2,x2,n2,G2,m2,c2,hG2,ha',ht2,g0',g1',g2',g3'⟩:=HG'.o i h2;have hS:wr.Since wr.heap.size wr.drew:=(ah _ _).drew;have HT1:=aa (TzAt.up ⟨hW.o.os,hW.o.tape,hW.o.output,hW.o.size,hW.o.block⟩ _ _ ht1);have HT2:=aa (TzAt.up ⟨hW.o.os,hW.o.tape,hW.o.output,hW.o.size,hW.o.block⟩ _ _ ht2);have KI:=aa (fun W(h:wr.Since wr.heap.size W)=>IH.o subs[i] subs'[i] W _ _ (by have:=HSB.o i h1;have:=HK.o;omega) (TzAt.up h _ _ HT1.o) (TzAt.up h _ _ HT2.o));have hE2:=aa (hE.o.trans (uv h1 h2));obtain⟨cc,cd⟩:=cI hW.o ha (i*4);obtain⟨cc',cd'⟩:=cI hW.o ha' (i*4);have d0:=cc _ g0;have d1:=cd _ _ g1;have d2:=cd _ _ g2;have d3:=cd _ _ g3;have e0:=cc' _ g0';have e1:=cd' _ _ g1';have e2:=cd' _ _ g2';have e3:=cd' _ _ g3';have i1:(i:Int)<(subs.length:Int):=by omega
         have i2:(i:Int)<(subs'.length:Int):=by omega
         have z5:IntKind.i64.wrap ((i:Int)+1)=(i:Int)+1:=ax _ (by omega);generalize yB subs[i] subs'[i]=q at*;subst hG1 hG2;clear ht1 ht2 g0 g1 g2 g3 g0' g1' g2' g3' cc cc' cd cd' hS HT1 HT2;go_wp2_with fail;have HL0:Hid (w.heap.size<wr.heap.size∧w.heap.size+1<wr.heap.size):=aa ⟨aV hB.o,aV hB'.o⟩;have HLa:Hid (a.block<wr.heap.size∧a'.block<wr.heap.size):=aa (by have:=hW.o.size;exact⟨by omega,by omega⟩);have HS0:Hid (wr.Since wr.heap.size wr.drew):=aa ((ah _ _).drew);have HA:=aa (aF p3 (aF p4 (aF d0 (aF d1 (aF d2 (aF d3 (aF e0 (aF e1 (aF e2 e3)))))))));go_region_held3(fun w'=>w'.cell? ⟨w.heap.size,3,none⟩=some (.slice (some a) subs.length c)∧w'.cell? ⟨w.heap.size+1,3,none⟩=some (.slice (some a') subs'.length c')∧w'.cell? (a.add (i*4))=some (.int .u8 (k1:Nat))∧w'.cell? ⟨(a.add (i*4)).block,(a.add (i*4)).off+1,none⟩=some (.string x1)∧w'.cell? ⟨(a.add (i*4)).block,(a.add (i*4)).off+2,none⟩=some (.int .i64 n1)∧w'.cell? ⟨(a.add (i*4)).block,(a.add (i*4)).off+3,none⟩=some (.slice G1 m1 c1)∧w'.cell? (a'.add (i*4))=some (.int .u8 (k2:Nat))∧w'.cell? ⟨(a'.add (i*4)).block,(a'.add (i*4)).off+1,none⟩=some (.string x2)∧w'.cell? ⟨(a'.add (i*4)).block,(a'.add (i*4)).off+2,none⟩=some (.int .i64 n2)∧w'.cell? ⟨(a'.add (i*4)).block,(a'.add (i*4)).off+3,none⟩=some (.slice G2 m2 c2))(first|exact HA.o|exact HA3.o)((go_at_call 19;refine(KI.o _ HS0.o).mono ?_;rintro r0 w3⟨rfl,hs3⟩;have W3:=aa (aZ HS0.o hs3);have HA3:=aa (aF ((W3.o.cell (a:=⟨w.heap.size,3,none⟩) HL0.o.1).trans HA.o.1) (aF ((W3.o.cell (a:=⟨w.heap.size+1,3,none⟩) HL0.o.2).trans HA.o.2.1) (aF ((cI W3.o HLa.o.1 _).1 _ HA.o.2.2.1) (aF ((cI W3.o HLa.o.1 _).2 _ _ HA.o.2.2.2.1) (aF ((cI W3.o HLa.o.1 _).2 _ _ HA.o.2.2.2.2.1) (aF ((cI W3.o HLa.o.1 _).2 _ _ HA.o.2.2.2.2.2.1) (aF ((cI W3.o HLa.o.2 _).1 _ HA.o.2.2.2.2.2.2.1) (aF ((cI W3.o HLa.o.2 _).2 _ _ HA.o.2.2.2.2.2.2.2.1) (aF ((cI W3.o HLa.o.2 _).2 _ _ HA.o.2.2.2.2.2.2.2.2.1) ((cI W3.o HLa.o.2 _).2 _ _ HA.o.2.2.2.2.2.2.2.2.2))))))))));clear hs3));have W3':=aa (aZ hW.o W3.o);have B3:=aa ((W3.o.block w.heap.size HL0.o.1).trans hB.o);have B3':=aa ((W3.o.block (w.heap.size+1) HL0.o.2).trans hB'.o);cases q with
         |false=>
          have hR2:Hid (R=false):=aa (by rw[hE2.o];rfl);go_wp2_with fail;go_ret;exact⟨by rw[hR2.o];rfl,W3'.o⟩
         |true=>
          have hE3:Hid (R=gK (subs.drop (i+1)) (subs'.drop (i+1))):=aa (by rw[hE2.o];rfl);go_wp2_with fail;go_roundg(subs.length-(i+1));case measure=>omega
          case rel=>exact⟨i+1,rfl,by omega,by simp,hE3,W3',B3,B3'⟩
        ·
         have i1:¬(i:Int)<(subs.length:Int):=by omega
         have hR2:Hid (R=true):=aa (hE.o.trans (yn HL.o h1));go_wp2_with fail;go_ret;exact⟨by rw[hR2.o];rfl,hW.o⟩
      ·
       have hR:Hid (R=false):=aa (by rw[HR.o,ym q4];simp);have f1:((k:Int)!=(k':Int))=false:=by subst q1;simp
       have f2:(x.toList==x'.toList)=true:=by subst q2;exact beq_self_eq_true _
       have f3:(n !=n')=false:=by subst q3;simp
       have f4:((subs.length:Int)!=(subs'.length:Int))=true:=bne_iff_ne.2 (by omega);clear q1 q2 q3 q4 HR;exact Cl
     ·
      have hR:Hid (R=false):=aa (by rw[HR.o,aA q3];simp);have f1:((k:Int)!=(k':Int))=false:=by subst q1;simp
      have f2:(x.toList==x'.toList)=true:=by subst q2;exact beq_self_eq_true _
      have f3:(n !=n')=true:=bne_iff_ne.2 q3;clear q1 q2 q3 HR;exact Cl
    ·
     have hR:Hid (R=false):=aa (by rw[HR.o,aA q2];simp);have f1:((k:Int)!=(k':Int))=false:=by subst q1;simp
     have f2:(x.toList==x'.toList)=false:=by rw[bJ,aA q2]
     clear q1 q2 HR;exact Cl
   ·have hR:Hid (R=false):=aa (by rw[HR.o,aA q1];simp);have f1:((k:Int)!=(k':Int))=true:=bne_iff_ne.2 (by omega);clear q1 HR;exact Cl
theorem er(x y:BA):an (x++y)=an x++an y:=by unfold an;rw[ByteArray.data_append];simp
theorem dZ{x y:BA}(h:an x=an y):x=y:=by rw[←wi x,h,wi]
theorem so(l:List UInt8):(ofBytes l).size=l.length:=rfl
theorem fN(a:Array UInt8):an ⟨a⟩=a.toList:=rfl
def FormC(K:Nat):Prop:=∀(t:Tz)(w:World)(cs:List Value),wtZ t≤K→shZ t=true→TzAt w t cs→Calls prog 51 #[.agg cs.toArray] w fun E w'=>E=.returned (.string (ofBytes (fr t)))∧w.Since w.heap.size w'
theorem Gk(k kt:Nat):gW (bK k) kt=(decide (kt=14)||(decide (kt=13)&&decide (k≠14))):=by unfold gW bK;by_cases h:k=14<;>simp[h]
theorem Mf{P:Prop}(h:P:=by
 have f2:((kt:Int)==13)=false:=ae (by omega);clear q q1;go_wp2_with fail;go_ret;exact⟨by rw[←HR.o];rfl,S2.o⟩):P:=h
theorem yo(K:Nat)(hM:K≤1000000)(IH:FormC K)(k:Nat)(t:Tz)(w:World)(cs:List Value)(hK:wtZ t≤K)(hs:shZ t=true)(ht:TzAt w t cs):Calls prog 194 #[.int .u8 (k:Nat),.agg cs.toArray] w fun E w'=>E=.returned (.string (ofBytes (cL (bK k) (eK t) (fr t))))∧w.Since w.heap.size w':=by
 obtain⟨kt,x,n,subs⟩:=t;have hl:=vh _ _ ht hs;have ht0:=ht;unfold TzAt at ht;obtain⟨G,c,us,rfl,_,_,_⟩:=ht;obtain⟨W,hW⟩:∃W,w.alloc (.cells #[.int .u8 (kt:Nat),.string x,.int .i64 n,.slice G subs.length c] 39)=W:=⟨_,rfl⟩;have S1:Hid (w.Since w.heap.size W):=aa (by rw[←hW];exact(ah _ _).alloc (ai _) _);have B1:Hid (W.heap[w.heap.size]?=some (.cells #[.int .u8 (kt:Nat),.string x,.int .i64 n,.slice G subs.length c] 39)):=aa (by rw[←hW];exact aq w _);have KF:=aa (IH _ W _ hK hs (TzAt.up S1.o _ _ ht0));have hz:(ofBytes (fr (.mk kt x n subs))).size≤40000000:=by rw[so];omega
 show Calls _ _ _ _ fun E w'=>E=.returned (.string (ofBytes (cL (bK k) kt (fr (.mk kt x n subs)))))∧_;generalize fr (.mk kt x n subs)=F at*;have HY:Hid (kt=14∨kt=13∧k≠14→({data:=#[40]}:BA)++ofBytes F++({data:=#[41]}:BA)=ofBytes (cL (bK k) kt F)):=aa (fun q=>dZ (by
  unfold cL;rw[if_pos (by rw[Gk];simpa using q)];simp[er,fN]));have HN:Hid (¬(kt=14∨kt=13∧k≠14)→ofBytes F=ofBytes (cL (bK k) kt F)):=aa (fun q=>by
  unfold cL;rw[if_neg (by rw[Gk];simpa using q)]);generalize ofBytes (cL (bK k) kt F)=R at*;obtain⟨t0,t1,t2,t3,-⟩:=ba B1.o;clear hl ht0 hK hs IH;go_enter func194,ntmps194;go_wp2_with fail;refine KF.o.mono ?_;rintro r0 w2⟨rfl,h2⟩;have S2:=aa (aZ S1.o h2);obtain⟨y0,y1,y2,y3,-⟩:=ba ((h2.block _ (aV B1.o)).trans B1.o);clear h2 t0 t1 t2 t3;by_cases q:kt=14∨(kt=13∧k≠14);·
  have HR:=aa (HY.o q);by_cases q1:kt=14;·have f1:((kt:Int)==14)=true:=ag (by omega);exact Mf
  ·have f1:((kt:Int)==14)=false:=ae (by omega);have f2:((kt:Int)==13)=true:=ag (by omega);have f3:((k:Int)!=14)=true:=bne_iff_ne.2 (by omega);clear q q1;go_wp2_with fail;go_ret;exact⟨by rw[←HR.o];rfl,S2.o⟩
 ·
  have HR:=aa (HN.o q);have f1:((kt:Int)==14)=false:=ae (by omega);by_cases q1:kt=13;·
   have f2:((kt:Int)==13)=true:=ag (by omega);have f3:((k:Int)!=14)=false:=bne_eq_false_iff_eq.2 (by omega);clear q q1;go_wp2_with fail;go_ret;exact⟨by rw[←HR.o];rfl,S2.o⟩
  · exact Mf
theorem yp(K:Nat)(hM:K≤1000000)(IH:FormC K)(k:Nat)(x:BA)(n:Int)(subs:List Tz)(sep:BA)(w:World)(cs:List Value)(hK:dH subs≤K)(hs:fw subs=true)(ht:TzAt w (.mk k x n subs) cs)(hsep:sep.size≤10000000)(hlen:(jn (bK k) (an sep) (dO subs)).length≤100000000):Calls prog 108 #[.agg cs.toArray,.string sep] w fun E w'=>E=.returned (.string (ofBytes (jn (bK k) (an sep) (dO subs))))∧w.Since w.heap.size w':=by
 unfold TzAt at ht;obtain⟨G,c,us,rfl,_,hr,hts⟩:=ht;have HG:=aa (fun i h=>fJ hr hts i h);have HSH:=aa (fun i h=>rL subs hs i h);have HWT:=aa (fun i(h:i<subs.length)=>ay (gp subs i h) hK);have HLE:=aa (fun i(h:i<subs.length)=>(fun(a:Addr)cs(h1:TzAt w subs[i] cs)=>vh _ _ h1 (rL subs hs i h)));have HN:=aa (fun i(h:i<subs.length)=>Fa (bK k) (an sep) h);have HTL:=aa (fun i=>xK (bK k) (an sep) (dO subs) i);have HE:Hid (jn (bK k) (an sep) ((dO subs).take subs.length)=jn (bK k) (an sep) (dO subs)):=aa (by rw[←jQ subs,List.take_length]);have HLen:=aa hlen;have hlen2:subs.length≤1000000:=by have:=fv subs;omega
 have KW:=aa (fun t W cs h1 h2 h3=>yo K hM IH k t W cs h1 h2 h3);obtain⟨W,hW⟩:∃W,w.alloc (.cells #[.int .u8 (k:Nat),.string x,.int .i64 n,.slice G subs.length c] 39)=W:=⟨_,rfl⟩;have S1:Hid (w.Since w.heap.size W):=aa (by rw[←hW];exact(ah _ _).alloc (ai _) _);have B1:Hid (W.heap[w.heap.size]?=some (.cells #[.int .u8 (k:Nat),.string x,.int .i64 n,.slice G subs.length c] 39)):=aa (by rw[←hW];exact aq w _);clear hlen hK hs hr hts IH;go_enter func108,ntmps108;go_wp2_with fail;go_loopg[5,6]subs.length(fun gg o5 o6 wr=>∃(i:Nat),gg=subs.length-i∧i≤subs.length∧o5=.string (ofBytes (jn (bK k) (an sep) ((dO subs).take i)))∧o6=.int .i64 (i:Nat)∧Hid (w.Since w.heap.size wr)∧Hid (wr.heap[w.heap.size]?=some (.cells #[.int .u8 (k:Nat),.string x,.int .i64 n,.slice G subs.length c] 39)));case atStart=>
  exact⟨0,by omega,by omega,by rw[List.take_zero];rfl,rfl,S1,B1⟩
 case round=>
  obtain⟨i,rfl,hi,rfl,rfl,hW2,hB⟩:=hrel;obtain⟨p0,p1,p2,p3,-⟩:=ba hB.o;by_cases h1:i<subs.length;·
   have i1:(i:Int)<(subs.length:Int):=by omega
   obtain⟨a,k1,x1,n1,G1,m1,c1,hG1,ha,ht1,g0,g1,g2,g3⟩:=HG.o i h1;have HT1:=aa (TzAt.up ⟨hW2.o.os,hW2.o.tape,hW2.o.output,hW2.o.size,hW2.o.block⟩ _ _ ht1);have HL1:=aa (HLE.o i h1 a _ ht1);have KI:=aa (fun W(h:wr.Since wr.heap.size W)=>KW.o subs[i] W _ (HWT.o i h1) (HSH.o i h1) (TzAt.up h _ _ HT1.o));obtain⟨cc,cd⟩:=cI hW2.o ha (i*4);have d0:=cc _ g0;have d1:=cd _ _ g1;have d2:=cd _ _ g2;have d3:=cd _ _ g3;have z5:IntKind.i64.wrap ((i:Int)+1)=(i:Int)+1:=ax _ (by omega);have HN1:=aa (HN.o i h1);have HTi:=aa (HTL.o i);have HTi1:=aa (HTL.o (i+1));have HWL:=aa (oM (bK k) (eK subs[i]) (fr subs[i]));have HWK:=aa (HWT.o i h1);generalize cL (bK k) (eK subs[i]) (fr subs[i])=FW at*;generalize hJ1:jn (bK k) (an sep) ((dO subs).take (i+1))=J1 at*;have HJ1:=aa hJ1;clear hJ1;generalize jn (bK k) (an sep) ((dO subs).take i)=J0 at*;have hz0:(ofBytes J0).size≤100000000:=by rw[so];have:=HTi.o;have:=HLen.o;omega
   have hzw:(ofBytes FW).size≤50000000:=by rw[so];have:=HWL.o;have:=HL1.o;have:=HWK.o;omega
   subst hG1;clear ht1 g0 g1 g2 g3 cc cd;have HS0:Hid (i=0→ofBytes J0=ofBytes (J0++(if i=0 then[]else an sep))):=aa (fun h=>by rw[if_pos h,List.append_nil]);have HS1:Hid (i≠0→ofBytes J0++sep=ofBytes (J0++(if i=0 then[]else an sep))):=aa (fun h=>by rw[if_neg h];exact dZ (by simp[er]));have HSF:Hid (ofBytes (J0++(if i=0 then[]else an sep))++ofBytes FW=ofBytes J1):=aa (dZ (by rw[er,de,de,de,HN1.o,List.append_assoc]));have HSZ:Hid ((ofBytes (J0++(if i=0 then[]else an sep))).size≤100000000):=aa (by have h:=HTi1.o;rw[HN1.o]at h;have:=HLen.o;rw[so];simp only[List.length_append]at h⊢;omega);generalize ofBytes (J0++(if i=0 then[]else an sep))=S at*;go_upto_if 15 with fail;go_cut[5]from 15 to 18(fun v5 wx=>v5=.string S∧wr=wx);case first=>
    by_cases hi0:i=0;·
     have i2:¬(i:Int)>0:=by omega
     have hE:=aa (HS0.o hi0);clear hi0;go_wp2_with fail;go_meet;exact⟨by rw[hE.o],rfl⟩
    ·
     have i2:(i:Int)>0:=by omega
     have hE:=aa (HS1.o hi0);clear hi0;go_wp2_with fail;go_meet;exact⟨by rw[←hE.o],rfl⟩
   case rest=>
    obtain⟨e5,ew⟩:=hcut;subst ew e5;have hzs:=HSZ.o;have HL0:Hid (w.heap.size<wr.heap.size):=aa (aV hB.o);have HLa:Hid (a.block<wr.heap.size):=aa (by have:=hW2.o.size;omega);have zq:¬9223372036854775807<S.size+(ofBytes FW).size:=by omega
    have HSD:Hid (wr.Since wr.heap.size wr.drew):=aa ((ah _ _).drew);have HA:=aa (aF p0 (aF p3 (aF d0 (aF d1 (aF d2 d3)))));go_wp2_with fail;go_region_held3(fun w'=>w'.cell? ⟨w.heap.size,0,none⟩=some (.int .u8 (k:Nat))∧w'.cell? ⟨w.heap.size,3,none⟩=some (.slice (some a) subs.length c)∧w'.cell? (a.add (i*4))=some (.int .u8 (k1:Nat))∧w'.cell? ⟨(a.add (i*4)).block,(a.add (i*4)).off+1,none⟩=some (.string x1)∧w'.cell? ⟨(a.add (i*4)).block,(a.add (i*4)).off+2,none⟩=some (.int .i64 n1)∧w'.cell? ⟨(a.add (i*4)).block,(a.add (i*4)).off+3,none⟩=some (.slice G1 m1 c1))(first|exact HA.o|exact HA3.o)((go_at_call 194;refine(KI.o _ HSD.o).mono ?_;rintro r0 w3⟨rfl,hs3⟩;have W3:=aa (aZ HSD.o hs3);have HA3:=aa (aF ((W3.o.cell (a:=⟨w.heap.size,0,none⟩) HL0.o).trans HA.o.1) (aF ((W3.o.cell (a:=⟨w.heap.size,3,none⟩) HL0.o).trans HA.o.2.1) (aF ((cI W3.o HLa.o _).1 _ HA.o.2.2.1) (aF ((cI W3.o HLa.o _).2 _ _ HA.o.2.2.2.1) (aF ((cI W3.o HLa.o _).2 _ _ HA.o.2.2.2.2.1) ((cI W3.o HLa.o _).2 _ _ HA.o.2.2.2.2.2))))));clear hs3));have W3':=aa (aZ hW2.o W3.o);have B3:=aa ((W3.o.block w.heap.size HL0.o).trans hB.o);go_wp2_with fail;go_roundg(subs.length-(i+1));case measure=>omega
    case rel=>exact⟨i+1,rfl,by omega,by rw[HSF.o,HJ1.o],by simp,W3',B3⟩
  ·
   have i1:¬(i:Int)<(subs.length:Int):=by omega
   have hR:Hid (jn (bK k) (an sep) ((dO subs).take i)=jn (bK k) (an sep) (dO subs)):=aa (by rw[show i=subs.length by omega];exact HE.o);go_wp2_with fail;go_ret;exact⟨by rw[hR.o];rfl,hW2.o⟩
structure QU(K k:Nat)(x:BA)(n:Int)(subs:List Tz)(w:World)(G:Option Addr)(c:Nat)(W:World):Prop where
 al:w.alloc (.cells #[.int .u8 (k:Nat),.string x,.int .i64 n,.slice G subs.length c] 39)=W
 s:w.Since w.heap.size W
 b:W.heap[w.heap.size]?=some (.cells #[.int .u8 (k:Nat),.string x,.int .i64 n,.slice G subs.length c] 39)
 l:(ky k x n (dO subs)).length≤40000000
 n0:0≤n
 n1:n≤9223372036854775807
 q:∀sep:BA,sep.size≤5→(jn (bK k) (an sep) (dO subs)).length≤40000000
 t:x.size≤1000000
 j:∀sep V,W.Since W.heap.size V→sep.size≤10000000→(jn (bK k) (an sep) (dO subs)).length≤100000000→Calls prog 108 #[.agg #[.int .u8 (k:Nat),.string x,.int .i64 n,.slice G subs.length c],.string sep] V fun E w'=>E=.returned (.string (ofBytes (jn (bK k) (an sep) (dO subs))))∧V.Since V.heap.size w'
theorem Aw{K k:Nat}{x:BA}{n:Int}{subs:List Tz}{w:World}{cs:List Value}(hM:K+1≤1000000)(IH:FormC K)(hK:wtZ (.mk k x n subs)≤K+1)(hs:shZ (.mk k x n subs)=true)(ht:TzAt w (.mk k x n subs) cs):∃G c W,cs=[.int .u8 (k:Nat),.string x,.int .i64 n,.slice G subs.length c]∧QU K k x n subs w G c W:=by
 have hl:=vh _ _ ht hs;have ht0:=ht;unfold TzAt at ht;obtain⟨G,c,us,rfl,hn,_,hus⟩:=ht;rw[fr]at hl;rw[shZ,Bool.and_eq_true]at hs;have h0:0≤n:=by have h:=hs.1;unfold dT at h;rw[Bool.and_eq_true,decide_eq_true_eq]at h;exact h.1
 have hS:=(ah w.heap.size w).alloc (ai _) (.cells #[.int .u8 (k:Nat),.string x,.int .i64 n,.slice G subs.length c] 39);have hK2:=hK;rw[wtZ]at hK2;have hfs:=vi subs us hus hs.2;unfold Dg at hfs;exact⟨G,c,_,rfl,rfl,hS,aq w _,by omega,h0,hn.1.2,fun sep h=>by
  have h1:=zy (bK k) (an sep) (dO subs);have h2:((dO subs).length-1)*(an sep).length≤(dO subs).length*5:=Nat.mul_le_mul (Nat.sub_le _ _) (by rw[bd];exact h);omega,by omega,fun sep V hV h1 h2=>yp K (by omega) IH k x n subs sep V _ (by omega) hs.2 (TzAt.up hV _ _ (TzAt.up hS _ _ ht0)) h1 h2⟩
theorem yq(c:UInt8):∀l:List UInt8,ez (l++[c])=ez l++(if c=34∨c=92 then[92,c]else[c])
 |[]=>by rw[List.nil_append,ez];simp[ez]
 |d::l=>by rw[List.cons_append,ez,ez,yq c l];split<;>rfl
theorem NK(x:BA)(i:Nat)(h:i<x.size):(an x).take (i+1)=(an x).take i++[x[i]]:=by
 have h1:i<(an x).length:=by rw[bd];exact h
 rw[List.take_succ_eq_append_getElem h1];have h2:=oy x i h;rw[aD h1]at h2;injection h2 with h2;rw[h2]
theorem NL(x:BA)(i:Nat)(h:i<x.size):an (x.extract i (i+1))=[x[i]]:=by
 have h1:=nd ByteArray.empty x i h;have h2:=congrArg an h1;rw[er]at h2;have h3:an (ByteArray.empty.push x[i])=[x[i]]:=by unfold an;simp[ByteArray.push]
 rw[h3]at h2;exact h2
theorem Mg{P:Prop}(h:P:=by
 have S2:=aa (aZ S1.o h2);clear h2;go_wp2_with fail;go_ret;exact⟨by rw[←HR.o];rfl,S2.o⟩):P:=h
theorem Mh{P:Prop}(h:P:=by clear h2 h3 hu HN;exact Mi):P:=h
theorem Mi{P:Prop}(h:P:=by
 go_wp2_with fail;go_roundg(x.size-(i+1));case measure=>omega
 case rel=>exact⟨i+1,rfl,by omega,by rw[←HS.o],by simp,rfl⟩):P:=h
theorem Gm{P:Prop}(h:P:=by
 generalize ofBytes (ky k x n (dO subs))=R at*;clear h hK hs ht IH ST;go_enter func51,ntmps51;go_wp2_with fail;go_ret;exact⟨by rw[←HR.o];rfl,S1.o⟩):P:=h
theorem Mj{P:Prop}(h:P:=by
 have HR:Hid (x++({data:=#[40]}:BA)++ofBytes (jn (bK k) (an ⟨#[44,32]⟩) (dO subs))++({data:=#[41]}:BA)=ofBytes (ky k x n (dO subs))):=aa (dZ (by subst h;simp[ky,er,fN]));have KJ:=aa (fun V h=>ST.j ⟨#[44,32]⟩ V h (by decide) (ay (ST.q _ (by decide)) (by decide)));have hj:(ofBytes (jn (bK k) (an ⟨#[44,32]⟩) (dO subs))).size≤40000000:=ST.q _ (by decide);generalize ofBytes (jn (bK k) (an ⟨#[44,32]⟩) (dO subs))=D at*;exact Mk):P:=h
theorem sq{P:Prop}(h:P:=by generalize ofBytes (ky k x n (dO subs))=R at*;clear h hK hs ht IH ST;go_enter func51,ntmps51;go_wp2_with fail;refine(KJ.o _ (ah _ _)).mono ?_;rintro r0 w2⟨rfl,h2⟩;exact Mg):P:=h
theorem Ml{P:Prop}(h:P:=by have KJ:=aa (fun V h=>ST.j ⟨#[58,32]⟩ V h (by decide) (ay (ST.q _ (by decide)) (by decide)));have hj:(ofBytes (jn (bK k) (an ⟨#[58,32]⟩) (dO subs))).size≤40000000:=ST.q _ (by decide);generalize ofBytes (jn (bK k) (an ⟨#[58,32]⟩) (dO subs))=D at*;exact Mk):P:=h
theorem Mk{P:Prop}(h:P:=by
 generalize ofBytes (ky k x n (dO subs))=R at*;clear h hK hs ht IH ST;have z1:¬9223372036854775807<x.size+1:=by omega
 have z2:¬9223372036854775807<x.size+1+D.size:=by omega
 have z3:¬9223372036854775807<x.size+1+D.size+1:=by omega
 have z4:¬9223372036854775807<4+x.size:=by omega
 have z5:¬9223372036854775807<4+x.size+4:=by omega
 have z6:¬9223372036854775807<4+x.size+4+D.size:=by omega
 go_enter func51,ntmps51;go_wp2_with fail;have HSD:Hid (W.Since W.heap.size W.drew):=aa ((ah _ _).drew);have HL0:Hid (w.heap.size<W.heap.size):=aa (aV B1.o);have HC:Hid (∀V,W.Since W.heap.size V→V.cell? ⟨w.heap.size,0,none⟩=some (.int .u8 (k:Nat))∧V.cell? ⟨w.heap.size,1,none⟩=some (.string x)∧V.cell? ⟨w.heap.size,2,none⟩=some (.int .i64 n)∧V.cell? ⟨w.heap.size,3,none⟩=some (.slice G subs.length c)):=aa (fun V h=>by obtain⟨a0,a1,a2,a3,-⟩:=ba ((h.block _ HL0.o).trans B1.o);exact⟨a0,a1,a2,a3⟩);go_region_held3(fun V=>V.cell? ⟨w.heap.size,0,none⟩=some (.int .u8 (k:Nat))∧V.cell? ⟨w.heap.size,1,none⟩=some (.string x)∧V.cell? ⟨w.heap.size,2,none⟩=some (.int .i64 n)∧V.cell? ⟨w.heap.size,3,none⟩=some (.slice G subs.length c))(first|exact HC.o _ HSD.o|exact HC.o _ W3.o)((go_at_call 108;refine(KJ.o _ HSD.o).mono ?_;rintro r0 w3⟨rfl,h3⟩;have W3:=aa (aZ HSD.o h3);have S2:=aa (aZ S1.o W3.o);clear h3));all_goals
  go_wp2_with fail;go_ret;exact⟨by rw[←HR.o];rfl,S2.o⟩):P:=h
set_option maxHeartbeats 3200000 in set_option maxRecDepth 1000000 in theorem form_step(K k:Nat)(x:BA)(n:Int)(subs:List Tz)(w:World)(cs:List Value)(hM:K+1≤1000000)(IH:FormC K)(hK:wtZ (.mk k x n subs)≤K+1)(hs:shZ (.mk k x n subs)=true)(ht:TzAt w (.mk k x n subs) cs)(hc:k=1∨k=2∨k=3∨k=4∨k=5∨k=6∨k=7∨k=8∨k=9∨k=10∨k=11∨k=12∨k=13∨k=14∨k=15∨k=16):Calls prog 51 #[.agg cs.toArray] w fun E w'=>E=.returned (.string (ofBytes (fr (.mk k x n subs))))∧w.Since w.heap.size w':=by
 obtain⟨G,c,W,rfl,ST⟩:=Aw hM IH hK hs ht;have hx:=ST.t;have hW:=ST.al;have S1:=aa ST.s;have B1:=aa ST.b;obtain⟨t0,t1,t2,t3,-⟩:=ba B1.o;rw[fr];rcases hc with h|h|h|h|h|h|h|h|h|h|h|h|h|h|h|h;·
  as_aux_lemma=>
   have f:∀c:Int,((k:Int)==c)=((1:Int)==c):=fun c=>by rw[h];rfl
   have KD:=aa (xM n W ST.n0 ST.n1);have HR:Hid (ofBytes (Lib.itoa n)=ofBytes (ky k x n (dO subs))):=aa (by subst h;rfl);generalize ofBytes (Lib.itoa n)=D at*;generalize ofBytes (ky k x n (dO subs))=R at*;clear h hK hs ht IH ST;go_enter func51,ntmps51;go_wp2_with fail;refine KD.o.mono ?_;rintro r0 w2⟨rfl,h2⟩;exact Mg
 ·as_aux_lemma=>
    have f:∀c:Int,((k:Int)==c)=((2:Int)==c):=fun c=>by rw[h];rfl
    have HR:Hid (({data:=#[34]}:BA)++ofBytes (ez ((an x).take x.size))++({data:=#[34]}:BA)=ofBytes (ky k x n (dO subs))):=aa (dZ (by subst h;rw[←bd x,List.take_length];unfold ky;simp[er,fN]));have HE:=aa (fun i=>Ng ((an x).take i));generalize ofBytes (ky k x n (dO subs))=R at*;clear h hK hs ht IH ST;go_enter func51,ntmps51;go_wp2_with fail;go_loopg[3,4]x.size(fun gg o3 o4 wr=>∃(i:Nat),gg=x.size-i∧i≤x.size∧o3=.string (ofBytes (ez ((an x).take i)))∧o4=.int .i64 (i:Nat)∧wr=W);case atStart=>
     exact⟨0,by omega,by omega,by rw[List.take_zero];rfl,rfl,rfl⟩
    case round=>
     obtain⟨i,rfl,hi,rfl,rfl,rfl⟩:=hrel;have hz:(ofBytes (ez ((an x).take i))).size≤2000000:=by have h:=HE.o i;rw[List.length_take]at h;rw[so];omega
     by_cases h1:i<x.size;·
      have i1:(i:Int)<(x.size:Int):=by omega
      have z5:IntKind.i64.wrap ((i:Int)+1)=(i:Int)+1:=ax _ (by omega);have hez:(x.extract i (i+1)).size≤1:=by rw[ByteArray.size_extract];omega
      have HN:Hid (ez ((an x).take (i+1))=ez ((an x).take i)++(if x[i]=34∨x[i]=92 then[92,x[i]]else[x[i]])):=aa (by rw[NK x i h1,yq]);have HX:=aa (NL x i h1);have hu:∀v:UInt8,x[i]=v↔x[i].toNat=v.toNat:=fun v=>UInt8.toNat_inj.symm;by_cases h2:x[i]=34∨x[i]=92;·
       have HS:Hid (ofBytes (ez ((an x).take i))++({data:=#[92]}:BA)++x.extract i (i+1)=ofBytes (ez ((an x).take (i+1)))):=aa (dZ (by rw[er,er,de,de,HX.o,HN.o,if_pos h2];simp[fN]));by_cases h3:x[i]=34;·
        have c1:((x[i].toNat:Int)==34)=true:=ag (by have:=(hu 34).1 h3;have:(34:UInt8).toNat=34:=rfl;omega);exact Mh
       ·have c1:((x[i].toNat:Int)==34)=false:=ae (by
          intro e;exact h3 ((hu 34).2 (by have:(34:UInt8).toNat=34:=rfl;omega)));have c2:((x[i].toNat:Int)==92)=true:=ag (by have:=(hu 92).1 (h2.resolve_left h3);have:(92:UInt8).toNat=92:=rfl;omega);exact Mh
      ·have HS:Hid (ofBytes (ez ((an x).take i))++x.extract i (i+1)=ofBytes (ez ((an x).take (i+1)))):=aa (dZ (by rw[er,de,de,HX.o,HN.o,if_neg h2]));have c1:((x[i].toNat:Int)==34)=false:=ae (by
         intro e;exact h2 (.inl ((hu 34).2 (by have:(34:UInt8).toNat=34:=rfl;omega))));have c2:((x[i].toNat:Int)==92)=false:=ae (by
         intro e;exact h2 (.inr ((hu 92).2 (by have:(92:UInt8).toNat=92:=rfl;omega))));clear h2 hu HN;exact Mi
     ·
      have i1:¬(i:Int)<(x.size:Int):=by omega
      have HR2:Hid (({data:=#[34]}:BA)++ofBytes (ez ((an x).take i))++({data:=#[34]}:BA)=R):=aa (by rw[show i=x.size by omega];exact HR.o);go_wp2_with fail;go_ret;exact⟨by rw[←HR2.o];rfl,S1.o⟩
 ·as_aux_lemma=>
    have f:∀c:Int,((k:Int)==c)=((3:Int)==c):=fun c=>by rw[h];rfl
    have HR:Hid (x=ofBytes (ky k x n (dO subs))):=aa (by subst h;rfl);exact Gm
 ·as_aux_lemma=>
    have f:∀c:Int,((k:Int)==c)=((4:Int)==c):=fun c=>by rw[h];rfl
    have HR:Hid ((⟨#[115,111,117,114,99,101]⟩:BA)=ofBytes (ky k x n (dO subs))):=aa (by subst h;rfl);exact Gm
 ·as_aux_lemma=>
    have f:∀c:Int,((k:Int)==c)=((5:Int)==c):=fun c=>by rw[h];rfl
    have HR:Hid ((⟨#[116,97,114,103,101,116]⟩:BA)=ofBytes (ky k x n (dO subs))):=aa (by subst h;rfl);exact Gm
 ·as_aux_lemma=>
    have f:∀c:Int,((k:Int)==c)=((6:Int)==c):=fun c=>by rw[h];rfl
    exact Mj
 ·as_aux_lemma=>
    have f:∀c:Int,((k:Int)==c)=((7:Int)==c):=fun c=>by rw[h];rfl
    have HR:Hid (ofBytes (jn (bK k) (an ⟨#[32,43,32]⟩) (dO subs))=ofBytes (ky k x n (dO subs))):=aa (dZ (by subst h;simp[ky,er,fN]));have KJ:=aa (fun V h=>ST.j ⟨#[32,43,32]⟩ V h (by decide) (ay (ST.q _ (by decide)) (by decide)));have hj:(ofBytes (jn (bK k) (an ⟨#[32,43,32]⟩) (dO subs))).size≤40000000:=ST.q _ (by decide);generalize ofBytes (jn (bK k) (an ⟨#[32,43,32]⟩) (dO subs))=D at*;exact sq
 ·as_aux_lemma=>
    have f:∀c:Int,((k:Int)==c)=((8:Int)==c):=fun c=>by rw[h];rfl
    have HR:Hid (ofBytes (jn (bK k) (an ⟨#[32,45,32]⟩) (dO subs))=ofBytes (ky k x n (dO subs))):=aa (dZ (by subst h;simp[ky,er,fN]));have KJ:=aa (fun V h=>ST.j ⟨#[32,45,32]⟩ V h (by decide) (ay (ST.q _ (by decide)) (by decide)));have hj:(ofBytes (jn (bK k) (an ⟨#[32,45,32]⟩) (dO subs))).size≤40000000:=ST.q _ (by decide);generalize ofBytes (jn (bK k) (an ⟨#[32,45,32]⟩) (dO subs))=D at*;exact sq
 ·as_aux_lemma=>
    have f:∀c:Int,((k:Int)==c)=((9:Int)==c):=fun c=>by rw[h];rfl
    have HR:Hid (ofBytes (jn (bK k) (an ⟨#[32,42,32]⟩) (dO subs))=ofBytes (ky k x n (dO subs))):=aa (dZ (by subst h;simp[ky,er,fN]));have KJ:=aa (fun V h=>ST.j ⟨#[32,42,32]⟩ V h (by decide) (ay (ST.q _ (by decide)) (by decide)));have hj:(ofBytes (jn (bK k) (an ⟨#[32,42,32]⟩) (dO subs))).size≤40000000:=ST.q _ (by decide);generalize ofBytes (jn (bK k) (an ⟨#[32,42,32]⟩) (dO subs))=D at*;exact sq
 ·as_aux_lemma=>
    have f:∀c:Int,((k:Int)==c)=((10:Int)==c):=fun c=>by rw[h];rfl
    have HJ:Hid ((jn (bK k) (an (({data:=#[32]}:BA)++x++({data:=#[32]}:BA))) (dO subs)).length≤40000000):=aa (by have hh:=ST.l;subst h;unfold ky at hh;simp[fN,er]at hh⊢;omega);have KJ:=aa (fun V h=>ST.j (({data:=#[32]}:BA)++x++({data:=#[32]}:BA)) V h (by simp[ByteArray.size_append];show 1+x.size+1≤10000000;omega) (ay HJ.o (by decide)));have HR:Hid (ofBytes (jn (bK k) (an (({data:=#[32]}:BA)++x++({data:=#[32]}:BA))) (dO subs))=ofBytes (ky k x n (dO subs))):=aa (dZ (by subst h;simp[ky,er,fN]));have hj:(ofBytes (jn (bK k) (an (({data:=#[32]}:BA)++x++({data:=#[32]}:BA))) (dO subs))).size≤40000000:=HJ.o;generalize ofBytes (jn (bK k) (an (({data:=#[32]}:BA)++x++({data:=#[32]}:BA))) (dO subs))=D at*;clear HJ;exact sq
 ·as_aux_lemma=>
    have f:∀c:Int,((k:Int)==c)=((11:Int)==c):=fun c=>by rw[h];rfl
    exact Mj
 ·as_aux_lemma=>
    have f:∀c:Int,((k:Int)==c)=((12:Int)==c):=fun c=>by rw[h];rfl
    have HR:Hid (({data:=#[110,111,116,32]}:BA)++ofBytes (jn (bK k) (an ⟨#[]⟩) (dO subs))=ofBytes (ky k x n (dO subs))):=aa (dZ (by subst h;simp[ky,er,fN]));have KJ:=aa (fun V h=>ST.j ⟨#[]⟩ V h (by decide) (ay (ST.q _ (by decide)) (by decide)));have hj:(ofBytes (jn (bK k) (an ⟨#[]⟩) (dO subs))).size≤40000000:=ST.q _ (by decide);generalize ofBytes (jn (bK k) (an ⟨#[]⟩) (dO subs))=D at*;exact sq
 ·as_aux_lemma=>
    have f:∀c:Int,((k:Int)==c)=((13:Int)==c):=fun c=>by rw[h];rfl
    have HR:Hid (ofBytes (jn (bK k) (an ⟨#[32,97,110,100,32]⟩) (dO subs))=ofBytes (ky k x n (dO subs))):=aa (dZ (by subst h;simp[ky,er,fN]));have KJ:=aa (fun V h=>ST.j ⟨#[32,97,110,100,32]⟩ V h (by decide) (ay (ST.q _ (by decide)) (by decide)));have hj:(ofBytes (jn (bK k) (an ⟨#[32,97,110,100,32]⟩) (dO subs))).size≤40000000:=ST.q _ (by decide);generalize ofBytes (jn (bK k) (an ⟨#[32,97,110,100,32]⟩) (dO subs))=D at*;exact sq
 ·as_aux_lemma=>
    have f:∀c:Int,((k:Int)==c)=((14:Int)==c):=fun c=>by rw[h];rfl
    have HR:Hid (ofBytes (jn (bK k) (an ⟨#[32,111,114,32]⟩) (dO subs))=ofBytes (ky k x n (dO subs))):=aa (dZ (by subst h;simp[ky,er,fN]));have KJ:=aa (fun V h=>ST.j ⟨#[32,111,114,32]⟩ V h (by decide) (ay (ST.q _ (by decide)) (by decide)));have hj:(ofBytes (jn (bK k) (an ⟨#[32,111,114,32]⟩) (dO subs))).size≤40000000:=ST.q _ (by decide);generalize ofBytes (jn (bK k) (an ⟨#[32,111,114,32]⟩) (dO subs))=D at*;exact sq
 ·as_aux_lemma=>
    have f:∀c:Int,((k:Int)==c)=((15:Int)==c):=fun c=>by rw[h];rfl
    have HR:Hid (({data:=#[97,108,108,32]}:BA)++x++({data:=#[32,105,110,32]}:BA)++ofBytes (jn (bK k) (an ⟨#[58,32]⟩) (dO subs))=ofBytes (ky k x n (dO subs))):=aa (dZ (by subst h;simp[ky,er,fN]));exact Ml
 ·as_aux_lemma=>
    have f:∀c:Int,((k:Int)==c)=((16:Int)==c):=fun c=>by rw[h];rfl
    have HR:Hid (({data:=#[97,110,121,32]}:BA)++x++({data:=#[32,105,110,32]}:BA)++ofBytes (jn (bK k) (an ⟨#[58,32]⟩) (dO subs))=ofBytes (ky k x n (dO subs))):=aa (dZ (by subst h;simp[ky,er,fN]));exact Ml
set_option maxHeartbeats 3200000 in set_option maxRecDepth 1000000 in theorem form_all:∀K,K≤1000000→FormC K
 |0,_,t,w,cs,hK,_,_=>by have:=nI t;omega
 |K+1,hM,.mk k x n subs,w,cs,hK,hs,ht=>by
  have IH:=form_all K (by omega);have hk:1≤k∧k≤16:=by
   have h:=hs;rw[shZ,Bool.and_eq_true]at h;have h:=h.1;unfold dT at h;rw[Bool.and_eq_true]at h;have h:=h.2;by_cases q:1≤k∧k≤16;·exact q
   ·rw[if_neg (by omega),if_neg (by omega),if_neg (by omega),if_neg (by omega)]at h;cases h
  exact form_step K k x n subs w cs hM IH hK hs ht (by omega)
