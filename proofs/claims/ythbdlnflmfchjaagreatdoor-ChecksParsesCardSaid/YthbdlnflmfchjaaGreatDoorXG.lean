/- A replacer of quotes: used once. -/
import Derived.Test.YthbdlnflmfchjaaGreatDoorYT
import Derived.Test.YthbdlnflmfchjaaGreatDoorUF
import Derived.Test.YthbdlnflmfchjaaGreatDoorXE
set_option linter.unusedVariables false
set_option linter.unusedSimpArgs false
namespace Go.Proofs.YthbdlnflmfchjaaGreatDoor
open Go.Proofs.Tryz
open Go.RowKit Go.Proofs.Fm Go.Proofs.Eng Go.Proofs.MapEnt
set_option maxHeartbeats 6400000
set_option maxRecDepth 1000000
theorem IT(base:Nat)(a:Addr)(w:World)(h:RI base a w):∃b,a=⟨b,0,none⟩∧base≤b∧Calls prog 242 #[.pointer (some ⟨b,0,none⟩),.func (.func 243) #[.pointer (some ⟨b,0,none⟩)] #[]] w fun e w'=>e=.returned (.tuple #[])∧(∃B,w'.cell? ⟨b,3,none⟩=some (.iface 399 (.pointer (some ⟨B,0,none⟩)))∧sr B w')∧w.heap.size≤w'.heap.size∧w'.os=w.os∧w'.tape=w.tape∧w'.output=w.output∧∀k,k<base→k<w.heap.size→w'.heap[k]?=w.heap[k]?:=by
 obtain⟨ρ,p,H,hG,hp,hs,rfl,hb⟩:=h;refine⟨p.b,rfl,?_,?_⟩;·obtain⟨p',h1,_⟩:=gO H (k:=102) (show(cX oX.pre 103).get 102=some (.cells #[.int .u32 0,.int .i32 0,.int .u32 0,.nilIface,.slice (some ⟨101,0,none⟩) 4 1180591620717411303425] 322 (0,0))by kernel_rfl);exact hb 102 _ p (show(cX oX.pre 103).get 102=some (.cells #[.int .u32 0,.int .i32 0,.int .u32 0,.nilIface,.slice (some ⟨101,0,none⟩) 4 1180591620717411303425] 322 (0,0))by kernel_rfl) hp
 ·
  have ha:dE ρ ⟨102,0,none⟩ ⟨p.b,0,none⟩:=⟨rfl,p,hp,by rw[hs];rfl⟩;have hm:=(Mm oX (.head _)).2 ρ w #[.pointer (some ⟨p.b,0,none⟩),.func (.func 243) #[.pointer (some ⟨p.b,0,none⟩)] #[]] hG H (.cons (.ptr ha) (.cons (.func (.func 243) (.cons (.ptr ha) .nil) .nil) .nil));refine(callsIn_wide.1 hm).mono fun e w' hh=>?_;obtain⟨ρ',v',rfl,hv,hH,hS⟩:=hh;have hv:aX ρ' (.tuple #[]) v':=hv;obtain⟨q,B,q1,q2,q3,q4⟩:=NM (ρ:=ρ') hH;have hq:q=p:=by have:=(hS.le _ _ hp).symm.trans q1;injection this with e;exact e.symm
  subst hq;refine⟨?_,⟨B,q3,q4⟩,hS.size,hS.os,hS.tape,hS.out,fun k h1 h2=>hS.frame k h2 (fun k0 o0 p0 _ a1 a2=>?_)⟩;·
   cases hv with
   |tuple h=>
    rename_i x';have:x'.toList=[]:=by generalize x'.toList=l at h;cases h;rfl
    rw[show x'=#[]from Array.toList_inj.1 this]
  ·have:=hb k0 o0 p0 a1 a2;omega
theorem IU(w0 w:World)(p:Addr)(x:BA)(h:RI w0.heap.size p w)(h0:w0.Since w0.heap.size w)(hx:x.size≤1000000):Calls prog 191 #[.pointer (some p),.string x] w fun e w'=>e=.returned (.string (ofBytes (ez (an x))))∧w0.Since w0.heap.size w':=by obtain⟨b,rfl,hb,hD⟩:=IT _ _ _ h;have KD:=aa hD;have H0:=aa h0;have KB:=aa (fun B W(h:sr B W)=>Ax B x W h hx);clear h h0 hD;go_enter func191,ntmps191;go_wp2_with fail;refine KD.o.mono ?_;rintro r0 w2⟨rfl,⟨B,hc,hR⟩,g1,g2,g3,g4,g5⟩;have HS:Hid (w0.Since w0.heap.size w2):=aa ⟨g2.trans H0.o.os,g3.trans H0.o.tape,g4.trans H0.o.output,ay H0.o.size g1,fun k hk=>(g5 k hk (aw hk H0.o.size)).trans (H0.o.block k hk)⟩;have K2:=aa (KB.o B w2 hR);clear g1 g2 g3 g4 g5 hR;go_wp2_with fail;refine K2.o.mono ?_;rintro r0 w3⟨rfl,hs⟩;have HF:=aa (bf HS.o hs);clear hs;go_wp2_with fail;go_ret;exact⟨rfl,HF.o⟩
theorem Pa:IV RI:=⟨IW,IU⟩
theorem IX(s:BA)(w:World)(hs:1000<s.size):Calls prog 17 #[.string s] w fun E w'=>E=.returned (.tuple #[zT,.int .i64 0,.int .u8 3])∧w.Since w.heap.size w':=by
 unfold zT;have f0:(1000:Int)<(s.size:Int):=by omega
 have a0:=aq w cH;have a1:=Boxed.new (w.alloc cH) 3 (.int .i64 0);have a2:=Boxed.new ((w.alloc cH).alloc (.cells #[.int .i64 0] 3)) 28 (.int .u8 0);simp only[World.size_alloc]at a1 a2;have h1:=a1.alloc (.cells #[.int .u8 0] 28);have h0:(((w.alloc cH).alloc (.cells #[.int .i64 0] 3)).alloc (.cells #[.int .u8 0] 28)).heap[w.heap.size]?=some cH:=(aj _ _ _ (by simp;omega)).trans ((aj _ _ _ (by simp)).trans a0);have hb:Below w.heap.size w (((w.alloc cH).alloc (.cells #[.int .i64 0] 3)).alloc (.cells #[.int .u8 0] 28)):=(((Below.refl _ w).alloc (ai _) _).alloc (by simp) _).alloc (by simp;omega) _;obtain⟨W,hW⟩:∃W,(((w.alloc cH).alloc (.cells #[.int .i64 0] 3)).alloc (.cells #[.int .u8 0] 28))=W:=⟨_,rfl⟩;rw[hW]at a2 h1 h0 hb;rw[bA]at hW h0;obtain⟨d0,d1,d2,d3,df⟩:=ba h0;have e1:=h1.cell;have e2:=h1.frozen;have e3:=a2.cell;have e4:=a2.frozen;obtain⟨X,hX,X0,X1,X2,XO,XS,XP⟩:=Nv h0 h1 a2 (.int .u8 0) (.string ⟨#[]⟩) (.int .i64 0) (.slice none 0 0) (.int .i64 0) (.int .u8 3);obtain⟨c0,c1,c2,c3,-⟩:=ba X0;have c4:=X1.cell;have c5:=X2.cell;have XB:w.Since w.heap.size X:=⟨XP.1.trans hb.os,XP.2.1.trans hb.tape,XP.2.2.trans hb.output,by have:=hb.size;omega,fun k hk=>(XO k (by omega) (by omega) (by omega)).trans (hb.block k hk)⟩;go_enter func17,ntmps17;go_wp2_with fail;exact au (v:=.tuple #[.agg #[.int .u8 0,.string ⟨#[]⟩,.int .i64 0,.slice none 0 0],.int .i64 0,.int .u8 3]) (by simp[results,f17,go_sem,c0,c1,c2,c3,c4,c5]) rfl ⟨rfl,XB⟩
theorem Cm(s:BA)(w:World)(r:Except (Nat×Nat) Tm)(hr:rF s r)(hT:Tabs w)(hE:ErrV w)(KT:lq 5000):Calls prog 17 #[.string s] w fun E w'=>Bo r E w'∧w.Since w.heap.size w':=by
 by_cases h:1000<s.size;·rw[kY h]at hr;subst hr;exact(IX s w h).mono fun _ _ h=>h
 ·exact F0 s w r (by omega) hr hT hE KT
def Mn(K:Nat):Prop:=∀(t u:Tz)(w:World)(cs ds:List Value),wtZ t≤K→TzAt w t cs→TzAt w u ds→Calls prog 20 #[.agg cs.toArray,.agg ds.toArray] w fun E w'=>E=.returned (.bool (yB t u))∧w.Since w.heap.size w'
theorem su(K:Nat)(hC:Mn K)(subs subs':List Tz)(w:World)(G G':Option Addr)(c c':Nat)(us us':List Value)(hK:dH subs≤K)(hM:K≤1000000)(hr:rH w G us)(hs:cY w subs us)(hr':rH w G' us')(hs':cY w subs' us'):Calls prog 48 #[.slice G subs.length c,.slice G' subs'.length c',.func (.func 20) #[] #[]] w fun E w'=>E=.returned (.bool (gK subs subs'))∧w.Since w.heap.size w':=by
 have HC:=aa hC;have HG:=aa (fun i h=>fJ hr hs i h);have HG':=aa (fun i h=>fJ hr' hs' i h);have HSB:=aa (fun i h=>gp subs i h);have HK:=aa hK;have hlen:subs.length≤1000000:=by have:=fv subs;omega
 have HR:Hid (gK subs subs'=gK (subs.drop 0) (subs'.drop 0)):=aa rfl;have HF:=aa (fun h=>ym (ts:=subs) (us:=subs') h);generalize gK subs subs'=R at*;clear hC hr hs hr' hs' hK;by_cases q4:subs.length=subs'.length;·
  have f4:((subs.length:Int)!=(subs'.length:Int))=false:=by rw[q4];simp
  have HL:=aa q4;clear q4 HF;go_enter func48,ntmps48;go_wp2_with fail;go_loopg[17]subs.length(fun gg o5 wr=>∃(i:Nat),gg=subs.length-i∧i≤subs.length∧o5=.int .i64 (i:Nat)∧Hid (R=gK (subs.drop i) (subs'.drop i))∧Hid (w.Since w.heap.size wr));case atStart=>exact⟨0,by omega,by omega,rfl,HR,aa (ah _ _)⟩
  case round=>
   obtain⟨i,rfl,hi,rfl,hE,hW⟩:=hrel;by_cases h1:i<subs.length;·
    have h2:i<subs'.length:=by have:=HL.o;omega
    obtain⟨a,k1,x1,n1,G1,m1,c1,hG1,ha,ht1,g0,g1,g2,g3⟩:=HG.o i h1;obtain⟨a',k2,x2,n2,G2,m2,c2,hG2,ha',ht2,g0',g1',g2',g3'⟩:=HG'.o i h2;have HT1:=aa (TzAt.up ⟨hW.o.os,hW.o.tape,hW.o.output,hW.o.size,hW.o.block⟩ _ _ ht1);have HT2:=aa (TzAt.up ⟨hW.o.os,hW.o.tape,hW.o.output,hW.o.size,hW.o.block⟩ _ _ ht2);have KI:=aa (fun W(h:wr.Since wr.heap.size W)=>HC.o subs[i] subs'[i] W _ _ (by have:=HSB.o i h1;have:=HK.o;omega) (TzAt.up h _ _ HT1.o) (TzAt.up h _ _ HT2.o));have hE2:=aa (hE.o.trans (uv h1 h2));obtain⟨cc,cd⟩:=cI hW.o ha (i*4);have hW2:=hW.o.alloc hW.o.size (.cells #[.int .u8 (k1:Nat),.string x1,.int .i64 n1,.slice G1 m1 c1] 39);obtain⟨cc',cd'⟩:=cI hW2 ha' (i*4);have d0:=cc _ g0;have d1:=cd _ _ g1;have d2:=cd _ _ g2;have d3:=cd _ _ g3;have e0:=cc' _ g0';have e1:=cd' _ _ g1';have e2:=cd' _ _ g2';have e3:=cd' _ _ g3';have i1:(i:Int)<(subs.length:Int):=by omega
    have i2:(i:Int)<(subs'.length:Int):=by omega
    have z5:IntKind.i64.wrap ((i:Int)+1)=(i:Int)+1:=ax _ (by omega);have HS1:Hid (wr.Since wr.heap.size ((wr.alloc (.cells #[.int .u8 (k1:Nat),.string x1,.int .i64 n1,.slice G1 m1 c1] 39)).alloc (.cells #[.int .u8 (k2:Nat),.string x2,.int .i64 n2,.slice G2 m2 c2] 39))):=aa (((ah _ _).alloc (ai _) _).alloc (by simp) _);have B1:=(aj (wr.alloc (.cells #[.int .u8 (k1:Nat),.string x1,.int .i64 n1,.slice G1 m1 c1] 39)) (.cells #[.int .u8 (k2:Nat),.string x2,.int .i64 n2,.slice G2 m2 c2] 39) wr.heap.size (by simp)).trans (aq wr (.cells #[.int .u8 (k1:Nat),.string x1,.int .i64 n1,.slice G1 m1 c1] 39));have B2:=aq (wr.alloc (.cells #[.int .u8 (k1:Nat),.string x1,.int .i64 n1,.slice G1 m1 c1] 39)) (.cells #[.int .u8 (k2:Nat),.string x2,.int .i64 n2,.slice G2 m2 c2] 39);rw[World.size_alloc]at B2;obtain⟨p0,p1,p2,p3,-⟩:=ba B1;obtain⟨r0,r1,r2,r3,-⟩:=ba B2;generalize yB subs[i] subs'[i]=q at*;subst hG1 hG2;clear ht1 ht2 g0 g1 g2 g3 g0' g1' g2' g3' cc cc' cd cd' HT1 HT2 B1 B2 hW2;go_wp2_with fail;refine(KI.o _ HS1.o).mono ?_;rintro rr w3⟨rfl,hs3⟩;have W3':=aa (aZ hW.o (aZ HS1.o hs3));clear hs3;cases q with
    |false=>
     have hR2:Hid (R=false):=aa (by rw[hE2.o];rfl);go_wp2_with fail;go_ret;exact⟨by rw[hR2.o];rfl,W3'.o⟩
    |true=>
     have hE3:Hid (R=gK (subs.drop (i+1)) (subs'.drop (i+1))):=aa (by rw[hE2.o];rfl);go_wp2_with fail;go_roundg(subs.length-(i+1));case measure=>omega
     case rel=>exact⟨i+1,rfl,by omega,by simp,hE3,W3'⟩
   ·
    have i1:¬(i:Int)<(subs.length:Int):=by omega
    have hR2:Hid (R=true):=aa (hE.o.trans (yn HL.o h1));go_wp2_with fail;go_ret;exact⟨by rw[hR2.o];rfl,hW.o⟩
 ·have f4:((subs.length:Int)!=(subs'.length:Int))=true:=bne_iff_ne.2 (by omega);have hR:Hid (R=false):=aa (HF.o q4);clear q4 HF HR;go_enter func48,ntmps48;go_wp2_with fail;go_ret;exact⟨by rw[hR.o];rfl,ah _ _⟩
theorem Gp{P:Prop}(h:P:=by
 go_enter func20,ntmps20;go_wp2_with fail;go_ret;exact⟨by rw[hR.o];rfl,S1.o⟩):P:=h
theorem jC:∀K,K≤1000000→Mn K
 |0,_,.mk k x n subs,u,w,cs,ds,hK,_,_=>by rw[wtZ]at hK;omega
 |K+1,hM,.mk k x n subs,.mk k' x' n' subs',w,cs,ds,hK,h,h'=>by
  have IH:=aa (su K (jC K (by omega)) subs subs');rw[wtZ]at hK;unfold TzAt at h h';obtain⟨G,c,us,rfl,_,hr,hs⟩:=h;obtain⟨G',c',us',rfl,_,hr',hs'⟩:=h';have HR:=aa (Gj k k' x x' n n' subs subs');generalize yB (.mk k x n subs) (.mk k' x' n' subs')=R at HR⊢;have hS1:w.Since w.heap.size ((w.alloc (.cells #[.int .u8 (k:Nat),.string x,.int .i64 n,.slice G subs.length c] 39)).alloc (.cells #[.int .u8 (k':Nat),.string x',.int .i64 n',.slice G' subs'.length c'] 39)):=((ah _ _).alloc (ai _) _).alloc (by simp) _;have KI:=aa (IH.o _ G G' c c' us us' (by omega) (by omega) (hr.up hS1) (cY.up hS1 _ _ hs) (hr'.up hS1) (cY.up hS1 _ _ hs'));have S1:=aa hS1;have B1:=(aj (w.alloc (.cells #[.int .u8 (k:Nat),.string x,.int .i64 n,.slice G subs.length c] 39)) (.cells #[.int .u8 (k':Nat),.string x',.int .i64 n',.slice G' subs'.length c'] 39) w.heap.size (by simp)).trans (aq w (.cells #[.int .u8 (k:Nat),.string x,.int .i64 n,.slice G subs.length c] 39));have B2:=aq (w.alloc (.cells #[.int .u8 (k:Nat),.string x,.int .i64 n,.slice G subs.length c] 39)) (.cells #[.int .u8 (k':Nat),.string x',.int .i64 n',.slice G' subs'.length c'] 39);rw[World.size_alloc]at B2;obtain⟨-,-,-,y3,-⟩:=ba B1;obtain⟨-,-,-,y4,-⟩:=ba B2;clear hr hs hr' hs' hK hS1 B1 B2 IH;by_cases q1:k=k';·
   have f1:((k:Int)==(k':Int))=true:=by subst q1;simp
   by_cases q2:x=x';·
    have f2:(x.toList==x'.toList)=true:=by subst q2;exact beq_self_eq_true _
    by_cases q3:n=n';·
     have f3:(n==n')=true:=by subst q3;simp
     have hR:Hid (R=gK subs subs'):=aa (by rw[HR.o,aB q1,aB q2,aB q3];simp);clear q1 q2 q3 HR;go_enter func20,ntmps20;go_wp2_with fail;refine KI.o.mono ?_;rintro rr w3⟨rfl,hs3⟩;have W3:=aa (aZ S1.o hs3);clear hs3;go_wp2_with fail;go_ret;exact⟨by rw[hR.o];rfl,W3.o⟩
    ·have hR:Hid (R=false):=aa (by rw[HR.o,aA q3];simp);have f3:(n==n')=false:=ae q3;clear q1 q2 q3 HR;exact Gp
   ·
    have hR:Hid (R=false):=aa (by rw[HR.o,aA q2];simp);have f2:(x.toList==x'.toList)=false:=by rw[bJ,aA q2]
    clear q1 q2 HR;exact Gp
  ·have hR:Hid (R=false):=aa (by rw[HR.o,aA q1];simp);have f1:((k:Int)==(k':Int))=false:=ae (by omega);clear q1 HR;exact Gp
def lx(left:Int)(a:Nat)(r:Int):Prop:=((a:Int)≤left→r=left-a)∧(left<(a:Int)→r<0)
theorem oY:∀(ts:List Tz)(i:Nat)(h:i<ts.length),dH (ts.take (i+1))=dH (ts.take i)+wtZ ts[i]
 |[],i,h=>absurd h (aH _)
 |t::ts,0,h=>by simp[dH]
 |t::ts,i+1,h=>by have h':i<ts.length:=Nat.lt_of_succ_lt_succ h;have:=oY ts i h';show dH (t::ts.take (i+1))=dH (t::ts.take i)+wtZ ts[i];rw[dH,dH];omega
theorem jW:∀(ts:List Tz)(i:Nat),dH (ts.take i)≤dH ts
 |[],i=>by simp
 |t::ts,0=>by rw[List.take_zero,dH];exact aI _
 |t::ts,i+1=>by have:=jW ts i;show dH (t::ts.take i)≤_;rw[dH,dH];omega
theorem sv:∀(K left:Nat),left<K→K≤1000→∀(t:Tz)(w:World)(cs:List Value),TzAt w t cs→Calls prog 16 #[.agg cs.toArray,.int .i64 (left:Nat)] w fun E w'=>(∃r:Int,E=.returned (.int .i64 r)∧lx left (wtZ t) r)∧w.Since w.heap.size w'
 |0,left,h,_,_,_,_,_=>absurd h (aH _)
 |K+1,left,hlt,hM,.mk k x n subs,w,cs,h=>by
  have IH:=aa (fun(l:Nat)h(t:Tz)(w:World)(cs:List Value)h2=>sv K l h (by omega) t w cs h2);unfold TzAt at h;obtain⟨G,c,us,rfl,⟨_,hx,hsl⟩,hr,hs⟩:=h;unfold maxLen at hx hsl;have HG:=aa (fun i h=>fJ hr hs i h);have HW:Hid (wtZ (.mk k x n subs)=1+x.size+dH subs):=aa (by rw[wtZ]);generalize wtZ (.mk k x n subs)=T at*;have HT:=aa (fun i h=>oY subs i h);have HTL:=aa (fun i=>jW subs i);have HTE:Hid (dH (subs.take subs.length)=dH subs):=aa (by rw[List.take_length]);have HT0:Hid (dH (subs.take 0)=0):=aa (by rw[List.take_zero,dH]);have S1:Hid (w.Since w.heap.size (w.alloc (.cells #[.int .u8 (k:Nat),.string x,.int .i64 n,.slice G subs.length c] 39))):=aa ((ah _ _).alloc (ai _) _);have B1:=aa (aq w (.cells #[.int .u8 (k:Nat),.string x,.int .i64 n,.slice G subs.length c] 39));have z1:IntKind.i64.wrap ((left:Int)-1)=(left:Int)-1:=ax _ (by omega);have z2:IntKind.i64.wrap ((left:Int)-1-(x.size:Int))=(left:Int)-1-(x.size:Int):=ax _ (by omega);have HL0:Hid (lx left (1+x.size) ((left:Int)-1-(x.size:Int))):=aa ⟨fun _=>by omega,fun _=>by omega⟩;have Hl0:Hid ((left:Int)-1-(x.size:Int)<left):=aa (by omega);clear hr hs;go_enter func16,ntmps16;go_wp2_with fail;go_loopg[1,5]subs.length(fun gg o1 o5 wr=>∃(i:Nat)(r:Int),gg=subs.length-i∧i≤subs.length∧o1=.int .i64 r∧o5=.int .i64 (i:Nat)∧Hid (lx left (1+x.size+dH (subs.take i)) r)∧Hid (r<left)∧Hid (w.Since w.heap.size wr)∧Hid (wr.heap[w.heap.size]?=some (.cells #[.int .u8 (k:Nat),.string x,.int .i64 n,.slice G subs.length c] 39)));case atStart=>
   exact⟨0,_,by omega,by omega,rfl,rfl,aa (by rw[HT0.o];exact HL0.o),Hl0,S1,B1⟩
  case round=>
   obtain⟨i,r,rfl,hi,rfl,rfl,hE,hrl,hW,hB⟩:=hrel;obtain⟨-,-,-,p3,-⟩:=ba hB.o;by_cases h1:i<subs.length;·
    have i1:(i:Int)<(subs.length:Int):=by omega
    by_cases h2:0≤r;·
     obtain⟨rn,rfl⟩:=Int.eq_ofNat_of_zero_le h2;obtain⟨a,k1,x1,n1,G1,m1,c1,hG1,ha,ht1,g0,g1,g2,g3⟩:=HG.o i h1;have HT1:=aa (TzAt.up ⟨hW.o.os,hW.o.tape,hW.o.output,hW.o.size,hW.o.block⟩ _ _ ht1);have KI:=aa (IH.o rn (by have:=hrl.o;omega) subs[i] wr _ HT1.o);obtain⟨cc,cd⟩:=cI hW.o ha (i*4);have d0:=cc _ g0;have d1:=cd _ _ g1;have d2:=cd _ _ g2;have d3:=cd _ _ g3;have z5:IntKind.i64.wrap ((i:Int)+1)=(i:Int)+1:=ax _ (by omega);have HT2:=aa (HT.o i h1);have HP:=aa (nI subs[i]);generalize wtZ subs[i]=q at*;subst hG1;clear ht1 g0 g1 g2 g3 cc cd HT1;go_wp2_with fail;refine KI.o.mono ?_;rintro rr w3⟨⟨r',rfl,hr'⟩,hs3⟩;have W3:=aa (aZ hW.o hs3);have B3:=aa ((hs3.block w.heap.size (aV hB.o)).trans hB.o);have HR':=aa hr';clear hs3 hr';go_wp2_with fail;go_roundg(subs.length-(i+1));case measure=>omega
     case rel=>
      refine⟨i+1,r',rfl,by omega,rfl,by simp,aa ?_,aa ?_,W3,B3⟩;·
       have h3:=hE.o;have h4:=HR'.o;rw[HT2.o];unfold lx at h3 h4⊢;have:=hrl.o;constructor;·intro h5;have h6:=h3.1 (by omega);have h7:=h4.1 (by omega);omega
       ·
        intro h5;rcases Int.lt_or_le (left:Int) ((1+x.size+dH (subs.take i):Nat):Int)with h6|h6;·have:=h3.2 h6;omega
        ·have h7:=h3.1 h6;exact h4.2 (by omega)
      ·
       have h4:=HR'.o;have:=HP.o;have:=hrl.o;unfold lx at h4;rcases Int.lt_or_le ((rn:Nat):Int) ((q:Nat):Int)with h6|h6;·have:=h4.2 h6;omega
       ·have:=h4.1 h6;omega
    ·have i2:¬0≤r:=h2;have HF:Hid (lx left T r):=aa (by
       have h3:=hE.o;have:=HTL.o i;have:=HW.o;unfold lx at h3⊢;constructor;·intro h5;have h6:=h3.1 (by omega);omega
       ·intro _;omega);go_wp2_with fail;go_ret;exact⟨⟨r,rfl,HF.o⟩,hW.o⟩
   ·
    have i1:¬(i:Int)<(subs.length:Int):=by omega
    have HF:Hid (lx left T r):=aa (by have h3:=hE.o;rw[show i=subs.length by omega,HTE.o,←HW.o]at h3;exact h3);go_wp2_with fail;go_ret;exact⟨⟨r,rfl,HF.o⟩,hW.o⟩
structure Lay(w:World):Prop where
 t:Tabs w
 e:ErrV w
 p:PowV w
theorem Lay.up{w w':World}(h:Lay w)(hs:w.Since w.heap.size w'):Lay w':=⟨h.t.up hs,h.e.up hs,h.p.up hs⟩
theorem sw(KT:lq 5000)(s:BA)(w:World)(t:Tm)(h:rF s (.ok t))(hL:Lay w):Calls prog 17 #[.string s] w fun E w'=>(∃(k:Nat)(x:BA)(n:Int)(G:Option Addr)(m c:Nat),E=.returned (.tuple #[.agg #[.int .u8 (k:Nat),.string x,.int .i64 n,.slice G m c],.int .i64 0,.int .u8 0])∧TzAt w' (iL t) [.int .u8 (k:Nat),.string x,.int .i64 n,.slice G m c])∧w.Since w.heap.size w':=by refine(Cm s w _ h hL.t hL.e KT).mono fun E w' hh=>⟨?_,hh.2⟩;obtain⟨cs,A,lo,e,ht⟩:=hh.1;have hz:=aY.z t cs (gG h).1.n64 ht;obtain⟨k,x,n,G,m,c,rfl⟩:=qh hz;exact⟨k,x,n,G,m,c,e,hz⟩
theorem uw(KT:lq 5000)(s:BA)(w:World)(p c:Nat)(h:rF s (.error (p,c)))(hL:Lay w):Calls prog 17 #[.string s] w fun E w'=>E=.returned (.tuple #[.agg #[.int .u8 0,.string ⟨#[]⟩,.int .i64 0,.slice none 0 0],.int .i64 (p:Nat),.int .u8 (c:Nat)])∧w.Since w.heap.size w':=(Cm s w _ h hL.t hL.e KT).mono fun _ _ hh=>⟨hh.1,hh.2⟩
theorem Cn{s:BA}{p c:Nat}(h:rF s (.error (p,c))):c≠0:=by
 by_cases hs:1000<s.size;·rw[kY hs]at h;injection h with h;injection h with _ h;omega
 cases hw:a_ cU lang.kept s 0 with
 |error q=>rw[js hs hw]at h;injection h with h;injection h with _ h;omega
 |ok l=>rw[jt hs hw]at h;obtain⟨f,r0,h1,h2⟩:=h;cases r0 with
         |bad q=>have h2:(Except.error (p,c):Except (Nat×Nat) Tm)=.error (q,4):=h2;injection h2 with h2;injection h2 with _ h2;omega
         |ok ts m=>
           obtain⟨t',rfl,_⟩:=jO (by omega) hw h1;have h9:=h2 t' rfl;by_cases hm:m<l.length;·rw[if_pos hm]at h9;injection h9 with h9;injection h9 with _ h9;omega
           by_cases hd:24<iO t';·rw[if_neg hm,if_pos hd]at h9;injection h9 with h9;injection h9 with _ h9;omega
           rw[if_neg hm,if_neg hd]at h9;unfold oK at h9;cases hk:fQ t' []with
           |error e=>rw[hk]at h9;injection h9 with h9;injection h9 with _ h9;have:=jz t' [] e hk;omega
           |ok a=>rw[hk]at h9;cases h9
def s_(t:Tz):Prop:=∃u,rF (ofBytes (fz t)) (.ok u)∧iL u=t
theorem DO{t:Tz}(h:s_ t):(fz t).length≤1000:=by obtain⟨u,h,_⟩:=h;exact(gG h).2
theorem Gq(KT:lq 5000)(t:Tz)(cs:List Value)(w:World)(hK:wtZ t≤1000000)(ht:TzAt w t cs)(hL:Lay w)(h:s_ t):Calls prog 21 #[.agg cs.toArray] w fun E w'=>E=.returned (.tuple #[.string (ofBytes (fz t)),.int .u8 0])∧w.Since w.heap.size w':=by
 obtain⟨k0,x0,n0,G0,m0,c0,rfl⟩:=qh ht;obtain⟨W,hW⟩:∃W,w.alloc (.cells #[.int .u8 (k0:Nat),.string x0,.int .i64 n0,.slice G0 m0 c0] 39)=W:=⟨_,rfl⟩;have hs:w.Since w.heap.size W:=by rw[←hW];exact bI w _
 have hb:W.heap[w.heap.size]?=some (.cells #[.int .u8 (k0:Nat),.string x0,.int .i64 n0,.slice G0 m0 c0] 39):=by rw[←hW];exact aq w _
 have hlen:=DO h;obtain⟨u,hu,rfl⟩:=h;have KW:=aa (od Pa (iL u) _ W hK (ht.up hs) (hL.up hs).p);have KP:=aa (fun V(h:Lay V)=>sw KT (ofBytes (fz (iL u))) V u hu h);have KS:=aa (fun V cs(h1:TzAt V (iL u) cs)(h2:TzAt V (iL u) [.int .u8 (k0:Nat),.string x0,.int .i64 n0,.slice G0 m0 c0])=>jC 1000000 (ai _) (iL u) (iL u) V cs _ hK h1 h2);rw[(jP (iL u) (iL u)).2 rfl]at KS;have HS:=aa hs;have HB:=aa hb;have HT:=aa (ht.up hs);have HL:=aa (hL.up hs);have HLen:=aa hlen;obtain⟨t0,t1,t2,t3,-⟩:=ba hb;generalize fz (iL u)=F at*;clear hs hb ht hL hlen hu hK;go_enter func21,ntmps21;go_wp2_with fail;refine KW.o.mono ?_;rintro r0 w2⟨⟨r,rfl,hr⟩,hs2⟩;have hr:r=F:=by
  have:=hr.1 (by rw[List.length_nil];have:=HLen.o;omega);simpa using this
 subst hr;have KP2:=aa (KP.o w2 (HL.o.up hs2));have S2:=aa (bf HS.o hs2);have B2:=aa ((hs2.block _ (aV HB.o)).trans HB.o);have T2:=aa (HT.o.up hs2);clear hs2;go_wp2_with fail;refine KP2.o.mono ?_;rintro r0 w3⟨⟨k,x,n,G,m,c,rfl,hz⟩,hs3⟩;have S3:=aa (bf S2.o hs3);have B3:=aa ((hs3.block _ (aV B2.o)).trans B2.o);have T3:=aa (T2.o.up hs3);have S4:=aa (bI w3 (.cells #[.int .u8 (k:Nat),.string x,.int .i64 n,.slice G m c] 39));have N4:=aa (aq w3 (.cells #[.int .u8 (k:Nat),.string x,.int .i64 n,.slice G m c] 39));have KS4:=aa (KS.o (w3.alloc (.cells #[.int .u8 (k:Nat),.string x,.int .i64 n,.slice G m c] 39)) _ (hz.up S4.o) (T3.o.up S4.o));obtain⟨W4,hW4⟩:∃W4,w3.alloc (.cells #[.int .u8 (k:Nat),.string x,.int .i64 n,.slice G m c] 39)=W4:=⟨_,rfl⟩;rw[hW4]at S4 N4 KS4;have B4:=aa ((S4.o.block _ (aV B3.o)).trans B3.o);obtain⟨y0,y1,y2,y3,-⟩:=ba B4.o;obtain⟨u0,u1,u2,u3,-⟩:=ba N4.o;clear hz hs3;go_wp2_with fail;refine KS4.o.mono ?_;rintro r0 w5⟨rfl,hs5⟩;have S5:=aa (bf (bf S3.o S4.o) hs5);clear hs5;go_wp2_with fail;exact au (v:=.tuple #[.string (ofBytes r),.int .u8 0]) (by simp[results,results21,go_sem]) rfl ⟨rfl,S5.o⟩
theorem Gr(KT:lq 5000)(t:Tz)(cs:List Value)(w:World)(hK:wtZ t≤1000000)(ht:TzAt w t cs)(hL:Lay w)(h:¬s_ t):Calls prog 21 #[.agg cs.toArray] w fun E w'=>E=.returned (.tuple #[.string ⟨#[]⟩,.int .u8 1])∧w.Since w.heap.size w':=by
 obtain⟨k0,x0,n0,G0,m0,c0,rfl⟩:=qh ht;obtain⟨W,hW⟩:∃W,w.alloc (.cells #[.int .u8 (k0:Nat),.string x0,.int .i64 n0,.slice G0 m0 c0] 39)=W:=⟨_,rfl⟩;have hs:w.Since w.heap.size W:=by rw[←hW];exact bI w _
 have hb:W.heap[w.heap.size]?=some (.cells #[.int .u8 (k0:Nat),.string x0,.int .i64 n0,.slice G0 m0 c0] 39):=by rw[←hW];exact aq w _
 have KW:=aa (od Pa t _ W hK (ht.up hs) (hL.up hs).p);have KPO:=aa (fun s V u(hu:rF s (.ok u))(h:Lay V)=>sw KT s V u hu h);have KPE:=aa (fun s V p c(hu:rF s (.error (p,c)))(h:Lay V)=>uw KT s V p c hu h);have KS:=aa (fun V u cs(hw:wtZ (iL u)≤10000)(h1:TzAt V (iL u) cs)(h2:TzAt V t [.int .u8 (k0:Nat),.string x0,.int .i64 n0,.slice G0 m0 c0])=>jC 1000000 (ai _) (iL u) t V cs _ (ay hw (by decide)) h1 h2);have HS:=aa hs;have HB:=aa hb;have HT:=aa (ht.up hs);have HL:=aa (hL.up hs);have HNO:Hid (∀r u,WR [] (fz t) r→rF (ofBytes r) (.ok u)→yB (iL u) t=false):=aa (fun r u hr hu=>by
  have hsz:r.length≤1000:=(gG hu).2;have hl:(fz t).length≤1000:=by
   rcases Nat.lt_or_ge 1000 (fz t).length with h1|h1;·have:=hr.2 (by simpa using h1);omega
   ·exact h1
  have e:r=fz t:=by have:=hr.1 (by simpa using hl);simpa using this
  subst e;cases he:yB (iL u) t with
  |false=>rfl
  |true=>exact absurd ⟨u,hu,(jP _ _).1 he⟩ h);obtain⟨t0,t1,t2,t3,-⟩:=ba hb;generalize fz t=F at*;clear hs hb ht hL hK h;go_enter func21,ntmps21;go_wp2_with fail;refine KW.o.mono ?_;rintro r0 w2⟨⟨r,rfl,hr⟩,hs2⟩;obtain⟨pr,hpr⟩:=rG (ofBytes r);have L2:=aa (HL.o.up hs2);have S2:=aa (bf HS.o hs2);have B2:=aa ((hs2.block _ (aV HB.o)).trans HB.o);have T2:=aa (HT.o.up hs2);clear hs2;cases pr with
 |error pc=>obtain⟨p,c⟩:=pc;have KP2:=aa (KPE.o _ w2 p c hpr L2.o);have hc:=Cn hpr;have fc:((c:Int)!=0)=true:=bne_iff_ne.2 (by omega);clear hpr hr hc;go_wp2_with fail;refine KP2.o.mono ?_;rintro r0 w3⟨rfl,hs3⟩;have S3:=aa ((bf S2.o hs3).alloc (ay S2.o.size hs3.size) (.cells #[.int .u8 0,.string ⟨#[]⟩,.int .i64 0,.slice none 0 0] 39));clear hs3;go_wp2_with fail;exact au (v:=.tuple #[.string ⟨#[]⟩,.int .u8 1]) (by simp[results,results21,go_sem]) rfl ⟨rfl,S3.o⟩
 |ok u=>have KP2:=aa (KPO.o _ w2 u hpr L2.o);have HW:=aa (gG hpr).1.wt;have HE:=aa (HNO.o r u hr hpr);clear hpr hr;go_wp2_with fail;refine KP2.o.mono ?_;rintro r0 w3⟨⟨k,x,n,G,m,c,rfl,hz⟩,hs3⟩;have S3:=aa (bf S2.o hs3);have B3:=aa ((hs3.block _ (aV B2.o)).trans B2.o);have T3:=aa (T2.o.up hs3);have S4:=aa (bI w3 (.cells #[.int .u8 (k:Nat),.string x,.int .i64 n,.slice G m c] 39));have N4:=aa (aq w3 (.cells #[.int .u8 (k:Nat),.string x,.int .i64 n,.slice G m c] 39));have KS4:=aa (KS.o (w3.alloc (.cells #[.int .u8 (k:Nat),.string x,.int .i64 n,.slice G m c] 39)) u _ HW.o (hz.up S4.o) (T3.o.up S4.o));rw[HE.o]at KS4;obtain⟨W4,hW4⟩:∃W4,w3.alloc (.cells #[.int .u8 (k:Nat),.string x,.int .i64 n,.slice G m c] 39)=W4:=⟨_,rfl⟩;rw[hW4]at S4 N4 KS4;have B4:=aa ((S4.o.block _ (aV B3.o)).trans B3.o);obtain⟨y0,y1,y2,y3,-⟩:=ba B4.o;obtain⟨u0,u1,u2,u3,-⟩:=ba N4.o;clear hz hs3;go_wp2_with fail;refine KS4.o.mono ?_;rintro r0 w5⟨rfl,hs5⟩;have S5:=aa (bf (bf S3.o S4.o) hs5);clear hs5;go_wp2_with fail;exact au (v:=.tuple #[.string ⟨#[]⟩,.int .u8 1]) (by simp[results,results21,go_sem]) rfl ⟨rfl,S5.o⟩
def Pb(left T:Nat)(b:Bool)(w:World)(E:Ending)(w':World):Prop:=(∃v:Int,E=.returned (.tuple #[.int .i64 v,.bool b])∧(b=true→v=(left:Int)-T))∧w.Since w.heap.size w'
theorem IY{k:Nat}{n:Int}{c:Nat}(h:¬0≤n):dT k n c=false:=by unfold dT;rw[aA h];rfl
theorem IZ{k:Nat}{n:Int}{c:Nat}(h:0≤n):dT k n c=(if 1≤k∧k≤5 then decide (c=0)else if k=6∨k=11∨k=12 then decide (1≤c)else if k=7∨k=8∨k=9∨k=10∨k=15∨k=16 then decide (c=2)else if k=13∨k=14 then decide (2≤c)else false):=by unfold dT;rw[aB h];rfl
theorem Mo{k:Nat}(h:k=0∨16<k):((k:Int)==1)=false∧((k:Int)==2)=false∧((k:Int)==3)=false∧((k:Int)==4)=false∧((k:Int)==5)=false∧((k:Int)==6)=false∧((k:Int)==7)=false∧((k:Int)==8)=false∧((k:Int)==9)=false∧((k:Int)==10)=false∧((k:Int)==11)=false∧((k:Int)==12)=false∧((k:Int)==13)=false∧((k:Int)==14)=false∧((k:Int)==15)=false∧((k:Int)==16)=false:=by have f:∀c:Int,1≤c→c≤16→((k:Int)==c)=false:=fun c h1 h2=>ae (by omega);refine⟨f _ ?_ ?_,f _ ?_ ?_,f _ ?_ ?_,f _ ?_ ?_,f _ ?_ ?_,f _ ?_ ?_,f _ ?_ ?_,f _ ?_ ?_,f _ ?_ ?_,f _ ?_ ?_,f _ ?_ ?_,f _ ?_ ?_,f _ ?_ ?_,f _ ?_ ?_,f _ ?_ ?_,f _ ?_ ?_⟩<;>decide
theorem Mp{k K:Nat}(h:k=K):∀c:Int,((k:Int)==c)=((K:Int)==c):=fun c=>by rw[h]
theorem Mq{P:Prop}(h:P:=by
 go_wp2_with fail;exact au (v:=.tuple #[.int .i64 r,.bool false]) (by simp[results,results50,go_sem]) rfl ⟨⟨_,by rw[←hF.o],fun h=>by rw[←hF.o]at h;cases h⟩,hW2.o⟩):P:=h
theorem p_:∀(K:Nat),K≤1000000→∀(t:Tz)(left:Nat)(w:World)(cs:List Value),wtZ t≤K→wtZ t<left→left≤1000000→TzAt w t cs→Calls prog 50 #[.agg cs.toArray,.int .i64 (left:Nat)] w (Pb left (wtZ t) (shZ t) w)
 |0,_,t,_,_,_,hK,_,_,_=>by have:=nI t;omega
 |K+1,hM,.mk k x n subs,left,w,cs,hK,hlt,hlm,h=>by
   have IH:=aa (fun(t:Tz)(l:Nat)(w:World)(cs:List Value)h1 h2 h3 h4=>p_ K (by omega) t l w cs h1 h2 h3 h4);unfold TzAt at h;obtain⟨G,c,us,rfl,_,hr,hs⟩:=h;have HG:=aa (fun i h=>fJ hr hs i h);rw[wtZ]at hK hlt⊢;rw[shZ];have HWL:=aa (fun i(h:i<subs.length)=>gp subs i h);have HT:=aa (fun i h=>oY subs i h);have HTL:=aa (fun i=>jW subs i);have HTE:Hid (dH (subs.take subs.length)=dH subs):=aa (by rw[List.take_length]);have HT0:Hid (dH (subs.take 0)=0):=aa (by rw[List.take_zero,dH]);have HZ:=aa (fun i h=>tV subs i h);have HZF:=aa (fun i=>kg subs i);have HZE:Hid (fw (subs.take subs.length)=fw subs):=aa (by rw[List.take_length]);have HZ0:Hid (fw (subs.take 0)=true):=aa (by rw[List.take_zero,fw]);have HB:Hid (1+x.size+dH subs<left∧dH subs≤K):=aa (by omega);have hlen:subs.length≤1000000:=by have:=fv subs;omega
   have HOK:=aa (rfl:dT k n subs.length=dT k n subs.length);generalize hB0:dT k n subs.length=B0 at*;generalize fw subs=BS at*;generalize dH subs=TS at*;obtain⟨W,hW⟩:∃W,w.alloc (.cells #[.int .u8 (k:Nat),.string x,.int .i64 n,.slice G subs.length c] 39)=W:=⟨_,rfl⟩;have S1:Hid (w.Since w.heap.size W):=aa (by rw[←hW];exact(ah _ _).alloc (ai _) _);have B1:Hid (W.heap[w.heap.size]?=some (.cells #[.int .u8 (k:Nat),.string x,.int .i64 n,.slice G subs.length c] 39)):=aa (by rw[←hW];exact aq w _);obtain⟨t0,t1,t2,t3,-⟩:=ba B1.o;have HB0:=aa hB0;have z1:IntKind.i64.wrap ((left:Int)-1)=(left:Int)-1:=ax _ (by omega);have z2:IntKind.i64.wrap ((left:Int)-1-(x.size:Int))=(left:Int)-1-(x.size:Int):=ax _ (by omega);clear hr hs hK hlt hB0;go_enter func50,ntmps50;go_upto_block 0 with fail;go_cut[7,14]from 17 to 56(fun v7 _ wx=>v7=.bool B0∧W=wx);case first=>
    have hc:k=1∨k=2∨k=3∨k=4∨k=5∨k=6∨k=11∨k=12∨k=7∨k=8∨k=9∨k=10∨k=15∨k=16∨k=13∨k=14∨(k=0∨16<k):=by omega
    have c0:((subs.length:Int)==0)=decide (subs.length=0):=by rw[Bool.eq_iff_iff,beq_iff_eq,decide_eq_true_eq];omega
    have c2:((subs.length:Int)==2)=decide (subs.length=2):=by rw[Bool.eq_iff_iff,beq_iff_eq,decide_eq_true_eq];omega
    have c1:decide ((1:Int)≤(subs.length:Int))=decide (1≤subs.length):=by rw[decide_eq_decide];omega
    have c3:decide ((2:Int)≤(subs.length:Int))=decide (2≤subs.length):=by rw[decide_eq_decide];omega
    by_cases hn:0≤n;·
     have hB:=HB0.o;rw[IZ hn]at hB;rcases hc with h|h|h|h|h|h|h|h|h|h|h|h|h|h|h|h|h;case inr.inr.inr.inr.inr.inr.inr.inr.inr.inr.inr.inr.inr.inr.inr.inr=>
      as_aux_lemma=>obtain⟨f1,f2,f3,f4,f5,f6,f7,f8,f9,f10,f11,f12,f13,f14,f15,f16⟩:=Mo h;rw[if_neg (by omega),if_neg (by omega),if_neg (by omega),if_neg (by omega)]at hB;subst hB;clear h;go_wp2_with fail;go_meet;exact⟨rfl,rfl⟩
     all_goals
      as_aux_lemma=>
       have f:=Mp h;simp only[Int.cast_ofNat_Int]at f;rw[h]at hB;simp at hB;clear h;go_wp2_with fail;go_meet;exact⟨by
        first|rfl|
         (rw[←hB];rfl),rfl⟩
    ·
     have hB:=HB0.o;rw[IY hn]at hB;subst hB;rcases hc with h|h|h|h|h|h|h|h|h|h|h|h|h|h|h|h|h;case inr.inr.inr.inr.inr.inr.inr.inr.inr.inr.inr.inr.inr.inr.inr.inr=>
      as_aux_lemma=>obtain⟨f1,f2,f3,f4,f5,f6,f7,f8,f9,f10,f11,f12,f13,f14,f15,f16⟩:=Mo h;clear h;go_wp2_with fail;go_meet;exact⟨rfl,rfl⟩
     all_goals
      as_aux_lemma=>have f:=Mp h;simp only[Int.cast_ofNat_Int]at f;clear h;go_wp2_with fail;go_meet;exact⟨rfl,rfl⟩
   case rest=>
    obtain⟨e7,ew⟩:=hcut;subst ew e7;have HR0:Hid (B0=(B0&&fw (subs.take 0))∧(B0=true→(left:Int)-1-(x.size:Int)=(left:Int)-((1+x.size+dH (subs.take 0):Nat):Int))):=aa ⟨by rw[HZ0.o,Bool.and_true],fun _=>by rw[HT0.o];omega⟩;go_wp2_with fail;go_loopg[1,7,8]subs.length(fun gg o1 o7 o8 wr=>∃(i:Nat)(r:Int)(b:Bool),gg=subs.length-i∧i≤subs.length∧o1=.int .i64 r∧o7=.bool b∧o8=.int .i64 (i:Nat)∧Hid (b=(B0&&fw (subs.take i))∧(b=true→r=(left:Int)-((1+x.size+dH (subs.take i):Nat):Int)))∧Hid (w.Since w.heap.size wr)∧Hid (wr.heap[w.heap.size]?=some (.cells #[.int .u8 (k:Nat),.string x,.int .i64 n,.slice G subs.length c] 39)));case atStart=>exact⟨0,_,_,by omega,by omega,rfl,rfl,rfl,HR0,S1,B1⟩
    case round=>
     obtain⟨i,r,b,rfl,hi,rfl,rfl,rfl,hE,hW2,hB⟩:=hrel;obtain⟨-,-,-,p3,-⟩:=ba hB.o;have hb:=hE.o.1;cases b with
     |false=>
       have hF:Hid (false=(B0&&BS)):=aa (by
        cases hq:B0 with
        |false=>rfl
        |true=>rw[hq,Bool.true_and]at hb;rw[Bool.true_and,HZF.o i hb.symm]);clear hb;by_cases h1:i<subs.length;·
        have i1:(i:Int)<(subs.length:Int):=by omega
        exact Mq
       ·
        have i1:¬(i:Int)<(subs.length:Int):=by omega
        exact Mq
     |true=>
      have hr:=hE.o.2 rfl;have hB0t:B0=true∧fw (subs.take i)=true:=by have h:=hb.symm;rwa[Bool.and_eq_true]at h
      by_cases h1:i<subs.length;·
       have i1:(i:Int)<(subs.length:Int):=by omega
       have hT1:=HT.o i h1;have hT2:=HTL.o (i+1);have hbd:=HB.o;obtain⟨rn,hrn⟩:=Int.eq_ofNat_of_zero_le (show 0≤r by omega);subst hrn;obtain⟨a,k1,x1,n1,G1,m1,c1,hG1,ha,ht1,g0,g1,g2,g3⟩:=HG.o i h1;have HT1:=aa (TzAt.up ⟨hW2.o.os,hW2.o.tape,hW2.o.output,hW2.o.size,hW2.o.block⟩ _ _ ht1);have KI:=aa (IH.o subs[i] rn wr _ (ay (HWL.o i h1) hbd.2) (by omega) (by omega) HT1.o);obtain⟨cc,cd⟩:=cI hW2.o ha (i*4);have d0:=cc _ g0;have d1:=cd _ _ g1;have d2:=cd _ _ g2;have d3:=cd _ _ g3;have z5:IntKind.i64.wrap ((i:Int)+1)=(i:Int)+1:=ax _ (by omega);have i2:(rn:Int)>0:=by omega
       have HZ1:=aa (HZ.o i h1);have HTT:=aa (aF hT1 (aF hr hB0t));generalize wtZ subs[i]=q at*;generalize shZ subs[i]=b2 at*;subst hG1;clear ht1 g0 g1 g2 g3 cc cd HT1 hb hr hB0t hT1 hT2 hbd;go_wp2_with fail;refine KI.o.mono ?_;rintro rr w3⟨⟨v,rfl,hv⟩,hs3⟩;have W3:=aa (aZ hW2.o hs3);have B3:=aa ((hs3.block w.heap.size (aV hB.o)).trans hB.o);have HV:=aa hv;clear hs3 hv;go_wp2_with fail;go_roundg(subs.length-(i+1));case measure=>omega
       case rel=>
        refine⟨i+1,v,b2,rfl,by omega,rfl,rfl,by simp,aa ⟨?_,fun h=>?_⟩,W3,B3⟩;·rw[HZ1.o,HTT.o.2.2.2,HTT.o.2.2.1];rfl
        ·have h1:=HV.o h;have h2:=HTT.o.1;have h3:=HTT.o.2.1;omega
      ·
       have i1:¬(i:Int)<(subs.length:Int):=by omega
       have he:i=subs.length:=by omega
       have hbd:=HB.o;rw[he,HTE.o]at hr;rw[he,HZE.o]at hB0t;have i2:r>0:=by omega
       have hF:Hid (true=(B0&&BS)∧r=(left:Int)-((1+x.size+TS:Nat):Int)):=aa ⟨by rw[hB0t.1,hB0t.2];rfl,hr⟩;clear hb hr hB0t he hbd;go_wp2_with fail;exact au (v:=.tuple #[.int .i64 r,.bool true]) (by simp[results,results50,go_sem]) rfl ⟨⟨r,by rw[←hF.o.1],fun _=>hF.o.2⟩,hW2.o⟩
theorem DP{l:List Wd}{m:Nat}(h:m<l.length):bZ l m≠101:=by unfold bZ;rw[aD h];dsimp only;unfold rK;split<;>decide
theorem Gu{l:List Wd}{m:Nat}(h:¬m<l.length):bZ l m=101:=by unfold bZ;rw[aU (by omega)]
theorem I_(s:BA)(w:World)(l:List Wd)(f m:Nat)(t:Tm)(r:Except (Nat×Nat) Tm)(hs:s.size≤1000)(hw:a_ cU lang.kept s 0=.ok l)(hp:parse lang l s.size f (.several true) 0=some (.ok [t] m))(hr:vf l s.size (.ok [t] m) r):Calls prog 18 #[.string s] w fun E w'=>Bo r E w'∧w.Since w.heap.size w':=by
 obtain⟨t',e1,h1,h2,h3,h4,h5,h6⟩:=jO hs hw hp;injection e1 with e1;subst e1;have hr:=hr t rfl;have S0:=Sp.start w;have KW:=aa (mv s (w.alloc cH) (by omega));rw[hw]at KW;obtain⟨hl,hN⟩:=mz (by omega:s.size≤100000) hw;have KP:=aa (fun pb g c W(h:Rs W pb g c l s.size 0 (-1))=>nc pb g c s.size l hl hN W 0 f _ h hp);have KD:=aa (fun W A lo cs(h:aY W A lo t cs)=>qE 5000 t W A lo cs h4 (by omega) h);have KT:=aa (fun(hd:iO t≤24)W A lo cs(h:aY W A lo t cs)=>uj 5000 t [] W A lo cs none 0 h4 (by omega) h6 (by show 0+iO t≤1000;omega) h (.inl ⟨rfl,rfl⟩));have HTE:=aa (jz t []);have S0:=aa S0;rw[bA]at S0 KW;have f0:¬(1000:Int)<(s.size:Int):=by omega
 have HR:=aa hr;obtain⟨D,hD⟩:∃D,iO t=D:=⟨_,rfl⟩;obtain⟨T,hT⟩:∃T,fQ t []=T:=⟨_,rfl⟩;rw[hD,hT]at HR;rw[hD]at KD KT;rw[hT]at KT HTE;have hDb:D≤5000:=by have:=uD t;omega
 clear hs hw hl hN hp hr h1 h2 h3 h4 h5 h6 hD hT;go_enter func18,ntmps18;go_wp2_with fail;refine KW.o.mono ?_;rintro r0 w2⟨⟨g,c,rfl,hg,hws⟩,hs2⟩;have S2:=S0.o.up hs2;have S3:=aa (S2.up ((ah _ w2).alloc (ai _) (.cells #[.slice (some ⟨g,0,none⟩) (l.length+1) c,.int .i64 0,.int .i64 (-1)] 112)));have KS:=aa (KP.o _ _ c _ (xN hws));have hlt:=aa S2.lt;clear hs2 S2 hws hg KW;go_wp2_with fail;refine KS.o.mono ?_;rintro r0 w4⟨v,rfl,⟨t',cs,ht1,rfl,ht⟩,ha,hR⟩;injection ht1 with ht1;subst ht1;obtain⟨k4,x4,n4,G4,m4,c4,rfl⟩:=dy ht;have S4:=aa (S3.o.adv hlt.o ha);have hpb:w2.heap.size<w4.heap.size:=hR.lt;clear ha KS;go_upto_region 8 with fail;obtain⟨w5,hw5⟩:∃w5,(w4.alloc (.cells #[.int .u8 (k4:Nat),.string x4,.int .i64 (n4:Nat),.slice G4 m4 c4] 39))=w5:=⟨_,rfl⟩;have s5:w4.Since w4.heap.size w5:=by rw[←hw5];exact(ah _ _).alloc (ai _) _
 have B5:w5.heap[w4.heap.size]?=some (.cells #[.int .u8 (k4:Nat),.string x4,.int .i64 (n4:Nat),.slice G4 m4 c4] 39):=by rw[←hw5];exact aq w4 _
 have S5:=aa (S4.o.up s5);have R5:=aa (hR.up s5);have T5:=aa (aY.up ⟨s5.size,fun q _ hq _=>s5.block q hq⟩ _ _ ht);have KN:=aa (eI w5 _ _ _ _ _ _ _ R5.o);have r2:=R5.o.c2;have hf:=fun W=>(vk (bZ l m) (aW l s.size m) (cJ l m) W).1;rw[hw5];have B5:=aa B5;have hpb:=aa hpb;clear hw5 s5 hR S4 ht;by_cases q1:m<l.length;·
  have f1:(((bZ l m:Nat):Int)!=101)=true:=bne_iff_ne.2 (by have:=DP q1;omega);have HR1:Hid (r=.error (aW l s.size m,4)):=aa (by rw[HR.o,if_pos q1]);have f2:((aW l s.size m:Nat):Int)≥0:=by omega
  generalize hK:bZ l m=K8 at*;generalize hX:cJ l m=X8 at*;generalize hP:aW l s.size m=P8 at*;have hP:=aa hP;clear q1 hK hX;go_wp2_with fail;refine KN.o.mono ?_;rintro r0 w6⟨rfl,s6⟩;have R6:=R5.o.up s6;have KF:=aa (eC w6 _ _ _ _ _ _ R6);have S6:=aa (S5.o.up s6);clear s6 R6 KN;go_wp2_with fail;refine KF.o.mono ?_;rintro r0 w7⟨rfl,a7,R7⟩;have S7:=S6.o.adv hlt.o a7;rw[hP.o]at R7;obtain⟨q0,q1,q2,q3,q4⟩:=cv S7.z;obtain⟨V,hV,y0,y1,y2,y3,Y,YK,-⟩:=mM S7 (.int .u8 0) (.string ⟨#[]⟩) (.int .i64 0) (.slice none 0 0);have r7:=R7.c2;have r8:V.cell? ⟨w2.heap.size,2,none⟩=_:=(az (YK.o _ (by have:=hlt.o;dsimp only;omega))).trans R7.c2;clear a7 R7 S7 KF;unfold zT;go_wp2_with fail;go_region;all_goals go_wp2_with fail
  all_goals
   exact au (v:=.tuple #[.agg #[.int .u8 0,.string ⟨#[]⟩,.int .i64 0,.slice none 0 0],.int .i64 (P8:Nat),.int .u8 4]) (by simp[results,results18,go_sem,y0,y1,y2,y3]) rfl ⟨by rw[HR1.o];rfl,Y.o.drew⟩
 ·
  have f1:(((bZ l m:Nat):Int)!=101)=false:=by rw[Gu q1];rfl
  have HR1:Hid (r=if 24<D then .error (0,3)else oK t T):=aa (by rw[HR.o,if_neg q1]);generalize hK:bZ l m=K8 at*;generalize hX:cJ l m=X8 at*;generalize hP:aW l s.size m=P8 at*;clear q1 hK hX hP;go_wp2_with fail;refine KN.o.mono ?_;rintro r0 w6⟨rfl,s6⟩;have r6:=(R5.o.up s6).c2;have S6:=aa (S5.o.up s6);have T6:=aY.up ⟨s6.size,fun q _ hq _=>s6.block q hq⟩ _ _ T5.o;have B6:=aa ((s6.block _ (aV B5.o)).trans B5.o);obtain⟨p0,p1,p2,p3,-⟩:=ba B6.o;have KD:=aa (KD.o w6 _ _ _ T6);have T6:=aa T6;clear s6 KN;by_cases q2:24<D;·
   have f3:(24:Int)<((D:Nat):Int):=by omega
   have HR2:Hid (r=.error (0,3)):=aa (by rw[HR1.o,if_pos q2]);clear q2;go_wp2_with fail;refine KD.o.mono ?_;rintro r0 w7⟨rfl,s7⟩;have S7:=S6.o.up s7;obtain⟨q0,q1,q2,q3,q4⟩:=cv S7.z;obtain⟨V,hV,y0,y1,y2,y3,Y,YK,-⟩:=mM S7 (.int .u8 0) (.string ⟨#[]⟩) (.int .i64 0) (.slice none 0 0);clear s7 S7;go_wp2_with fail;exact au (v:=.tuple #[.agg #[.int .u8 0,.string ⟨#[]⟩,.int .i64 0,.slice none 0 0],.int .i64 0,.int .u8 3]) (by simp[results,results18,go_sem,y0,y1,y2,y3]) rfl ⟨by rw[HR2.o];rfl,Y.o⟩
  ·
   have f3:¬(24:Int)<((D:Nat):Int):=by omega
   have HR2:Hid (r=oK t T):=aa (by rw[HR1.o,if_neg q2]);have KT:=aa (KT.o (by omega));clear q2;go_wp2_with fail;refine KD.o.mono ?_;rintro r0 w7⟨rfl,s7⟩;have S7:=aa (S6.o.up s7);have T7:=aY.up ⟨s7.size,fun q _ hq _=>s7.block q hq⟩ _ _ T6.o;have B7:=aa ((s7.block _ (aV B6.o)).trans B6.o);obtain⟨d0,d1,d2,d3,-⟩:=ba B7.o;have KT:=aa (KT.o w7 _ _ _ T7);have T7:=aa T7;clear s7;go_wp2_with fail;refine KT.o.mono ?_;rintro r0 w8⟨rfl,s8⟩;have S8:=S7.o.up s8;have T8:=aY.up ⟨s8.size,fun q _ hq _=>s8.block q hq⟩ _ _ T7.o;have B8:=(s8.block _ (aV B7.o)).trans B7.o;obtain⟨d0,d1,d2,d3,-⟩:=ba B8;obtain⟨q0,q1,q2,q3,q4⟩:=cv S8.z;cases T with
   |error c=>
    have HR3:Hid (r=.error (0,c)):=HR2;have hc:=HTE.o c rfl;have f4:(((c:Nat):Int)!=0)=true:=bne_iff_ne.2 (by omega);obtain⟨V,hV,y0,y1,y2,y3,Y,YK,-⟩:=mM S8 (.int .u8 0) (.string ⟨#[]⟩) (.int .i64 0) (.slice none 0 0);clear s8 S8 T8 B8;unfold dA;go_wp2_with fail;exact au (v:=.tuple #[.agg #[.int .u8 0,.string ⟨#[]⟩,.int .i64 0,.slice none 0 0],.int .i64 0,.int .u8 (c:Nat)]) (by simp[results,results18,go_sem,y0,y1,y2,y3]) rfl ⟨by rw[HR3.o];rfl,Y.o⟩
   |ok a=>have HR3:Hid (r=.ok t):=HR2;obtain⟨V,hV,y0,y1,y2,y3,Y,YK,YS⟩:=mM S8 (.int .u8 (k4:Nat)) (.string x4) (.int .i64 (n4:Nat)) (.slice G4 m4 c4);have TV:=aa (aY.up ⟨by rw[YS.o];exact ai _,fun q h1 hq _=>YK.o q (by have:=hlt.o;simp at h1;omega)⟩ _ _ T8);clear s8 S8 T8 B8;unfold dA;go_wp2_with fail;exact au (v:=.tuple #[.agg #[.int .u8 (k4:Nat),.string x4,.int .i64 (n4:Nat),.slice G4 m4 c4],.int .i64 0,.int .u8 0]) (by simp[results,results18,go_sem,y0,y1,y2,y3]) rfl ⟨by rw[HR3.o];exact⟨_,_,_,rfl,TV.o⟩,Y.o⟩
theorem vJ(s:BA)(w:World)(r:Except (Nat×Nat) Tm)(hr:rF s r):Calls prog 18 #[.string s] w fun E w'=>Bo r E w'∧w.Since w.heap.size w':=by
 by_cases h:1000<s.size;·rw[kY h]at hr;subst hr;exact(H8 s w h).mono fun _ _ h=>h
 ·cases hw:a_ cU lang.kept s 0 with
   |error p=>rw[js h hw]at hr;subst hr;exact(EW s w p (by omega) hw).mono fun _ _ h=>h
   |ok l=>obtain⟨f,r0,h1,h2⟩:=(jt h hw r).1 hr;cases r0 with
           |bad p=>have h2:r=.error (p,4):=h2;subst h2;exact(Ni s w l f p (by omega) hw h1).mono fun _ _ h=>h
           |ok ts m=>obtain⟨t,rfl,_⟩:=jO (by omega) hw h1;exact I_ s w l f m t r (by omega) hw h1 h2
def QD(t:Tz)(v:Value):Prop:=(s_ t→v=.tuple #[.string (ofBytes (fz t)),.int .u8 0])∧(¬s_ t→v=.tuple #[.string ⟨#[]⟩,.int .u8 1])
theorem Co{t:Tz}(h:s_ t):shZ t=true∧fr t=fz t:=by obtain⟨u,hu,rfl⟩:=h;have hw:=(gG hu).1.wf;exact⟨Ff u hw,Fc _ u (aG _) hw⟩
theorem Gv{t:Tz}(h:¬s_ t):QD t (.tuple #[.string ⟨#[]⟩,.int .u8 1]):=⟨fun h'=>absurd h' h,fun _=>rfl⟩
theorem Ja{t:Tz}{u:Tm}(hu:rF (ofBytes (fr t)) (.ok u))(he:iL u=t):s_ t∧fr t=fz t:=by
 have hw:=(gG hu).1.wf;have e:fr t=fz t:=by rw[←he];exact Fc _ u (aG _) hw
 exact⟨⟨u,by rw[←e];exact hu,he⟩,e⟩
theorem qa(t:Tz)(cs:List Value)(w:World)(hK:wtZ t≤600)(ht:TzAt w t cs):Calls prog 22 #[.agg cs.toArray] w fun E w'=>(∃v,E=.returned v∧QD t v)∧w.Since w.heap.size w':=by
 obtain⟨k0,x0,n0,G0,m0,c0,rfl⟩:=qh ht;obtain⟨W,hW⟩:∃W,w.alloc (.cells #[.int .u8 (k0:Nat),.string x0,.int .i64 n0,.slice G0 m0 c0] 39)=W:=⟨_,rfl⟩;have hs:w.Since w.heap.size W:=by rw[←hW];exact bI w _
 have hb:W.heap[w.heap.size]?=some (.cells #[.int .u8 (k0:Nat),.string x0,.int .i64 n0,.slice G0 m0 c0] 39):=by rw[←hW];exact aq w _
 have KS:=aa (p_ 600 (by decide) t 3000 W _ hK (by omega) (by decide) (ht.up hs));have KF:=aa (fun V h1(h2:TzAt V t [.int .u8 (k0:Nat),.string x0,.int .i64 n0,.slice G0 m0 c0])=>form_all 600 (by decide) t V _ hK h1 h2);have KE:=aa (fun V(u:Tz)cs(hu:wtZ u≤1000000)(h1:TzAt V u cs)(h2:TzAt V t [.int .u8 (k0:Nat),.string x0,.int .i64 n0,.slice G0 m0 c0])=>jV 1000000 u t V cs _ hu (ai _) h1 h2);have KP:=aa (fun V r(h:rF (ofBytes (fr t)) r)=>vJ (ofBytes (fr t)) V r h);have HS:=aa hs;have HB:=aa hb;have HT:=aa (ht.up hs);obtain⟨t0,t1,t2,t3,-⟩:=ba hb;clear hs hb ht hK;cases hsh:shZ t with
 |false=>
  have HN:=aa (Gv (fun h:s_ t=>by rw[(Co h).1]at hsh;cases hsh));rw[hsh]at KS;clear hsh;go_enter func22,ntmps22;go_wp2_with fail;refine KS.o.mono ?_;rintro r0 w2⟨⟨v,rfl,-⟩,h2⟩;have S2:=aa (bf HS.o h2);clear h2;go_wp2_with fail;exact au (v:=.tuple #[.string ⟨#[]⟩,.int .u8 1]) (by simp[results,results22,go_sem]) rfl ⟨⟨_,rfl,HN.o⟩,S2.o⟩
 |true=>rw[hsh]at KS;have HSH:=aa hsh;obtain⟨r,hr⟩:=rG (ofBytes (fr t));have HU:=aa (fun u(he:r=.ok u)(hz:iL u=t)=>Ja (by rw[←he];exact hr) hz);have HG:=aa (fun u(he:r=.ok u)=>(gG (s:=ofBytes (fr t)) (t:=u) (by rw[←he];exact hr)).1);have HNO:=aa (fun(h:∀u,r=.ok u→iL u≠t)=>Gv (t:=t) (fun hp=>by have e:=(Co hp).2;obtain⟨u,h1,h2⟩:=hp;rw[←e]at h1;exact h u (Hz hr h1) h2));have HER:=aa (fun p c(he:r=.error (p,c))=>Cn (s:=ofBytes (fr t)) (p:=p) (c:=c) (by rw[←he];exact hr));have KP:=aa (fun V=>KP.o V r hr);clear hsh hr;generalize fr t=F at*;go_enter func22,ntmps22;go_wp2_with fail;refine KS.o.mono ?_;rintro r0 w2⟨⟨v,rfl,-⟩,h2⟩;have S2:=aa (bf HS.o h2);have B2:=aa ((h2.block _ (aV HB.o)).trans HB.o);have T2:=aa (HT.o.up h2);obtain⟨t0,t1,t2,t3,-⟩:=ba B2.o;have KF2:=aa (KF.o w2 HSH.o T2.o);clear h2;go_wp2_with fail;refine KF2.o.mono ?_;rintro r0 w3⟨rfl,h3⟩;have S3:=aa (bf S2.o h3);have B3:=aa ((h3.block _ (aV B2.o)).trans B2.o);have T3:=aa (T2.o.up h3);have KP3:=aa (KP.o w3);clear h3;cases r with
         |error pc=>obtain⟨p,c⟩:=pc;have HN:=aa (HNO.o (fun u he=>by cases he));have hc:=HER.o p c rfl;have fc:((c:Int)!=0)=true:=bne_iff_ne.2 (by omega);have KP4:Hid (Calls prog 18 #[.string (ofBytes F)] w3 fun E w'=>E=.returned (.tuple #[.agg #[.int .u8 0,.string ⟨#[]⟩,.int .i64 0,.slice none 0 0],.int .i64 (p:Nat),.int .u8 (c:Nat)])∧w3.Since w3.heap.size w'):=KP3;clear hc;go_wp2_with fail;refine KP4.o.mono ?_;rintro r0 w4⟨rfl,h4⟩;have S4:=aa (bf S3.o h4);have S5:=aa (bf S4.o (bI w4 (.cells #[.int .u8 0,.string ⟨#[]⟩,.int .i64 0,.slice none 0 0] 39)));clear h4;go_wp2_with fail;exact au (v:=.tuple #[.string ⟨#[]⟩,.int .u8 1]) (by simp[results,results22,go_sem]) rfl ⟨⟨_,rfl,HN.o⟩,S5.o⟩
         |ok u=>
          have KP4:Hid (Calls prog 18 #[.string (ofBytes F)] w3 fun E w'=>(∃(cs:List Value)(A:Nat→Prop)(lo:Nat),E=.returned (.tuple #[.agg cs.toArray,.int .i64 0,.int .u8 0])∧aY w' A lo u cs)∧w3.Since w3.heap.size w'):=KP3;go_wp2_with fail;refine KP4.o.mono ?_;rintro r0 w4⟨⟨cs,A,lo,rfl,hz⟩,h4⟩;have hz:=aY.z u cs (HG.o u rfl).n64 hz;obtain⟨k,x,n,G,m,c,rfl⟩:=qh hz;have S4:=aa (bf S3.o h4);have S5:=aa (bI w4 (.cells #[.int .u8 (k:Nat),.string x,.int .i64 n,.slice G m c] 39));have N5:=aa (aq w4 (.cells #[.int .u8 (k:Nat),.string x,.int .i64 n,.slice G m c] 39));have KE5:=aa (KE.o (w4.alloc (.cells #[.int .u8 (k:Nat),.string x,.int .i64 n,.slice G m c] 39)) (iL u) _ (by have:=(HG.o u rfl).wt;omega) (hz.up S5.o) ((T3.o.up h4).up S5.o));obtain⟨W5,hW5⟩:∃W5,w4.alloc (.cells #[.int .u8 (k:Nat),.string x,.int .i64 n,.slice G m c] 39)=W5:=⟨_,rfl⟩;rw[hW5]at S5 N5 KE5;obtain⟨y0,y1,y2,y3,-⟩:=ba ((S5.o.block _ (aV ((h4.block _ (aV B3.o)).trans B3.o))).trans ((h4.block _ (aV B3.o)).trans B3.o));obtain⟨u0,u1,u2,u3,-⟩:=ba N5.o;have S5':=aa (bf S4.o S5.o);by_cases hq:iL u=t;·have HP:=aa (HU.o u rfl hq);rw[hq,(jP t t).2 rfl]at KE5;clear hz h4 hq;go_wp2_with fail;refine KE5.o.mono ?_;rintro r0 w6⟨rfl,h6⟩;have S6:=aa (bf S5'.o h6);clear h6;go_wp2_with fail;exact au (v:=.tuple #[.string (ofBytes F),.int .u8 0]) (by simp[results,results22,go_sem]) rfl ⟨⟨_,rfl,fun _=>by rw[HP.o.2],fun h=>absurd HP.o.1 h⟩,S6.o⟩
          ·have HN:=aa (HNO.o (fun v he=>by injection he with he;rw[←he];exact hq));rw[show yB (iL u) t=false from by rw[aC];exact fun e=>hq ((jP _ _).1 e)]at KE5;clear hz h4 hq;go_wp2_with fail;refine KE5.o.mono ?_;rintro r0 w6⟨rfl,h6⟩;have S6:=aa (bf S5'.o h6);clear h6;go_wp2_with fail;exact au (v:=.tuple #[.string ⟨#[]⟩,.int .u8 1]) (by simp[results,results22,go_sem]) rfl ⟨⟨_,rfl,HN.o⟩,S6.o⟩
