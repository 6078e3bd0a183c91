/- Typed of the specification walked. -/
import Derived.Test.YthbdlnflmfchjaaGreatDoorUH
set_option linter.unusedVariables false
set_option linter.unusedSimpArgs false
namespace Go.Proofs.YthbdlnflmfchjaaGreatDoor
open Go.Proofs.Tryz
open Go.RowKit Go.Proofs.Fm Go.Proofs.MapEnt
set_option maxHeartbeats 3200000
set_option maxRecDepth 1000000
def Qd(K:Nat):Prop:=∀(t:Tm)(ns:List BA)(w:World)(A:Nat→Prop)(lo:Nat)(cs:List Value)(Gn:Option Addr)(cn:Nat),mh t≤K→K≤100000→nH t→ns.length+iO t≤1000→aY w A lo t cs→lp w Gn ns→Calls prog 47 #[.agg cs.toArray,.slice Gn ns.length cn] w fun E w'=>E=dA (fQ t ns)∧w.Since w.heap.size w'
def Ha(a:Nat):Value:=.int .u8 (dI a:Nat)
theorem vA:∀(ts:List Tm)(i:Nat)(h:i<ts.length),iO ts[i]≤gu ts
 |[],i,h=>absurd h (aH _)
 |t::ts,0,h=>by show iO t≤max (iO t) (gu ts);omega
 |t::ts,i+1,h=>by have h':i<ts.length:=Nat.lt_of_succ_lt_succ h;have:=vA ts i h';show iO ts[i]≤max (iO t) (gu ts);omega
theorem ui(q:Bool)(x:BA)(i:Nat)(ns:List BA):(ll q x i ns).length≤ns.length+1:=by
 unfold ll;split;·rw[List.length_append];simp
 ·omega
theorem Is{w:World}{base:Nat}{G:Option Addr}{c:Nat}{ks:List Nat}(h:w.ownsRow base 5 1 (.slice G ks.length c) ks.length (ks.map Ha)):Np w G ks:=fun i hi=>by
 rcases h.2 with⟨_,h2⟩|⟨g,cp,cur,e,_,h3,_⟩;·omega
 ·
  injection e with e _ _;subst e;refine⟨g,rfl,aV h3,?_⟩;have h1:=h.cells (g:=g) rfl i (Ha ks[i]) (by rw[List.getElem?_map,aD hi];rfl);have e1:((⟨g,0,none⟩:Addr).add i)=⟨g,i,none⟩:=by unfold Addr.add;split<;>simp_all
  rw[e1]at h1;exact h1
theorem uj:∀K,Qd K
 |0,.mk k x n subs,ns,w,A,lo,cs,Gn,cn,hK,_,_,_,_,_=>by rw[mh]at hK;omega
 |K+1,.mk k x n subs,ns,w,A,lo,cs,Gn,cn,hK,hM,hok,hd,h,hns=>by
   have IH:=aa (uj K);rw[mh]at hK;rw[iO]at hd;rw[nH]at hok;unfold aY at h;obtain⟨G,c,us,rfl,hr,hs⟩:=h;have HG:=aa (fun i h=>rW hr hs i h);have HR:=aa (lM k x n subs ns);have hnl:ns.length≤1000:=by omega
   have hlen:subs.length≤100000:=by have:=im subs;omega
   have HO:Hid (∀(ks:List Nat)(W:World)(Gl:Option Addr)(cl:Nat),je (eO k) x subs 0 ns=.ok ks→w.Since w.heap.size W→W.ownsRow (w.heap.size+1) 5 1 (.slice Gl ks.length cl) ks.length (ks.map Ha)→Calls prog 104 #[.agg #[.int .u8 (k:Nat),.string x,.int .i64 (n:Nat),.slice G subs.length c],.slice Gl ks.length cl,.slice Gn ns.length cn] W fun E w'=>E=dA (cF k x subs ks ns)∧W.Since W.heap.size w'):=aa (fun ks W Gl cl h1 h2 h3=>FP W A lo k n x subs ks ns G Gl Gn c cl cn us (FQ (hr.up ⟨h2.size,fun q _ hq _=>h2.block q hq⟩) (bn.up ⟨h2.size,fun q _ hq _=>h2.block q hq⟩ _ _ hs) (Is h3) (hns.up h2) hnl hok.1 hok.2 hlen h1));have HD:=aa (fun i(h:i<subs.length)=>vA subs i h);have HSB:=aa (fun i h=>ot subs i h);have HK:=aa hK;have HDD:=aa hd;have HY:=aa (fun i h=>nU subs hok.2 i h);have HN:=aa hns;have HT:=aa (mQ.start (eO k) x subs ns);obtain⟨TL,hTL⟩:∃TL,je (eO k) x subs 0 ns=TL:=⟨_,rfl⟩;rw[hTL]at HT HR;have HO:=aa (fun ks W Gl cl(e:TL=.ok ks)=>HO.o ks W Gl cl (hTL.trans e));generalize fQ (.mk k x n subs) ns=R at HR⊢;have S1:Hid (w.Since w.heap.size (w.alloc (.cells #[.int .u8 (k:Nat),.string x,.int .i64 (n:Nat),.slice G subs.length c] 39))):=aa ((ah _ _).alloc (ai _) _);have B1:=aa (aq w (.cells #[.int .u8 (k:Nat),.string x,.int .i64 (n:Nat),.slice G subs.length c] 39));clear hr hs hK hd hok hns hTL;go_enter func47,ntmps47;go_wp2_with fail;go_loopg[6,7]subs.length(fun gg o6 o7 wr=>∃(i cl:Nat)(Gl:Option Addr)(ks:List Nat),gg=subs.length-i∧i≤subs.length∧o6=.slice Gl i cl∧o7=.int .i64 (i:Nat)∧Hid (ks.length=i)∧Hid (mQ (eO k) x subs ns TL i ks)∧Hid (wr.ownsRow (w.heap.size+1) 5 1 (.slice Gl i cl) i (ks.map Ha))∧Hid (w.Since w.heap.size wr)∧Hid (wr.heap[w.heap.size]?=some (.cells #[.int .u8 (k:Nat),.string x,.int .i64 (n:Nat),.slice G subs.length c] 39)));case atStart=>exact⟨0,0,none,[],rfl,by omega,rfl,rfl,aa rfl,HT,aa ⟨rfl,.inl ⟨rfl,rfl⟩⟩,S1,B1⟩
   case round=>
    obtain⟨i,cl,Gl,ks,rfl,hi,rfl,rfl,hkl,hTy,hO,hW,hB⟩:=hrel;obtain⟨p0,p1,p2,p3,-⟩:=ba hB.o;by_cases h1:i<subs.length;·
     have i1:(i:Int)<(subs.length:Int):=by omega
     go_upto_region 6 with fail;go_cut[30]from 11 to 54(fun v wx=>v=.bool (decide (i=1)&&eO k)∧wx=wr);case first=>
      by_cases q1:i=1;·
       have f1:((i:Int)==1)=true:=ag (by omega);by_cases q3:k=15;·
        have f15:((k:Int)==15)=true:=ag (by omega);have HB:Hid ((decide (i=1)&&eO k)=true):=aa (by subst q1 q3;rfl);clear q1 q3;go_wp2_with fail;go_meet;exact⟨by rw[HB.o],rfl⟩
       ·
        have f15:((k:Int)==15)=false:=ae (by omega);by_cases q4:k=16;·
         have f16:((k:Int)==16)=true:=ag (by omega);have HB:Hid ((decide (i=1)&&eO k)=true):=aa (by subst q1 q4;rfl);clear q1 q3 q4;go_wp2_with fail;go_meet;exact⟨by rw[HB.o],rfl⟩
        ·have f16:((k:Int)==16)=false:=ae (by omega);have HB:Hid ((decide (i=1)&&eO k)=false):=aa (by unfold eO;rw[aA q3,aA q4];simp);clear q1 q3 q4;go_wp2_with fail;go_meet;exact⟨by rw[HB.o],rfl⟩
      ·have f1:((i:Int)==1)=false:=ae (by omega);have HB:Hid ((decide (i=1)&&eO k)=false):=aa (by rw[aA q1];rfl);clear q1;go_wp2_with fail;go_meet;exact⟨by rw[HB.o],rfl⟩
     case rest=>
      obtain⟨rfl,rfl⟩:=hcut;obtain⟨wo,hwo⟩:∃wo,wo=wc:=⟨_,rfl⟩;subst hwo;have HI:Hid (ll (eO k) x i ns=if(decide (i=1)&&eO k)=true then ns++[x]else ns):=aa rfl;have HIL:=aa (ui (eO k) x i ns);obtain⟨qb,hqb⟩:∃qb,(decide (i=1)&&eO k)=qb:=⟨_,rfl⟩;obtain⟨NI,hNI⟩:∃NI,ll (eO k) x i ns=NI:=⟨_,rfl⟩;rw[hqb,hNI]at HI;rw[hqb];rw[hNI]at HIL;have HNI:=aa hNI;clear hqb hNI;go_upto_if 30 with fail;go_cut[8]from 11 to 54(fun v wx=>∃(Gi:Option Addr)(ci:Nat),v=.slice Gi NI.length ci∧Hid (lp wx Gi NI)∧Hid (wo.Since wo.heap.size wx));case first=>
       cases qb with
       |false=>have HI:Hid (NI=ns):=HI;have HN2:=aa (HN.o.up hW.o);rw[←HI.o]at HN2;go_wp2_with fail;go_meet;exact⟨Gn,cn,by rw[HI.o],HN2,aa (ah _ _)⟩
       |true=>
        have HI:Hid (NI=ns++[x]):=HI;go_upto_region 7 with fail;have HNW:=HN.o.up hW.o;obtain⟨WA,gA,cA,WA2,gA2,cA2,rA1,rA2,sA,nA,tA⟩:=OO (W:=wo) x cn HNW hnl;obtain⟨WB,gB,cB,WB2,gB2,cB2,rB1,rB2,sB,nB,tB⟩:=OQ (W:=wo) x cn HNW hnl;obtain⟨WC,gC,cC,WC2,gC2,cC2,rC1,rC2,sC,nC,tC⟩:=OR (W:=wo) x cn HNW hnl;have pA:WA.cell? ⟨w.heap.size,1,none⟩=some (.string x):=(az (sA.o.block _ (aV hB.o))).trans p1;have pB:WB.cell? ⟨w.heap.size,1,none⟩=some (.string x):=(az (sB.o.block _ (aV hB.o))).trans p1;have pC:WC.cell? ⟨w.heap.size,1,none⟩=some (.string x):=(az (sC.o.block _ (aV hB.o))).trans p1;have HL2:Hid (NI.length=ns.length+1):=aa (by rw[HI.o,List.length_append];rfl);have p00:(wo.alloc (.cells #[] 9)).cell? ⟨w.heap.size,1,none⟩=some (.string x):=(av wo (.cells #[] 9) _ (aV hB.o)).trans p1;unfold E0 X0 at*;clear HNW;go_region_law(
         first|(with_reducible refine dw ?_ (.tmp 31) (.tmp 32) ?_ ?_ rA1 ?_ ?_ ?_;exact rfl;exact rfl;exact rfl;simp[Act.eval,Act.put];simp[Act.eval,Act.put])|
          (with_reducible refine dw ?_ (.tmp 33) (.tmp 36) ?_ ?_ rA2 ?_ ?_ ?_;exact rfl;exact rfl;exact rfl;simp[Act.eval,Act.put];simp[Act.eval,Act.put])|
          (with_reducible refine dw ?_ (.tmp 31) (.tmp 32) ?_ ?_ rB1 ?_ ?_ ?_;exact rfl;exact rfl;exact rfl;simp[Act.eval,Act.put];simp[Act.eval,Act.put])|
          (with_reducible refine dw ?_ (.tmp 33) (.tmp 36) ?_ ?_ rB2 ?_ ?_ ?_;exact rfl;exact rfl;exact rfl;simp[Act.eval,Act.put];simp[Act.eval,Act.put])|
          (with_reducible refine dw ?_ (.tmp 31) (.tmp 32) ?_ ?_ rC1 ?_ ?_ ?_;exact rfl;exact rfl;exact rfl;simp[Act.eval,Act.put];simp[Act.eval,Act.put])|
          (with_reducible refine dw ?_ (.tmp 33) (.tmp 36) ?_ ?_ rC2 ?_ ?_ ?_;exact rfl;exact rfl;exact rfl;simp[Act.eval,Act.put];simp[Act.eval,Act.put]));all_goals
         (go_wp2_with fail;go_meet)
        all_goals
         first
         |exact⟨_,_,by rw[HL2.o],aa (.inr ⟨_,rfl,by rw[HI.o];exact nA.o⟩),tA⟩
         |exact⟨_,_,by rw[HL2.o],aa (.inr ⟨_,rfl,by rw[HI.o];exact nB.o⟩),tB⟩
         |exact⟨_,_,by rw[HL2.o],aa (.inr ⟨_,rfl,by rw[HI.o];exact nC.o⟩),tC⟩
      case rest=>
       obtain⟨Gi,ci,rfl,hNi,hSi⟩:=hcut;obtain⟨b,kk,xx,nn,G',m,cc,ss,hG,hb,hts,ht,g0,g1,g2,g3⟩:=HG.o i h1;have hW2:=aa (aZ hW.o hSi.o);have hB2:=aa ((hSi.o.block w.heap.size (aV hB.o)).trans hB.o);have hO2:Hid (wc.ownsRow (w.heap.size+1) 5 1 (.slice Gl i cl) i (ks.map Ha)):=aa (cZ hO.o (fun q _ hq=>hSi.o.block q hq));obtain⟨-,-,-,y3,-⟩:=ba hB2.o;have lift:∀j v,w.cell? ⟨b,j,none⟩=some v→wc.cell? ⟨b,j,none⟩=some v:=fun j v hj=>(az (hW2.o.block b hb)).trans hj;have d0:=lift _ _ g0;have d1:=lift _ _ g1;have d2:=lift _ _ g2;have d3:=lift _ _ g3;rw[hG]at y3;have ht2:aY wc A lo subs[i] [.int .u8 (kk:Nat),.string xx,.int .i64 (nn:Nat),.slice G' m cc]:=aY.up ⟨hW2.o.size,fun q _ hq _=>hW2.o.block q hq⟩ _ _ ht;have KI:=aa (IH.o subs[i] NI wc A lo _ Gi ci (by have:=HSB.o i h1;have:=HK.o;omega) (by omega) (HY.o i h1) (by have:=HD.o i h1;have:=HDD.o;have:=HIL.o;omega) ht2 hNi.o);have HER:=aa (jz subs[i] NI);have HNX:Hid (∀a,fQ subs[i] NI=.ok a→mQ (eO k) x subs ns TL (i+1) (ks++[a])):=aa (fun a ha=>hTy.o.next h1 (by rw[HNI.o];exact ha));have HBX:Hid (∀e,fQ subs[i] NI=.error e→TL=.error e):=aa (fun e he=>hTy.o.bad h1 (by rw[HNI.o];exact he));generalize fQ subs[i] NI=ty at*;clear hts ht ht2 g0 g1 g2 g3 lift hG;go_wp2_with fail;refine KI.o.mono ?_;rintro rr w3⟨rfl,hs3⟩;have W3:=aa (aZ hW2.o hs3);have B3:=aa ((hs3.block w.heap.size (aV hB2.o)).trans hB2.o);have O3:Hid (w3.ownsRow (w.heap.size+1) 5 1 (.slice Gl i cl) i (ks.map Ha)):=aa (cZ hO2.o (fun q _ hq=>hs3.block q hq));clear hs3;cases ty with
       |error e=>
        have he:=HER.o e rfl;have hR2:Hid (R=.error e):=aa (by rw[HR.o,HBX.o e rfl]);have f5:((e:Int)!=0)=true:=bne_iff_ne.2 (by omega);unfold dA;go_wp2_with fail;exact au (v:=.tuple #[.int .u8 0,.int .u8 (e:Nat)]) (by simp[results,results47,go_sem]) rfl ⟨by rw[hR2.o];rfl,W3.o⟩
       |ok a=>
        have hTn:=aa (HNX.o a rfl);have z5:IntKind.i64.wrap ((i:Int)+1)=(i:Int)+1:=ax _ (by omega);obtain⟨v',w6,g',cap',a1,hv',hg1,hg2,O6,S6,-⟩:=cG underlying190 BY rfl (by decide) (by decide) w3 (w.heap.size+1) Gl i cl (ks.map Ha) [Ha a] O3.o rfl (fun u hu=>by rw[aK.1 hu];rfl) (by omega) (aV B3.o);subst hv';have W6:Hid (w.Since w.heap.size w6):=aa (W3.o.trans ⟨S6.o.os,S6.o.tape,S6.o.output,S6.o.size,fun q hq=>S6.o.block q (by omega)⟩);have B6:=aa ((S6.o.block w.heap.size (aG _)).trans B3.o);clear hg1 hg2;unfold Ha at a1;unfold dA;go_wp2_with(refine cV (ts:=190) (v:=.slice Gl i cl) (xv:=.slice (some ⟨w3.heap.size,0,none⟩) 1 1) (v':=.slice (some ⟨g',0,none⟩) (i+1) cap') (w':=w6) ?_ (.tmp 51) (.tmp 53) ?_ ?_ ?_ ?_ ?_ ?_;exact rfl;exact rfl;exact rfl;exact rfl;exact rfl;exact a1);go_roundg(subs.length-(i+1));case measure=>omega
        case rel=>
         exact⟨i+1,cap',some ⟨g',0,none⟩,ks++[a],rfl,by omega,rfl,by simp,aa (by rw[List.length_append,hkl.o];rfl),hTn,aa (by rw[List.map_append];exact O6.o),W6,B6⟩
    ·
     have i1:¬(i:Int)<(subs.length:Int):=by omega
     have hT2:Hid (TL=.ok ks):=aa (hTy.o.all h1);have hO2:Hid (wr.ownsRow (w.heap.size+1) 5 1 (.slice Gl ks.length cl) ks.length (ks.map Ha)):=aa (by rw[hkl.o];exact hO.o);have KI:=aa (HO.o ks wr Gl cl hT2.o hW.o hO2.o);rw[hkl.o]at KI;have HR2:Hid (R=cF k x subs ks ns):=aa (by rw[HR.o,hT2.o]);go_wp2_with fail;refine KI.o.mono ?_;rintro rr w3⟨rfl,hs3⟩;have W3:=aa (aZ hW.o hs3);clear hs3;rw[←HR2.o];cases R with
     |ok a=>unfold dA;go_wp2_with fail;exact au (v:=.tuple #[.int .u8 (dI a:Nat),.int .u8 0]) (by simp[results,results47,go_sem]) rfl ⟨rfl,W3.o⟩
     |error e=>unfold dA;go_wp2_with fail;exact au (v:=.tuple #[.int .u8 0,.int .u8 (e:Nat)]) (by simp[results,results47,go_sem]) rfl ⟨rfl,W3.o⟩
