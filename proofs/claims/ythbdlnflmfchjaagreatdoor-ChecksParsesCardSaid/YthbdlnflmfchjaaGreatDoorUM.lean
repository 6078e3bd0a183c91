/- The program's typed walked. -/
import Derived.Test.YthbdlnflmfchjaaGreatDoorUM1
import Derived.Test.YthbdlnflmfchjaaGreatDoorUE
set_option linter.unusedVariables false
set_option linter.unusedSimpArgs false
namespace Go.Proofs.YthbdlnflmfchjaaGreatDoor
open Go.Proofs.Tryz
open Go.RowKit Go.Proofs.Fm Go.Proofs.MapEnt
set_option maxHeartbeats 6400000
set_option maxRecDepth 1000000
def Hb(a:Nat):Value:=.int .u8 (a:Nat)
theorem Iz{w:World}{base:Nat}{G:Option Addr}{c:Nat}{ks:List Nat}(h:w.ownsRow base 104 1 (.slice G ks.length c) ks.length (ks.map Hb)):rZ w G ks:=fun i hi=>by
 rcases h.2 with⟨_,h2⟩|⟨g,cp,cur,e,_,h3,_⟩;·omega
 ·
  injection e with e _ _;subst e;refine⟨g,rfl,aV h3,?_⟩;have h1:=h.cells (g:=g) rfl i (Hb ks[i]) (by rw[List.getElem?_map,aD hi];rfl);have e1:((⟨g,0,none⟩:Addr).add i)=⟨g,i,none⟩:=by unfold Addr.add;split<;>simp_all
  rw[e1]at h1;exact h1
theorem IA:(prog.info? 104).map (fun i=>(i.zero,i.size,i.bytes))=some (some (.int .u8 0),1,1):=by kernel_rfl
theorem LU{P:Prop}(h:P:=by
 go_wp2_with fail;exact au (v:=.tuple #[.int .u8 4,.int .u8 0]) (by simp[results,results41,go_sem]) rfl ⟨by rw[HX.o];rfl,hW.o⟩):P:=h
theorem LV{P:Prop}(h:P:=by rw[HR2.o];unfold cF;rw[if_neg (by omega),if_neg (by omega),if_neg (by omega),if_pos (by omega)]):P:=h
theorem LX{P:Prop}(h:P:=by unfold eD at h;injection h with h;injection h with _ h;exact absurd h (by decide)):P:=h
theorem LY{P:Prop}(h:P:=by
 go_wp2_with fail;exact au (v:=.tuple #[.int .u8 0,.int .u8 1]) (by simp[results,results41,go_sem]) rfl ⟨by rw[HX2.o];rfl,W4.o⟩):P:=h
theorem F6{P:Prop}(h:P:=by
 cases hq:ks.all (fun a=>decide (a=1))with
 |true=>rw[hq]at KA HX;have HX2:Hid (R=.ok 1):=aa HX.o;clear hq;go_wp2_with fail;refine KA.o.mono ?_;rintro rr w3⟨rfl,hs3⟩;have W3:=aa (aZ hW.o hs3);clear hs3;go_wp2_with fail;exact au (v:=.tuple #[.int .u8 1,.int .u8 0]) (by simp[results,results41,go_sem]) rfl ⟨by rw[HX2.o];rfl,W3.o⟩
 |false=>
  rw[hq]at KA HX;have HX2:Hid (R=.error 1):=aa HX.o;clear hq;go_wp2_with fail;refine KA.o.mono ?_;rintro rr w3⟨rfl,hs3⟩;have W3:=aa (aZ hW.o hs3);clear hs3;go_wp2_with fail;exact au (v:=.tuple #[.int .u8 0,.int .u8 1]) (by simp[results,results41,go_sem]) rfl ⟨by rw[HX2.o];rfl,W3.o⟩):P:=h
theorem F7{P:Prop}(h:P:=by rw[HR2.o];unfold cF;rw[if_neg (by omega),if_neg (by omega),if_neg (by omega),if_neg (by omega),if_neg (by omega),if_pos (by omega)]):P:=h
theorem LZ{P:Prop}(h:P:=by
 by_cases hq:a=3;·
  have g3:((a:Int)==3)=true:=ag (by omega);have HX2:Hid (R=.ok 5):=aa (by rw[HX.o,if_pos hq]);clear hq;go_upto_region 42 with fail;go_region;all_goals go_wp2_with fail
  all_goals
   exact au (v:=.tuple #[.int .u8 5,.int .u8 0]) (by simp[results,results41,go_sem]) rfl ⟨by rw[HX2.o];rfl,W2.o⟩
 ·
  have g3:((a:Int)==3)=false:=ae (by omega);have HX2:Hid (R=.error 1):=aa (by rw[HX.o,if_neg hq]);clear hq;go_upto_region 42 with fail;go_region;all_goals go_wp2_with fail
  all_goals
   exact au (v:=.tuple #[.int .u8 0,.int .u8 1]) (by simp[results,results41,go_sem]) rfl ⟨by rw[HX2.o];rfl,W2.o⟩):P:=h
theorem L0{P:Prop}(h:P:=by rw[HR2.o];unfold cF;rw[if_neg (by omega),if_neg (by omega),if_neg (by omega),if_neg (by omega),if_neg (by omega),if_neg (by omega),if_neg (by omega),if_pos (by omega),aD (show 0<ks.length by omega)];rfl):P:=h
theorem ye(K:Nat)(hM:K+1≤100000)(IH0:lq K)(k:Nat)(x:BA)(n:Nat)(subs:List Tm)(ns:List BA)(w:World)(A:Nat→Prop)(lo:Nat)(cs:List Value)(Gn:Option Addr)(cn:Nat)(hK:mh (.mk k x n subs)≤K+1)(hok:nH (.mk k x n subs))(hd:ns.length+iO (.mk k x n subs)≤1000)(h:aY w A lo (.mk k x n subs) cs)(hns:lp w Gn ns)(hz:Gn=none→cn=0)(hT:Tabs w):Calls prog 41 #[.agg cs.toArray,.slice Gn ns.length cn] w fun E w'=>E=lO (fQ (.mk k x n subs) ns)∧w.Since w.heap.size w':=by
 have IH:=aa IH0;rw[mh]at hK;rw[iO]at hd;rw[nH]at hok;unfold aY at h;obtain⟨G,c,us,rfl,hr,hs⟩:=h;have HG:=aa (fun i h=>rW hr hs i h);have HR:=aa (lM k x n subs ns);have hnl:ns.length≤1000:=by omega
 have hlen:subs.length≤100000:=by have:=im subs;omega
 have HD:=aa (fun i(h:i<subs.length)=>vA subs i h);have HSB:=aa (fun i h=>ot subs i h);have HK:=aa hK;have HDD:=aa hd;have HY:=aa (fun i h=>nU subs hok.2 i h);have HH:=aa hok.1;have HN:=aa hns;have HZ:=aa hz;have HTb:=aa hT;have HT:=aa (mQ.start (eO k) x subs ns);obtain⟨TL,hTL⟩:∃TL,je (eO k) x subs 0 ns=TL:=⟨_,rfl⟩;rw[hTL]at HT HR;have HTL:=aa hTL;generalize fQ (.mk k x n subs) ns=R at HR⊢;have S1:Hid (w.Since w.heap.size ((w.alloc (.cells #[.int .u8 (k:Nat),.string x,.int .i64 (n:Nat),.slice G subs.length c] 39)).alloc (.cells #[.slice none 0 0] 143))):=aa (((ah _ _).alloc (ai _) _).alloc (by simp) _);have B1:Hid (((w.alloc (.cells #[.int .u8 (k:Nat),.string x,.int .i64 (n:Nat),.slice G subs.length c] 39)).alloc (.cells #[.slice none 0 0] 143)).heap[w.heap.size]?=some (.cells #[.int .u8 (k:Nat),.string x,.int .i64 (n:Nat),.slice G subs.length c] 39)):=aa ((aj _ _ _ (by simp)).trans (aq w _));have B2:Hid (((w.alloc (.cells #[.int .u8 (k:Nat),.string x,.int .i64 (n:Nat),.slice G subs.length c] 39)).alloc (.cells #[.slice none 0 0] 143)).heap[w.heap.size+1]?=some (.cells #[.slice none 0 0] 143)):=by have:=aq (w.alloc (.cells #[.int .u8 (k:Nat),.string x,.int .i64 (n:Nat),.slice G subs.length c] 39)) (.cells #[.slice none 0 0] 143);rw[World.size_alloc]at this;exact aa this
 clear hr hs hK hd hok hns hz hTL hT;go_enter func41,ntmps41;go_wp2_with fail;go_loopg[19]subs.length(fun gg o19 wr=>∃(i cl:Nat)(Gl:Option Addr)(ks:List Nat),gg=subs.length-i∧i≤subs.length∧o19=.int .i64 (i:Nat)∧Hid (ks.length=i)∧Hid (mQ (eO k) x subs ns TL i ks)∧Hid (wr.ownsRow (w.heap.size+1+1) 104 1 (.slice Gl i cl) i (ks.map Hb))∧Hid (w.Since w.heap.size wr)∧Hid (wr.heap[w.heap.size]?=some (.cells #[.int .u8 (k:Nat),.string x,.int .i64 (n:Nat),.slice G subs.length c] 39))∧Hid (wr.heap[w.heap.size+1]?=some (.cells #[.slice Gl i cl] 143)));case atStart=>exact⟨0,0,none,[],rfl,by omega,rfl,aa rfl,HT,aa ⟨rfl,.inl ⟨rfl,rfl⟩⟩,S1,B1,B2⟩
 case round=>
  obtain⟨i,cl,Gl,ks,rfl,hi,rfl,hkl,hTy,hO,hW,hB,hB2⟩:=hrel;obtain⟨p0,p1,p2,p3,-⟩:=ba hB.o;have hc6:=jB hB2.o;by_cases h1:i<subs.length;·
   as_aux_lemma=>
    have i1:(i:Int)<(subs.length:Int):=by omega
    obtain⟨b,kk,xx,nn,G',m,cc,ss,hG,hb,hts,ht,g0,g1,g2,g3⟩:=HG.o i h1;have lift0:∀j v,w.cell? ⟨b,j,none⟩=some v→wr.cell? ⟨b,j,none⟩=some v:=fun j v hj=>(az (hW.o.block b hb)).trans hj;have d0:=lift0 _ _ g0;have d1:=lift0 _ _ g1;have d2:=lift0 _ _ g2;have d3:=lift0 _ _ g3;have q0:∀o,(wr.alloc o).cell? ⟨w.heap.size,0,none⟩=some (.int .u8 (k:Nat)):=fun o=>(av wr o _ (aV hB.o)).trans p0;go_upto_region 6 with fail;have HGe:=aa hG;clear hG;go_cut[36]from 20 to 56(fun v wx=>v=.bool (decide (i=1)&&eO k)∧wx=wr.alloc (.cells #[.int .u8 (kk:Nat),.string xx,.int .i64 (nn:Nat),.slice G' m cc] 39));case first=>
     by_cases r1:i=1;·
      have f1:((i:Int)==1)=true:=ag (by omega);by_cases r3:k=15;·
       have f15:((k:Int)==15)=true:=ag (by omega);have HB:Hid ((decide (i=1)&&eO k)=true):=aa (by subst r1 r3;rfl);clear r1 r3;go_wp2_with fail;go_meet;exact⟨by rw[HB.o],rfl⟩
      ·
       have f15:((k:Int)==15)=false:=ae (by omega);by_cases r4:k=16;·
        have f16:((k:Int)==16)=true:=ag (by omega);have HB:Hid ((decide (i=1)&&eO k)=true):=aa (by subst r1 r4;rfl);clear r1 r3 r4;go_wp2_with fail;go_meet;exact⟨by rw[HB.o],rfl⟩
       ·have f16:((k:Int)==16)=false:=ae (by omega);have HB:Hid ((decide (i=1)&&eO k)=false):=aa (by unfold eO;rw[aA r3,aA r4];simp);clear r1 r3 r4;go_wp2_with fail;go_meet;exact⟨by rw[HB.o],rfl⟩
     ·have f1:((i:Int)==1)=false:=ae (by omega);have HB:Hid ((decide (i=1)&&eO k)=false):=aa (by rw[aA r1];rfl);clear r1;go_wp2_with fail;go_meet;exact⟨by rw[HB.o],rfl⟩
    case rest=>
     obtain⟨rfl,hwc⟩:=hcut;have HI:Hid (ll (eO k) x i ns=if(decide (i=1)&&eO k)=true then ns++[x]else ns):=aa rfl;have HIL:=aa (ui (eO k) x i ns);obtain⟨qb,hqb⟩:∃qb,(decide (i=1)&&eO k)=qb:=⟨_,rfl⟩;obtain⟨NI,hNI⟩:∃NI,ll (eO k) x i ns=NI:=⟨_,rfl⟩;rw[hqb,hNI]at HI;rw[hqb];rw[hNI]at HIL;have HNI:=aa hNI;clear hqb hNI;obtain⟨wo,hwo⟩:∃wo,wo=wc:=⟨_,rfl⟩;subst hwo;have hso:Hid (wr.Since wr.heap.size wo):=aa (by rw[hwc];exact(ah _ _).alloc (ai _) _);have hbo:Hid (wo.heap[wr.heap.size]?=some (.cells #[.int .u8 (kk:Nat),.string xx,.int .i64 (nn:Nat),.slice G' m cc] 39)):=aa (by rw[hwc];exact aq wr _);clear hwc;have hWo:=aa (aZ hW.o hso.o);have hBo:=aa ((hso.o.block w.heap.size (aV hB.o)).trans hB.o);obtain⟨-,t1,-,-,-⟩:=ba hBo.o;go_upto_if 36 with fail;go_cut[9]from 20 to 56(fun v wx=>∃(Gi:Option Addr)(ci:Nat),v=.slice Gi NI.length ci∧Hid (lp wx Gi NI)∧Hid (wo.Since wo.heap.size wx)∧Hid (Gi=none→ci=0));case first=>
      cases qb with
      |false=>have HI:Hid (NI=ns):=HI;have HN2:=aa (HN.o.up hWo.o);rw[←HI.o]at HN2;go_wp2_with fail;go_meet;exact⟨Gn,cn,by rw[HI.o],HN2,aa (ah _ _),HZ⟩
      |true=>
       have HI:Hid (NI=ns++[x]):=HI;go_upto_region 7 with fail;have HNo:=aa (HN.o.up hWo.o);have KCl:=aa (fun W(h:wo.Since wo.heap.size W)=>yf ns W Gn cn (HNo.o.up h) hnl HZ.o);have HL2:Hid (NI.length=ns.length+1):=aa (by rw[HI.o,List.length_append];rfl);have sA:Hid (wo.Since wo.heap.size wo.drew):=aa (ah _ _).drew;have sB:Hid (wo.Since wo.heap.size (wo.alloc (.cells #[.string x] 9)).drew):=aa ((ah _ _).alloc (ai _) _).drew;have FA:Hid (∀w3 G3 c3,w3.ownsRow wo.drew.heap.size 9 1 (.slice G3 ns.length c3) ns.length (ns.map Value.string)→wo.drew.Since wo.drew.heap.size w3→w3.cell? ⟨w.heap.size,1,none⟩=some (.string x)∧∃W' g' cp',(Builtin.append_ #[70,70] 70 #[.slice G3 ns.length c3,.slice (some ⟨w3.heap.size,0,none⟩) 1 1]).run prog (w3.alloc (.cells #[.string x] 9))=.ok (.slice (some ⟨g',0,none⟩) (ns.length+1) cp') W'∧Hid (dc W' g' (ns++[x]))∧Hid (wo.Since wo.heap.size W')):=aa (fun w3 G3 c3 o3 s3=>by refine⟨(s3.cell (a:=⟨w.heap.size,1,none⟩) (aV hBo.o)).trans t1,?_⟩;have hs3:wo.Since wo.heap.size w3:=⟨s3.os,s3.tape,s3.output,s3.size,s3.block⟩;have hs4:=hs3.alloc hs3.size (.cells #[.string x] 9);obtain⟨W',g',cp',a1,a2,a3⟩:=uq (W:=w3.alloc (X0 x)) (base:=wo.heap.size) (X:=w3.heap.size) x (cZ o3 (fun q _ hq=>aj w3 _ q hq)) rfl (nY (aq w3 (X0 x))) hs4.size (by omega);exact⟨W',g',cp',a1,a2,aa (hs4.trans a3.o)⟩);have FB:Hid (∀w3 G3 c3,w3.ownsRow (wo.alloc (.cells #[.string x] 9)).drew.heap.size 9 1 (.slice G3 ns.length c3) ns.length (ns.map Value.string)→(wo.alloc (.cells #[.string x] 9)).drew.Since (wo.alloc (.cells #[.string x] 9)).drew.heap.size w3→w3.cell? ⟨w.heap.size,1,none⟩=some (.string x)∧∃W' g' cp',(Builtin.append_ #[70,70] 70 #[.slice G3 ns.length c3,.slice (some ⟨wo.heap.size,0,none⟩) 1 1]).run prog w3=.ok (.slice (some ⟨g',0,none⟩) (ns.length+1) cp') W'∧Hid (dc W' g' (ns++[x]))∧Hid (wo.Since wo.heap.size W')):=aa (fun w3 G3 c3 o3 s3=>by
        have hbl:=aV hBo.o;refine⟨(s3.cell (a:=⟨w.heap.size,1,none⟩) (by show w.heap.size<(wo.alloc _).heap.size;rw[World.size_alloc];omega)).trans ((av wo _ ⟨w.heap.size,1,none⟩ hbl).trans t1),?_⟩;have hs0:wo.Since wo.heap.size (wo.alloc (.cells #[.string x] 9)).drew:=((ah _ _).alloc (ai _) _).drew;have hs3:wo.Since wo.heap.size w3:=aZ hs0 s3;obtain⟨W',g',cp',a1,a2,a3⟩:=uq (W:=w3) (base:=wo.heap.size) (X:=wo.heap.size) x (by
         refine⟨o3.1,?_⟩;rcases o3.2 with h|⟨g,q1,q2,q3,q4,q5⟩;·exact .inl h
         ·exact .inr ⟨g,q1,q2,q3,ay hs0.size q4,q5⟩) rfl ((s3.cell (a:=⟨wo.heap.size,0,none⟩) (by show wo.heap.size<(wo.alloc _).heap.size;rw[World.size_alloc];omega)).trans (nY (aq wo (X0 x)))) hs3.size (by omega);exact⟨W',g',cp',a1,a2,aa (hs3.trans a3.o)⟩);go_region_law(
        first
        |(with_reducible refine dw ?_ (.tmp 38) (.tmp 41) ?_ ?_ r1 ?_ ?_ ?_;exact rfl;exact rfl;exact rfl;simp[Act.eval,Act.put];simp[Act.eval,Act.put])
        |(rw[if_pos (by rfl)];go_simp;refine(KCl.o _ (by first|exact sA.o|exact sB.o)).mono ?_;rintro r0 w3⟨G3,c3,rfl,o3,s3⟩;first|(obtain⟨px3,W',g',cp',r1,n3,t3⟩:=FA.o _ _ _ o3 s3)|(obtain⟨px3,W',g',cp',r1,n3,t3⟩:=FB.o _ _ _ o3 s3)));all_goals
        (go_wp2_with fail;go_meet)
       all_goals
        exact⟨_,_,by rw[HL2.o],aa (.inr ⟨_,rfl,by rw[HI.o];exact n3.o⟩),t3,aa (fun h=>by cases h)⟩
     case rest=>
      obtain⟨Gi,ci,rfl,hNi,hSi,hGi⟩:=hcut;have hW2:=aa (aZ hWo.o hSi.o);have hB3:=aa ((hSi.o.block w.heap.size (aV hBo.o)).trans hBo.o);have hb3:=(hSi.o.block wr.heap.size (aV hbo.o)).trans hbo.o;have hB4:=aa ((hSi.o.block (w.heap.size+1) (aw (aV hB2.o) hso.o.size)).trans ((hso.o.block _ (aV hB2.o)).trans hB2.o));have hO2:Hid (wc.ownsRow (w.heap.size+1+1) 104 1 (.slice Gl i cl) i (ks.map Hb)):=aa (cZ hO.o (fun q hq hlt=>(hSi.o.block q (aw hlt hso.o.size)).trans (hso.o.block q hlt)));obtain⟨d0,d1,d2,d3,-⟩:=ba hb3;have hc6:=jB hB4.o;have ht2:aY wc A lo subs[i] [.int .u8 (kk:Nat),.string xx,.int .i64 (nn:Nat),.slice G' m cc]:=aY.up ⟨hW2.o.size,fun q _ hq _=>hW2.o.block q hq⟩ _ _ ht;have KI:=aa (IH.o subs[i] NI wc A lo _ Gi ci (by have:=HSB.o i h1;have:=HK.o;omega) (HY.o i h1) (by have:=HD.o i h1;have:=HDD.o;have:=HIL.o;omega) ht2 hNi.o hGi.o (Tabs.up2 HTb.o hW2.o));have HER:=aa (jz subs[i] NI);have HNX:Hid (∀a,fQ subs[i] NI=.ok a→mQ (eO k) x subs ns TL (i+1) (ks++[a])):=aa (fun a ha=>hTy.o.next h1 (by rw[HNI.o];exact ha));have HBX:Hid (∀e,fQ subs[i] NI=.error e→TL=.error e):=aa (fun e he=>hTy.o.bad h1 (by rw[HNI.o];exact he));generalize fQ subs[i] NI=ty at*;clear hts ht ht2;go_wp2_with fail;refine KI.o.mono ?_;rintro rr w3⟨rfl,hs3⟩;have W3:=aa (aZ hW2.o hs3);have B3:=aa ((hs3.block w.heap.size (aV hB3.o)).trans hB3.o);have B4:=aa ((hs3.block (w.heap.size+1) (aV hB4.o)).trans hB4.o);have O3:Hid (w3.ownsRow (w.heap.size+1+1) 104 1 (.slice Gl i cl) i (ks.map Hb)):=aa (cZ hO2.o (fun q _ hq=>hs3.block q hq));clear hs3;cases ty with
      |error e=>
       have he:=HER.o e rfl;have hR2:Hid (R=.error e):=aa (by rw[HR.o,HBX.o e rfl]);have f5:((e:Int)!=0)=true:=bne_iff_ne.2 (by omega);unfold lO;go_wp2_with fail;exact au (v:=.tuple #[.int .u8 0,.int .u8 (e:Nat)]) (by simp[results,results41,go_sem]) rfl ⟨by rw[hR2.o];rfl,W3.o⟩
      |ok a=>
       have hTn:=aa (HNX.o a rfl);have z5:IntKind.i64.wrap ((i:Int)+1)=(i:Int)+1:=ax _ (by omega);have hc6:=jB B4.o;obtain⟨v',w6,g',cap',a1,hv',hg1,hg2,O6,S6,K6⟩:=cG underlying143 IA rfl (by decide) (by decide) w3 (w.heap.size+1+1) Gl i cl (ks.map Hb) [Hb a] O3.o rfl (fun u hu=>by rw[aK.1 hu];rfl) (by omega) (by have:=aV B4.o;omega);subst hv';have W6:Hid (w.Since w.heap.size w6):=aa (W3.o.trans ⟨S6.o.os,S6.o.tape,S6.o.output,S6.o.size,fun q hq=>S6.o.block q (by omega)⟩);have B6:=aa ((S6.o.block w.heap.size (by omega)).trans B3.o);have B7:=(S6.o.block (w.heap.size+1) (by omega)).trans B4.o;have hc7:=jB B7;have hf7:w6.frozen? ⟨w.heap.size+1,0,none⟩=false:=by unfold World.frozen?;rw[B7];simp
       have B8:Hid ((w6.setCell ⟨w.heap.size+1,0,none⟩ (.slice (some ⟨g',0,none⟩) (i+1) cap')).heap[w.heap.size+1]?=some (.cells #[.slice (some ⟨g',0,none⟩) (i+1) cap'] 143)):=aa (by simp[World.setCell,Array.getElem?_modify,B7]);have hgne:g'≠w.heap.size+1:=by omega
       have O8:Hid ((w6.setCell ⟨w.heap.size+1,0,none⟩ (.slice (some ⟨g',0,none⟩) (i+1) cap')).ownsRow (w.heap.size+1+1) 104 1 (.slice (some ⟨g',0,none⟩) (i+1) cap') (i+1) ((ks++[a]).map Hb)):=aa (by
        rw[List.map_append];exact cZ O6.o (fun q hq _=>ak _ _ _ _ (by
         have:g'=q:=by injection hq
         dsimp only;omega)));clear hg2 K6;unfold Hb at a1;unfold lO;go_wp2_with(refine cV (ts:=143) (v:=.slice Gl i cl) (xv:=.slice (some ⟨w3.heap.size,0,none⟩) 1 1) (v':=.slice (some ⟨g',0,none⟩) (i+1) cap') (w':=w6) ?_ (.tmp 52) (.tmp 54) ?_ ?_ ?_ ?_ ?_ ?_;exact rfl;exact rfl;exact rfl;exact rfl;exact rfl;exact a1);go_roundg(subs.length-(i+1));case measure=>omega
       case rel=>
        exact⟨i+1,cap',some ⟨g',0,none⟩,ks++[a],rfl,by omega,by simp,aa (by rw[List.length_append,hkl.o];rfl),hTn,O8,aa (mW W6.o (by omega) _ _),aa ((ak _ _ _ _ (by simp)).trans B6.o),B8⟩
  ·
   have i1:¬(i:Int)<(subs.length:Int):=by omega
   have hT2:Hid (TL=.ok ks):=aa (hTy.o.all h1);have hO2:Hid (wr.ownsRow (w.heap.size+1+1) 104 1 (.slice Gl ks.length cl) ks.length (ks.map Hb)):=aa (by rw[hkl.o];exact hO.o);have hKS:=aa (Iz hO2.o);have hks:je (eO k) x subs 0 ns=.ok ks:=HTL.o.trans hT2.o;have hrng:=aa (mR _ _ _ _ _ _ hks);have hkl2:=aa (nT _ _ _ _ _ _ hks);have HR2:Hid (R=cF k x subs ks ns):=aa (by rw[HR.o,hT2.o]);have hei:i=ks.length:=hkl.o.symm;have hksl:ks.length≤100000:=by omega
   rw[hei]at hc6;clear hks hei;by_cases k1:k=1;·
    as_aux_lemma=>
     have f1:((k:Int)==1)=true:=ag (by omega);have HX:Hid (R=.ok 1):=aa (by rw[HR2.o];unfold cF;rw[if_pos (by omega)]);clear k1;go_wp2_with fail;exact au (v:=.tuple #[.int .u8 1,.int .u8 0]) (by simp[results,results41,go_sem]) rfl ⟨by rw[HX.o];rfl,hW.o⟩
   by_cases k2:k=2;·
    as_aux_lemma=>
     have f1:((k:Int)==1)=false:=ae (by omega);have f2:((k:Int)==2)=true:=ag (by omega);have HX:Hid (R=.ok 2):=aa (by rw[HR2.o];unfold cF;rw[if_neg (by omega),if_pos (by omega)]);clear k2;go_wp2_with fail;exact au (v:=.tuple #[.int .u8 2,.int .u8 0]) (by simp[results,results41,go_sem]) rfl ⟨by rw[HX.o];rfl,hW.o⟩
   by_cases k4:k=4;·
    as_aux_lemma=>
     have f1:((k:Int)==1)=false:=ae (by omega);have f2:((k:Int)==2)=false:=ae (by omega);have f4:((k:Int)==4)=true:=ag (by omega);have HX:Hid (R=.ok 4):=aa (by exact LV);clear k4;exact LU
   by_cases k5:k=5;·
    as_aux_lemma=>
     have f1:((k:Int)==1)=false:=ae (by omega);have f2:((k:Int)==2)=false:=ae (by omega);have f4:((k:Int)==4)=false:=ae (by omega);have f5:((k:Int)==5)=true:=ag (by omega);have HX:Hid (R=.ok 4):=aa (by exact LV);clear k5;exact LU
   by_cases k3:k=3;·
    as_aux_lemma=>
     have f1:((k:Int)==1)=false:=ae (by omega);have f2:((k:Int)==2)=false:=ae (by omega);have f4:((k:Int)==4)=false:=ae (by omega);have f5:((k:Int)==5)=false:=ae (by omega);have f3:((k:Int)==3)=true:=ag (by omega);have HX:Hid (R=if ns.any fun y=>decide (y=x)then .ok 2 else .error 5):=aa (by rw[HR2.o];unfold cF;rw[if_neg (by omega),if_neg (by omega),if_pos k3]);have KX:=aa (Al (w:=wr) (Gn:=Gn) (ns:=ns) x cn (HN.o.up hW.o) hnl);clear k3;generalize ns.any (fun y=>decide (y=x))=q at HX KX;cases q with
     |true=>have HX2:Hid (R=.ok 2):=aa HX.o;go_wp2_with fail;refine KX.o.mono ?_;rintro rr w3⟨rfl,rfl⟩;go_wp2_with fail;exact au (v:=.tuple #[.int .u8 2,.int .u8 0]) (by simp[results,results41,go_sem]) rfl ⟨by rw[HX2.o];rfl,hW.o⟩
     |false=>
      have HX2:Hid (R=.error 5):=aa HX.o;go_wp2_with fail;refine KX.o.mono ?_;rintro rr w3⟨rfl,rfl⟩;go_wp2_with fail;exact au (v:=.tuple #[.int .u8 0,.int .u8 5]) (by simp[results,results41,go_sem]) rfl ⟨by rw[HX2.o];rfl,hW.o⟩
   by_cases k6:k=6∨k=11;·
    as_aux_lemma=>
     have f1:((k:Int)==1)=false:=ae (by omega);have f2:((k:Int)==2)=false:=ae (by omega);have f4:((k:Int)==4)=false:=ae (by omega);have f5:((k:Int)==5)=false:=ae (by omega);have f3:((k:Int)==3)=false:=ae (by omega);obtain⟨e,he⟩:∃e,dx x=some e:=by
      rcases k6 with h|h;·obtain⟨e,he,_⟩:=rT (HH.o.1 h);exact⟨e,he⟩
      ·obtain⟨e,he,_⟩:=xS (HH.o.2.1 h);exact⟨e,he⟩
     have hxs:x.size≤maxLen:=by have:=HH.o.2.2.2.2.2;unfold maxLen;omega
     have KT:=aa (fun w0 W m l(h:iF w0 W m l)(hl:l.map (·.1)=fW)=>IB h hl x hxs he);have HX:Hid (R=if ks=e.args.map Int.toNat∧(x=nR→(subs[1]?.map pS)=some true)then .ok e.gives.toNat else .error 1):=aa (by rw[HR2.o];unfold cF;rw[if_neg (by omega),if_neg (by omega),if_neg (by omega),if_neg (by omega),if_pos k6,he];dsimp only;exact IC (ID (Am he) ks) _ _ _);have HKA:=aa (fun(W:World)(b:Nat)(hb:W.heap[b]?=some (eD e))=>An (Am he) hb);have HL2:Hid (x=nR→(e.args.map Int.toNat).length=2):=aa (fun h=>by
      have h11:dx nR=some r_:=by decide+kernel
      rw[h,h11]at he;injection he with he;subst he;rfl);clear he;generalize e.args.map Int.toNat=aN at*;generalize e.gives.toNat=gN at*;have S0:Hid (wr.Since wr.heap.size wr.drew):=aa (ah _ _).drew;have q1:∀o,(wr.alloc o).cell? ⟨w.heap.size,1,none⟩=some (.string x):=fun o=>(av wr o _ (aV hB.o)).trans p1;have hbl:=aV hB.o;have hf:((k:Int)==6)=true∨(((k:Int)==6)=false∧((k:Int)==11)=true):=by
      rcases k6 with h|h;·exact .inl (ag (by omega))
      ·exact .inr ⟨ae (by omega),ag (by omega)⟩
     clear k6;obtain⟨b6,f6⟩:∃b6,((k:Int)==6)=b6:=⟨_,rfl⟩;have HFK:Hid (b6=true∨(b6=false∧((k:Int)==11)=true)):=aa (by rw[←f6];exact hf);clear hf;go_upto_if 74 with fail;go_cut[74]from 75 to 76(fun v wx=>v=.bool true∧wx=wr);case first=>
      rcases HFK.o with rfl|⟨rfl,f11⟩;all_goals
       (go_wp2_with fail;go_meet;exact⟨rfl,rfl⟩)
     case rest=>
      obtain⟨rfl,hwc⟩:=hcut;have hwc:=hwc.symm;subst hwc;go_upto_region 30 with fail;go_cut[15]from 77 to 80(fun v wx=>∃(eb b fn:Nat),v=.pointer (some ⟨eb,0,none⟩)∧Hid (wx.heap[eb]?=some (.cells #[.slice (some ⟨b,0,none⟩) aN.length aN.length,.int .u8 (gN:Nat),.func (.func fn) #[] #[]] 146))∧Hid (rZ wx (some ⟨b,0,none⟩) aN)∧Hid (wr.Since wr.heap.size wx));case first=>
       have HS0:Hid (wr.drew.cell? ⟨w.heap.size,1,none⟩=some (.string x)):=aa p1;have HS1:Hid (∀o,(wr.alloc o).drew.cell? ⟨w.heap.size,1,none⟩=some (.string x)):=aa q1;go_region_held3(fun w'=>w'.cell? ⟨w.heap.size,1,none⟩=some (.string x))(first
       |exact HS0.o
       |exact HS1.o _
       |exact T1.o
       |exact T2.o _
       |(rw[hV3];exact T3.o)
       |exact T3.o)(first
       |(go_at_call 71;refine(iG wr.drew).mono ?_;rintro r0 w3⟨m,l,rfl,hT,hl⟩;obtain⟨b1,fv1,r1,n1⟩:=KT.o _ _ _ _ hT hl;obtain⟨b2,fv2,r2,n2⟩:=KT.o _ _ _ _ (hT.up (lQ w3 (.cells #[.slice none 0 0,.int .u8 0,.nilFunc] 146))) hl;have S3:=aa (aZ S0.o hT.since);have T1:Hid (w3.cell? ⟨w.heap.size,1,none⟩=some (.string x)):=aa ((S3.o.cell (a:=⟨w.heap.size,1,none⟩) hbl).trans p1);have T2:Hid (∀o,(w3.alloc o).cell? ⟨w.heap.size,1,none⟩=some (.string x)):=aa (fun o=>(av w3 o _ (aw hbl S3.o.size)).trans T1.o);clear hT)
       |(go_at_call 71;refine(iG (wr.alloc (.cells #[.slice none 0 0,.int .u8 0,.nilFunc] 146)).drew).mono ?_;rintro r0 w3⟨m,l,rfl,hT,hl⟩;obtain⟨b1,fv1,r1,n1⟩:=KT.o _ _ _ _ hT hl;have S3:=aa (aZ (lQ wr (.cells #[.slice none 0 0,.int .u8 0,.nilFunc] 146)).drew hT.since);have T1:Hid (w3.cell? ⟨w.heap.size,1,none⟩=some (.string x)):=aa ((S3.o.cell (a:=⟨w.heap.size,1,none⟩) hbl).trans p1);have HZ:Hid (w3.heap[wr.heap.size]?=some (.cells #[.slice none 0 0,.int .u8 0,.nilFunc] 146)):=aa ((hT.since.block _ (by simp)).trans (aq wr _));obtain⟨z0,z1,z2,z3⟩:=lR HZ.o;obtain⟨V3,hV3,a3,s3,o3⟩:=IE HZ.o (.slice (some ⟨b1,0,none⟩) aN.length aN.length) (.int .u8 (gN:Nat)) (.func (.func fv1) #[] #[]);have T3:Hid (V3.cell? ⟨w.heap.size,1,none⟩=some (.string x)):=aa ((s3.o.cell (a:=⟨w.heap.size,1,none⟩) hbl).trans T1.o);clear hT));·go_wp2_with fail;go_meet;exact⟨_,b1,fv1,rfl,aa (aq w3 _),aa (HKA.o _ _ ((aj w3 _ b1 (aV n1.o)).trans n1.o)),aa (aZ S3.o (lQ w3 _))⟩
       ·go_wp2_with fail;go_meet;exact⟨_,b2,fv2,rfl,aa (aq w3 _),aa (HKA.o _ _ (by
          have h:=n2.o;refine Eq.trans ?_ h;have hlt:=aV h;rw[World.size_alloc]at hlt;rcases Nat.lt_or_ge b2 w3.heap.size with h1|h1;·rw[aj w3 _ b2 h1,aj w3 _ b2 h1]
          ·
           have e1:b2=w3.heap.size:=by omega
           rw[e1,aq]at h;exact LX)),aa (aZ S3.o (lQ w3 _))⟩
       ·go_wp2_with fail;go_meet;exact⟨_,b1,fv1,rfl,a3,aa (HKA.o _ _ ((o3.o b1 (fun e1=>by have h:=n1.o;rw[e1,HZ.o]at h;exact LX)).trans n1.o)),aa ⟨s3.o.os.trans S3.o.os,s3.o.tape.trans S3.o.tape,s3.o.output.trans S3.o.output,ay S3.o.size s3.o.size,fun k hk=>(s3.o.block k hk).trans (S3.o.block k hk)⟩⟩
      case rest=>
       obtain⟨eb,b,fn,rfl,hE,hKA,hSx⟩:=hcut;have W2:=aa (aZ hW.o hSx.o);have SD:Hid (wc.Since wc.heap.size wc.drew):=aa (ah _ _).drew;have BB:=aa ((hSx.o.block w.heap.size (aV hB.o)).trans hB.o);have BL:=aa ((hSx.o.block (w.heap.size+1) (aV hB2.o)).trans hB2.o);have KEQ:=aa (yd ks aN wc.drew Gl (some ⟨b,0,none⟩) cl aN.length ((hKS.o.up hSx.o).up SD.o) (hKA.o.up SD.o) hksl);have HC:Hid (wc.drew.cell? ⟨w.heap.size+1,0,none⟩=some (.slice Gl ks.length cl)∧wc.drew.cell? ⟨eb,0,none⟩=some (.slice (some ⟨b,0,none⟩) aN.length aN.length)∧wc.drew.cell? ⟨eb,1,none⟩=some (.int .u8 (gN:Nat))):=aa ⟨by have h:=jB BL.o;rw[←hkl.o]at h;exact h,(lR hE.o).1,(lR hE.o).2.1⟩;obtain⟨bq,hbq⟩:∃bq,decide (ks=aN)=bq:=⟨_,rfl⟩;rw[hbq]at KEQ;have HBQ:=aa hbq;clear hbq;go_wp2_with fail;go_region_held3(fun w'=>w'.cell? ⟨w.heap.size+1,0,none⟩=some (.slice Gl ks.length cl)∧w'.cell? ⟨eb,0,none⟩=some (.slice (some ⟨b,0,none⟩) aN.length aN.length)∧w'.cell? ⟨eb,1,none⟩=some (.int .u8 (gN:Nat)))(first
       |exact HC.o
       |exact HC2.o)(first
       |(go_at_call 98;refine(KEQ.o).mono ?_;rintro r0 w4⟨rfl,hs⟩;have S4:=aa (aZ SD.o hs);have HC2:Hid (w4.cell? ⟨w.heap.size+1,0,none⟩=some (.slice Gl ks.length cl)∧w4.cell? ⟨eb,0,none⟩=some (.slice (some ⟨b,0,none⟩) aN.length aN.length)∧w4.cell? ⟨eb,1,none⟩=some (.int .u8 (gN:Nat))):=aa ⟨(hs.cell (a:=⟨w.heap.size+1,0,none⟩) (aV BL.o)).trans HC.o.1,(hs.cell (a:=⟨eb,0,none⟩) (aV hE.o)).trans HC.o.2.1,(hs.cell (a:=⟨eb,1,none⟩) (aV hE.o)).trans HC.o.2.2⟩;clear hs));have W4:=aa (aZ W2.o S4.o);have B4:=aa ((S4.o.block w.heap.size (aV BB.o)).trans BB.o);obtain⟨y0,y1,y2,y3,-⟩:=ba B4.o;cases bq with
       |false=>
        have HX2:Hid (R=.error 1):=aa (by
         rw[HX.o,if_neg (fun h=>by have:=HBQ.o;rw[aB h.1]at this;cases this)]);exact LY
       |true=>
        have hkeq:Hid (ks=aN):=aa (of_decide_eq_true HBQ.o);by_cases hx:x=nR;·
         have fx:(x.toList==[104,97,115])=true:=by
          rw[show[104,97,115]=nR.toList from by rw[Lib.toList_data];rfl,bJ,aB hx]
         have hs1:1<subs.length:=by have h1:=HL2.o hx;have h2:=hkeq.o;rw[←hkl2.o,h2];omega
         obtain⟨b5,kk,xx,nn,G5,m5,cc5,ss5,hG5,hb5,hts,ht,g0,g1,g2,g3⟩:=HG.o 1 hs1;have lift0:∀j v,w.cell? ⟨b5,j,none⟩=some v→w4.cell? ⟨b5,j,none⟩=some v:=fun j v hj=>(az (W4.o.block b5 hb5)).trans hj;have d0:w4.cell? ⟨b5,4,none⟩=some (.int .u8 (kk:Nat)):=lift0 _ _ g0;have d1:w4.cell? ⟨b5,5,none⟩=some (.string xx):=lift0 _ _ g1;have i2:(1:Int)<(subs.length:Int):=by omega
         have hxx:xx.size≤100000:=by have h:=HY.o 1 hs1;rw[hts,nH]at h;exact h.1.2.2.2.2.2
         have HP:Hid (R=if(decide (kk=2)&&decide (fL xx=0))=true then .ok gN else .error 1):=aa (by
          rw[HX.o,aD hs1,Option.map_some,hts];show(if ks=aN∧(x=nR→some (decide (kk=2)&&decide (fL xx=0))=some true)then(.ok gN:Except Nat Nat)else .error 1)=_;by_cases hc:(decide (kk=2)&&decide (fL xx=0))=true;·rw[if_pos hc,if_pos ⟨hkeq.o,fun _=>by rw[hc]⟩]
          ·rw[if_neg hc,if_neg (fun h=>hc (by have:=h.2 hx;injection this))]);have KB:=aa (vF xx (w4.alloc (.cells #[.string ⟨#[]⟩,.string xx,.bool false] 185)) w4.heap.size hxx (lR (aq w4 _)).1 (lR (aq w4 _)).2.1 (lR (aq w4 _)).2.2.1 (by simp) (Tabs.up2 (Tabs.up2 HTb.o W4.o) (lQ w4 _)));have S5:=aa (lQ w4 (.cells #[.string ⟨#[]⟩,.string xx,.bool false] 185));subst hG5;clear hx hts ht g0 g1 g2 g3 lift0;by_cases hk2:kk=2;·
          have fk:((kk:Int)==2)=true:=ag (by omega);have HP2:Hid (R=if fL xx=0 then .ok gN else .error 1):=aa (by rw[HP.o,aB hk2];simp);generalize fL xx=E5 at*;clear hk2;by_cases hE5:E5=0;·
           have fe:((E5:Int)==0)=true:=ag (by omega);have HX2:Hid (R=.ok gN):=aa (by rw[HP2.o,if_pos hE5]);clear hE5;go_wp2_with fail;refine KB.o.mono ?_;rintro r0 w5⟨rfl,hs⟩;have W5:=aa (aZ W4.o (aZ S5.o hs));clear hs;go_wp2_with fail;exact au (v:=.tuple #[.int .u8 (gN:Nat),.int .u8 0]) (by simp[results,results41,go_sem]) rfl ⟨by rw[HX2.o];rfl,W5.o⟩
          ·have fe:((E5:Int)==0)=false:=ae (by omega);have HX2:Hid (R=.error 1):=aa (by rw[HP2.o,if_neg hE5]);clear hE5;go_wp2_with fail;refine KB.o.mono ?_;rintro r0 w5⟨rfl,hs⟩;have W5:=aa (aZ W4.o (aZ S5.o hs));clear hs;go_wp2_with fail;exact au (v:=.tuple #[.int .u8 0,.int .u8 1]) (by simp[results,results41,go_sem]) rfl ⟨by rw[HX2.o];rfl,W5.o⟩
         ·have fk:((kk:Int)==2)=false:=ae (by omega);have HX2:Hid (R=.error 1):=aa (by rw[HP.o,aA hk2];rfl);clear hk2;exact LY
        ·
         have fx:(x.toList==[104,97,115])=false:=by
          rw[show[104,97,115]=nR.toList from by rw[Lib.toList_data];rfl,bJ,aA hx]
         have HX2:Hid (R=.ok gN):=aa (by rw[HX.o,if_pos ⟨hkeq.o,fun h=>absurd h hx⟩]);clear hx;go_wp2_with fail;exact au (v:=.tuple #[.int .u8 (gN:Nat),.int .u8 0]) (by simp[results,results41,go_sem]) rfl ⟨by rw[HX2.o];rfl,W4.o⟩
   by_cases k7:k=7;·
    as_aux_lemma=>
     have f1:((k:Int)==1)=false:=ae (by omega);have f2:((k:Int)==2)=false:=ae (by omega);have f4:((k:Int)==4)=false:=ae (by omega);have f5:((k:Int)==5)=false:=ae (by omega);have f3:((k:Int)==3)=false:=ae (by omega);have f6:((k:Int)==6)=false:=ae (by omega);have f11:((k:Int)==11)=false:=ae (by omega);have f7:((k:Int)==7)=true:=ag (by omega);have HX:Hid (R=if ks.all (fun a=>decide (a=1))then .ok 1 else .error 1):=aa (by exact F7);have KA:=aa (oU ks 1 (w.heap.size+1) wr Gl cl hKS.o hksl hc6 (aV hB2.o));clear k7;exact F6
   by_cases k8:k=8;·
    as_aux_lemma=>
     have f1:((k:Int)==1)=false:=ae (by omega);have f2:((k:Int)==2)=false:=ae (by omega);have f4:((k:Int)==4)=false:=ae (by omega);have f5:((k:Int)==5)=false:=ae (by omega);have f3:((k:Int)==3)=false:=ae (by omega);have f6:((k:Int)==6)=false:=ae (by omega);have f11:((k:Int)==11)=false:=ae (by omega);have f7:((k:Int)==7)=false:=ae (by omega);have f8:((k:Int)==8)=true:=ag (by omega);have HX:Hid (R=if ks.all (fun a=>decide (a=1))then .ok 1 else .error 1):=aa (by exact F7);have KA:=aa (oU ks 1 (w.heap.size+1) wr Gl cl hKS.o hksl hc6 (aV hB2.o));clear k8;exact F6
   by_cases k9:k=9;·
    as_aux_lemma=>
     have f1:((k:Int)==1)=false:=ae (by omega);have f2:((k:Int)==2)=false:=ae (by omega);have f4:((k:Int)==4)=false:=ae (by omega);have f5:((k:Int)==5)=false:=ae (by omega);have f3:((k:Int)==3)=false:=ae (by omega);have f6:((k:Int)==6)=false:=ae (by omega);have f11:((k:Int)==11)=false:=ae (by omega);have f7:((k:Int)==7)=false:=ae (by omega);have f8:((k:Int)==8)=false:=ae (by omega);have f9:((k:Int)==9)=true:=ag (by omega);have HX:Hid (R=if ks.all (fun a=>decide (a=1))then .ok 1 else .error 1):=aa (by exact F7);have KA:=aa (oU ks 1 (w.heap.size+1) wr Gl cl hKS.o hksl hc6 (aV hB2.o));clear k9;exact F6
   by_cases k10:k=10;·
    as_aux_lemma=>
     have f1:((k:Int)==1)=false:=ae (by omega);have f2:((k:Int)==2)=false:=ae (by omega);have f4:((k:Int)==4)=false:=ae (by omega);have f5:((k:Int)==5)=false:=ae (by omega);have f3:((k:Int)==3)=false:=ae (by omega);have f6:((k:Int)==6)=false:=ae (by omega);have f11:((k:Int)==11)=false:=ae (by omega);have f7:((k:Int)==7)=false:=ae (by omega);have f8:((k:Int)==8)=false:=ae (by omega);have f9:((k:Int)==9)=false:=ae (by omega);have f10:((k:Int)==10)=true:=ag (by omega);have hl2:ks.length=2:=by obtain⟨a,b,e,_⟩:=HH.o.2.2.2.1 k10;rw[hkl2.o,e];rfl
     obtain⟨bb,hGl,hbb,c0⟩:=hKS.o 0 (by omega);obtain⟨bb2,hGl2,hbb2,c1⟩:=hKS.o 1 (by omega);rw[hGl]at hGl2;injection hGl2 with hGl2;injection hGl2 with hGl2;subst hGl2;subst hGl;have j0:(0:Int)<(ks.length:Int):=by omega
     have j1:(1:Int)<(ks.length:Int):=by omega
     have HX:Hid (R=if eZ x ks[0] ks[1]then .ok 5 else .error 1):=aa (by rw[HR2.o];unfold cF;rw[if_neg (by omega),if_neg (by omega),if_neg (by omega),if_neg (by omega),if_neg (by omega),if_neg (by omega),if_pos k10,aD (show 0<ks.length by omega),aD (show 1<ks.length by omega)];rfl);have KC:=aa (fun W=>rR x ks[0] ks[1] W);generalize ks[0]=a at c0 HX KC;generalize ks[1]=a2 at c1 HX KC;clear k10;cases hq:eZ x a a2 with
     |true=>rw[hq]at KC HX;have HX2:Hid (R=.ok 5):=aa HX.o;clear hq;go_upto_region 39 with fail;go_quiet((refine(KC.o _).mono ?_;rintro r0 w3⟨rfl,rfl⟩;exact⟨rfl,_,rfl⟩));go_wp2_with fail;exact au (v:=.tuple #[.int .u8 5,.int .u8 0]) (by simp[results,results41,go_sem]) rfl ⟨by rw[HX2.o];rfl,hW.o.os,hW.o.tape,hW.o.output,hW.o.size,hW.o.block⟩
     |false=>
      rw[hq]at KC HX;have HX2:Hid (R=.error 1):=aa HX.o;clear hq;go_upto_region 39 with fail;go_quiet((refine(KC.o _).mono ?_;rintro r0 w3⟨rfl,rfl⟩;exact⟨rfl,_,rfl⟩));go_wp2_with fail;exact au (v:=.tuple #[.int .u8 0,.int .u8 1]) (by simp[results,results41,go_sem]) rfl ⟨by rw[HX2.o];rfl,hW.o.os,hW.o.tape,hW.o.output,hW.o.size,hW.o.block⟩
   by_cases k15:k=15;·
    as_aux_lemma=>
     have f1:((k:Int)==1)=false:=ae (by omega);have f2:((k:Int)==2)=false:=ae (by omega);have f4:((k:Int)==4)=false:=ae (by omega);have f5:((k:Int)==5)=false:=ae (by omega);have f3:((k:Int)==3)=false:=ae (by omega);have f6:((k:Int)==6)=false:=ae (by omega);have f11:((k:Int)==11)=false:=ae (by omega);have f7:((k:Int)==7)=false:=ae (by omega);have f8:((k:Int)==8)=false:=ae (by omega);have f9:((k:Int)==9)=false:=ae (by omega);have f10:((k:Int)==10)=false:=ae (by omega);have f15:((k:Int)==15)=true:=ag (by omega);have hl2:ks.length=2:=by rw[hkl2.o];exact HH.o.2.2.2.2.1 (by omega)
     obtain⟨bb,hGl,hbb,c0⟩:=hKS.o 0 (by omega);subst hGl;have j0:(0:Int)<(ks.length:Int):=by omega
     have HX:Hid (R=if ks[0]=3 then .ok 5 else .error 1):=aa (by exact L0);generalize ks[0]=a at c0 HX;have W2:=aa hW.o.drew;clear k15;exact LZ
   by_cases k16:k=16;·
    as_aux_lemma=>
     have f1:((k:Int)==1)=false:=ae (by omega);have f2:((k:Int)==2)=false:=ae (by omega);have f4:((k:Int)==4)=false:=ae (by omega);have f5:((k:Int)==5)=false:=ae (by omega);have f3:((k:Int)==3)=false:=ae (by omega);have f6:((k:Int)==6)=false:=ae (by omega);have f11:((k:Int)==11)=false:=ae (by omega);have f7:((k:Int)==7)=false:=ae (by omega);have f8:((k:Int)==8)=false:=ae (by omega);have f9:((k:Int)==9)=false:=ae (by omega);have f10:((k:Int)==10)=false:=ae (by omega);have f15:((k:Int)==15)=false:=ae (by omega);have f16:((k:Int)==16)=true:=ag (by omega);have hl2:ks.length=2:=by rw[hkl2.o];exact HH.o.2.2.2.2.1 (by omega)
     obtain⟨bb,hGl,hbb,c0⟩:=hKS.o 0 (by omega);subst hGl;have j0:(0:Int)<(ks.length:Int):=by omega
     have HX:Hid (R=if ks[0]=3 then .ok 5 else .error 1):=aa (by exact L0);generalize ks[0]=a at c0 HX;have W2:=aa hW.o.drew;clear k16;exact LZ
   ·have f1:((k:Int)==1)=false:=ae (by omega);have f2:((k:Int)==2)=false:=ae (by omega);have f4:((k:Int)==4)=false:=ae (by omega);have f5:((k:Int)==5)=false:=ae (by omega);have f3:((k:Int)==3)=false:=ae (by omega);have f6:((k:Int)==6)=false:=ae (by omega);have f11:((k:Int)==11)=false:=ae (by omega);have f7:((k:Int)==7)=false:=ae (by omega);have f8:((k:Int)==8)=false:=ae (by omega);have f9:((k:Int)==9)=false:=ae (by omega);have f10:((k:Int)==10)=false:=ae (by omega);have f15:((k:Int)==15)=false:=ae (by omega);have f16:((k:Int)==16)=false:=ae (by omega);have HX:Hid (R=.ok 5):=aa (by rw[HR2.o];unfold cF;rw[if_neg (by omega),if_neg (by omega),if_neg (by omega),if_neg (by omega),if_neg (by omega),if_neg (by omega),if_neg (by omega),if_neg (by omega)]);clear k1 k2 k3 k4 k5 k6 k7 k8 k9 k10 k15 k16;go_wp2_with fail;exact au (v:=.tuple #[.int .u8 5,.int .u8 0]) (by simp[results,results41,go_sem]) rfl ⟨by rw[HX.o];rfl,hW.o⟩
theorem rM:∀K,K≤100000→lq K
 |0,_=>fun t ns w A lo cs Gn cn hK _ _ _ _ _ _=>by cases t;rw[mh]at hK;omega
 |K+1,hM=>fun t ns w A lo cs Gn cn hK hok hd h hns hz hT=>by
   cases t with
   |mk k x n subs=>exact ye K hM (rM K (by omega)) k x n subs ns w A lo cs Gn cn hK hok hd h hns hz hT
