/- The specification's fits and CheckBreaks walked. -/
import Derived.Test.YthbdlnflmfchjaaGreatDoorTA
set_option linter.unusedVariables false
set_option linter.unusedSimpArgs false
namespace Go.Proofs.YthbdlnflmfchjaaGreatDoor
open Go.Proofs.Tryz
open Go.RowKit Go.Proofs.Fm Go.Proofs.MapEnt Go.Proofs.Uni Go.Proofs.StrIt
set_option maxHeartbeats 3200000
set_option maxRecDepth 1000000
theorem BR:(prog.info? 343).map (fun i=>(i.zero,i.size,i.bytes))=some (some (.agg #[.bool false,.int .i32 0]),2,8):=by kernel_rfl
theorem vy:kh []=some 0:=by rw[kh]
theorem Il{r:Nat}(h:r≠37):∀l,kh (r::l)=(kh l).map (·+1)
 |[]=>by rw[kh,kh,if_neg h];rfl
 |c::l=>by rw[kh,if_neg h]
theorem Im:kh [37]=none:=by rw[kh,if_pos rfl]
theorem Io{c:Nat}(l:List Nat)(h:cls c=true):kh (37::c::l)=(kh l).map (·+1):=by rw[kh,if_pos rfl,if_pos h]
theorem No{c:Nat}(l:List Nat)(h:cls c=false):kh (37::c::l)=none:=by
 rw[kh,if_pos rfl,if_neg (by rw[h];exact Bool.false_ne_true)]
def gY(rs:List Nat)(r:Option Nat)(i n:Nat):Prop:=r=(kh (rs.drop i)).map (n+·)
theorem gY.start(rs:List Nat):gY rs (kh rs) 0 0:=by unfold gY;rw[List.drop_zero];cases kh rs<;>simp
theorem BU(o:Option Nat)(n:Nat):(o.map (·+1)).map (n+·)=o.map (n+1+·):=by cases o<;>simp;omega
theorem gY.one{rs:List Nat}{r:Option Nat}{i n:Nat}(h:gY rs r i n)(hi:i<rs.length)(hc:rs[i]≠37):gY rs r (i+1) (n+1):=by unfold gY at h⊢;rw[h,aO hi,Il hc,BU]
theorem gY.stop{rs:List Nat}{r:Option Nat}{i n:Nat}(h:gY rs r i n)(hi:i<rs.length)(hc:rs[i]=37)(he:¬i+1<rs.length):r=none:=by unfold gY at h;rw[h,aO hi,hc,List.drop_of_length_le (by omega),Im];rfl
theorem gY.two{rs:List Nat}{r:Option Nat}{i n:Nat}(h:gY rs r i n)(hi:i<rs.length)(hc:rs[i]=37)(h2:i+1<rs.length)(hk:cls rs[i+1]=true):gY rs r (i+1+1) (n+1):=by unfold gY at h⊢;rw[h,aO hi,hc,aO h2,Io _ hk,BU]
theorem gY.bad{rs:List Nat}{r:Option Nat}{i n:Nat}(h:gY rs r i n)(hi:i<rs.length)(hc:rs[i]=37)(h2:i+1<rs.length)(hk:cls rs[i+1]=false):r=none:=by unfold gY at h;rw[h,aO hi,hc,aO h2,No _ hk];rfl
theorem gY.all{rs:List Nat}{r:Option Nat}{i n:Nat}(h:gY rs r i n)(hi:¬i<rs.length):r=some n:=by unfold gY at h;rw[h,List.drop_of_length_le (by omega),vy];rfl
theorem uf{c:Nat}(h:cls c=true):c=97∨c=117∨c=108∨c=100∨c=115∨c=112∨c=104∨c=46∨c=37∨c=98:=by unfold cls at h;simp only[Bool.or_eq_true,decide_eq_true_eq]at h;omega
theorem BV{c:Nat}(h:cls c=false):¬(c:Int)=97∧¬(c:Int)=117∧¬(c:Int)=108∧¬(c:Int)=100∧¬(c:Int)=115∧¬(c:Int)=112∧¬(c:Int)=104∧¬(c:Int)=46∧¬(c:Int)=37∧¬(c:Int)=98:=by unfold cls at h;simp only[Bool.or_eq_false_iff,decide_eq_false_iff_not]at h;omega
def iY(r:Option Nat)(E:Ending):Prop:=match r with
 |none=>E=.returned (.tuple #[.slice none 0 0,.bool false])
 |some n=>∃(G:Option Addr)(c:Nat),E=.returned (.tuple #[.slice G n c,.bool true])
theorem Lt{P:Prop}(h:P:=by go_wp2_with fail;exact au (v:=.tuple #[.slice none 0 0,.bool false]) (by simp[results,results219,go_sem]) rfl ⟨HR.o _ rfl,aZ S0.o (hW.o.alloc hW.o.size _)⟩):P:=h
theorem FJ{P:Prop}(h:P:=by simp only[List.mem_cons,aS,or_false]at hu;rcases hu with rfl|rfl<;>rfl):P:=h
theorem mr{P:Prop}(h:P:=by
 clear q hk HN HD;go_wp2_with(refine cV (ts:=285) (v:=.slice G n cp) (xv:=.slice (some ⟨wr.heap.size+1,0,none⟩) 1 1) (v':=.slice (some ⟨g',0,none⟩) (n+1) cap') (w':=w6) ?_ (.tmp 50) (.tmp 52) ?_ ?_ ?_ ?_ ?_ ?_;exact rfl;exact rfl;exact rfl;exact rfl;exact rfl;exact a1);go_roundg(rs.length-(i+1+1));case measure=>omega
 case rel=>exact⟨i+1+1,n+1,cap',some ⟨g',0,none⟩,_,rfl,by omega,rfl,by simp,by omega,O6,W6,hI2⟩):P:=h
theorem ug(s:BA)(w:World)(hs:s.size≤100000):Calls prog 219 #[.string s] w fun E w'=>iY (kh (bB s.data.toList)) E∧w.Since w.heap.size w':=by
 obtain⟨cap,hcap,hconv⟩:=mS s w (by omega);have HL:(bB s.data.toList).length≤s.size:=ay (lN _) (Nat.le_of_eq Array.length_toList);have hC0:∀j(h:j<(bB s.data.toList).length),(w.drew.alloc (.cells (cM s cap) 21)).cell? ⟨w.heap.size,j,none⟩=some (.int .i32 ((bB s.data.toList)[j]:Int)):=fun j h=>by rw[←oQ s cap j h];exact World.cell?_alloc_at _ _ _ _ rfl
 have HC:=aa hC0;have S0:Hid (w.Since w.heap.size (w.drew.alloc (.cells (cM s cap) 21))):=aa (World.Since.alloc (ah w.heap.size w).drew (ai _) _);have Z0:Hid (w.heap.size<(w.drew.alloc (.cells (cM s cap) 21)).heap.size):=aa (by simp);have HI:=aa (gY.start (bB s.data.toList));have HB:Hid (∀r,kh (bB s.data.toList)=r→∀E,iY r E→iY (kh (bB s.data.toList)) E):=aa (fun r h E hE=>by rw[h];exact hE);generalize iY (kh (bB s.data.toList))=R at*;clear hC0;generalize cM s cap=cells at*;generalize hr0:kh (bB s.data.toList)=r0 at*;clear hr0;generalize bB s.data.toList=rs at*;generalize hw0:w.drew.alloc (.cells cells 21)=w0 at*;clear hw0;go_enter func219,ntmps219;go_wp2_with fail;go_loopg[5,6]rs.length(fun gg o5 o6 wr=>∃(i n cp:Nat)(G:Option Addr)(xs:List Value),gg=rs.length-i∧i≤rs.length∧o5=.slice G n cp∧o6=.int .i64 (i:Nat)∧n≤i∧Hid (wr.ownsRow w0.heap.size 343 2 (.slice G n cp) n xs)∧Hid (w0.Since w0.heap.size wr)∧Hid (gY rs r0 i n));case atStart=>exact⟨0,0,0,none,[],by omega,by omega,rfl,rfl,by omega,aa (World.ownsRow_nil _ _ _ _),aa (ah _ _),HI⟩
 case round=>
  obtain⟨i,n,cp,G,xs,rfl,hi,rfl,rfl,hni,hO,hW,hI⟩:=hrel;have hle:n≤s.size:=by omega
  by_cases h1:i<rs.length;·
   have i1:(i:Int)<(rs.length:Int):=by omega
   have z5:IntKind.i64.wrap ((i:Int)+1)=(i:Int)+1:=ax _ (by omega);have hcz:i≤cap:=by omega
   have hZ:=Z0.o;have cc:∀j(h:j<rs.length),wr.cell? ⟨w.heap.size,j,none⟩=some (.int .i32 (rs[j]:Int)):=fun j h=>(az (hW.o.block _ (by have:=Z0.o;omega))).trans (HC.o j h);have hlt:w.heap.size<wr.heap.size:=by have:=Z0.o;have:=hW.o.size;omega
   have c0:=cc i h1;have c0a:∀o,(wr.alloc o).cell? ⟨w.heap.size,i,none⟩=_:=fun o=>(av wr o _ hlt).trans c0;by_cases h2:rs[i]=37;·
    have f37:((rs[i]:Int)==37)=true:=ag (by omega);have HE:=aa (fun h=>hI.o.stop h1 h2 h);have HN:=aa (fun h hk=>hI.o.two h1 h2 h hk);have HD:=aa (fun h hk=>hI.o.bad h1 h2 h hk);clear h2;generalize rs[i]=r at*;by_cases h3:i+1<rs.length;·
     have f3:((i:Int)+1==(rs.length:Int))=false:=ae (by omega);have c1:=cc (i+1) h3;have e1:((i:Int)+1).toNat=i+1:=by omega
     have i3:(i:Int)+1<(rs.length:Int):=by omega
     have c1a:∀o,(wr.alloc o).cell? ⟨w.heap.size,i+1,none⟩=_:=fun o=>(av wr o _ hlt).trans c1;have HN:=aa (HN.o h3);have HD:=aa (HD.o h3);have z6:IntKind.i64.wrap ((i:Int)+1+1)=(i:Int)+1+1:=ax _ (by omega);clear cc HE;generalize rs[i+1]=c at*;cases hk:cls c with
     |false=>have HR:=aa (HB.o _ (HD.o hk));obtain⟨n0,n1,n2,n3,n4,n5,n6,n7,n8,n9⟩:=BV hk;have g0:((c:Int)==97)=false:=ae n0;have g1:((c:Int)==117)=false:=ae n1;have g2:((c:Int)==108)=false:=ae n2;have g3:((c:Int)==100)=false:=ae n3;have g4:((c:Int)==115)=false:=ae n4;have g5:((c:Int)==112)=false:=ae n5;have g6:((c:Int)==104)=false:=ae n6;have g7:((c:Int)==46)=false:=ae n7;have g8:((c:Int)==37)=false:=ae n8;have g9:((c:Int)==98)=false:=ae n9;clear n0 n1 n2 n3 n4 n5 n6 n7 n8 n9 hk;exact Lt
     |true=>
      have hI2:=aa (HN.o hk);have HZ2:Hid (w0.heap.size≤(wr.alloc (.cells #[.bool true,.int .i32 (c:Int)] 343)).heap.size):=aa (by have:=hW.o.size;simp;omega);have hO2:Hid ((wr.alloc (.cells #[.bool true,.int .i32 (c:Int)] 343)).ownsRow w0.heap.size 343 2 (.slice G n cp) n xs):=aa (cZ hO.o (fun q _ hq=>aj wr _ q hq));have W2:Hid (w0.Since w0.heap.size (wr.alloc (.cells #[.bool true,.int .i32 (c:Int)] 343))):=aa (hW.o.alloc hW.o.size _);obtain⟨v',w6,g',cap',a1,hv',hg1,hg2,O6,S6,-⟩:=cG underlying285 BR rfl (by decide) (by decide) (wr.alloc (.cells #[.bool true,.int .i32 (c:Int)] 343)) w0.heap.size G n cp xs [.bool true,.int .i32 (c:Int)] hO2.o rfl (fun u hu=>by exact FJ) (by omega) HZ2.o;subst hv';have W6:Hid (w0.Since w0.heap.size w6):=aa (W2.o.trans S6.o);clear hg1 hg2 S6;rw[World.size_alloc]at a1;rcases uf hk with q|q|q|q|q|q|q|q|q|q;·have g0:((c:Int)==97)=true:=ag (by omega);exact mr
      ·have g0:((c:Int)==97)=false:=ae (by omega);have g1:((c:Int)==117)=true:=ag (by omega);exact mr
      ·have g0:((c:Int)==97)=false:=ae (by omega);have g1:((c:Int)==117)=false:=ae (by omega);have g2:((c:Int)==108)=true:=ag (by omega);exact mr
      ·have g0:((c:Int)==97)=false:=ae (by omega);have g1:((c:Int)==117)=false:=ae (by omega);have g2:((c:Int)==108)=false:=ae (by omega);have g3:((c:Int)==100)=true:=ag (by omega);exact mr
      ·have g0:((c:Int)==97)=false:=ae (by omega);have g1:((c:Int)==117)=false:=ae (by omega);have g2:((c:Int)==108)=false:=ae (by omega);have g3:((c:Int)==100)=false:=ae (by omega);have g4:((c:Int)==115)=true:=ag (by omega);exact mr
      ·have g0:((c:Int)==97)=false:=ae (by omega);have g1:((c:Int)==117)=false:=ae (by omega);have g2:((c:Int)==108)=false:=ae (by omega);have g3:((c:Int)==100)=false:=ae (by omega);have g4:((c:Int)==115)=false:=ae (by omega);have g5:((c:Int)==112)=true:=ag (by omega);exact mr
      ·have g0:((c:Int)==97)=false:=ae (by omega);have g1:((c:Int)==117)=false:=ae (by omega);have g2:((c:Int)==108)=false:=ae (by omega);have g3:((c:Int)==100)=false:=ae (by omega);have g4:((c:Int)==115)=false:=ae (by omega);have g5:((c:Int)==112)=false:=ae (by omega);have g6:((c:Int)==104)=true:=ag (by omega);exact mr
      ·have g0:((c:Int)==97)=false:=ae (by omega);have g1:((c:Int)==117)=false:=ae (by omega);have g2:((c:Int)==108)=false:=ae (by omega);have g3:((c:Int)==100)=false:=ae (by omega);have g4:((c:Int)==115)=false:=ae (by omega);have g5:((c:Int)==112)=false:=ae (by omega);have g6:((c:Int)==104)=false:=ae (by omega);have g7:((c:Int)==46)=true:=ag (by omega);exact mr
      ·have g0:((c:Int)==97)=false:=ae (by omega);have g1:((c:Int)==117)=false:=ae (by omega);have g2:((c:Int)==108)=false:=ae (by omega);have g3:((c:Int)==100)=false:=ae (by omega);have g4:((c:Int)==115)=false:=ae (by omega);have g5:((c:Int)==112)=false:=ae (by omega);have g6:((c:Int)==104)=false:=ae (by omega);have g7:((c:Int)==46)=false:=ae (by omega);have g8:((c:Int)==37)=true:=ag (by omega);exact mr
      ·have g0:((c:Int)==97)=false:=ae (by omega);have g1:((c:Int)==117)=false:=ae (by omega);have g2:((c:Int)==108)=false:=ae (by omega);have g3:((c:Int)==100)=false:=ae (by omega);have g4:((c:Int)==115)=false:=ae (by omega);have g5:((c:Int)==112)=false:=ae (by omega);have g6:((c:Int)==104)=false:=ae (by omega);have g7:((c:Int)==46)=false:=ae (by omega);have g8:((c:Int)==37)=false:=ae (by omega);have g9:((c:Int)==98)=true:=ag (by omega);exact mr
    ·have f3:((i:Int)+1==(rs.length:Int))=true:=ag (by omega);have HR:=aa (HB.o _ (HE.o h3));clear cc HE HN HD;exact Lt
   ·
    have f37:((rs[i]:Int)==37)=false:=ae (by omega);have hI2:=aa (hI.o.one h1 h2);clear h2 cc;generalize rs[i]=r at*;have HZ2:Hid (w0.heap.size≤(wr.alloc (.cells #[.bool false,.int .i32 (r:Int)] 343)).heap.size):=aa (by have:=hW.o.size;simp;omega);have hO2:Hid ((wr.alloc (.cells #[.bool false,.int .i32 (r:Int)] 343)).ownsRow w0.heap.size 343 2 (.slice G n cp) n xs):=aa (cZ hO.o (fun q _ hq=>aj wr _ q hq));have W2:Hid (w0.Since w0.heap.size (wr.alloc (.cells #[.bool false,.int .i32 (r:Int)] 343))):=aa (hW.o.alloc hW.o.size _);obtain⟨v',w6,g',cap',a1,hv',hg1,hg2,O6,S6,-⟩:=cG underlying285 BR rfl (by decide) (by decide) (wr.alloc (.cells #[.bool false,.int .i32 (r:Int)] 343)) w0.heap.size G n cp xs [.bool false,.int .i32 (r:Int)] hO2.o rfl (fun u hu=>by exact FJ) (by omega) HZ2.o;subst hv';have W6:Hid (w0.Since w0.heap.size w6):=aa (W2.o.trans S6.o);clear hg1 hg2 S6;rw[World.size_alloc]at a1;go_wp2_with(refine cV (ts:=285) (v:=.slice G n cp) (xv:=.slice (some ⟨wr.heap.size+1,0,none⟩) 1 1) (v':=.slice (some ⟨g',0,none⟩) (n+1) cap') (w':=w6) ?_ (.tmp 50) (.tmp 52) ?_ ?_ ?_ ?_ ?_ ?_;exact rfl;exact rfl;exact rfl;exact rfl;exact rfl;exact a1);go_roundg(rs.length-(i+1));case measure=>omega
    case rel=>exact⟨i+1,n+1,cap',some ⟨g',0,none⟩,_,rfl,by omega,rfl,by simp,by omega,O6,W6,hI2⟩
  ·
   have i1:¬(i:Int)<(rs.length:Int):=by omega
   have HR:=aa (HB.o _ (hI.o.all h1));go_wp2_with fail;exact au (v:=.tuple #[.slice G n cp,.bool true]) (by simp[results,results219,go_sem]) rfl ⟨HR.o _ ⟨G,cp,rfl⟩,aZ S0.o hW.o⟩
theorem Dv{s:BA}(h:kh (bB s.data.toList)=none):fL s=4:=by unfold fL;rw[h]
theorem FK{s:BA}{n:Nat}(h:kh (bB s.data.toList)=some n)(ht:cU s=false):fL s=4:=by unfold fL;rw[h];dsimp only;rw[if_pos ht]
theorem Dw{s:BA}{n:Nat}(h:kh (bB s.data.toList)=some n)(ht:cU s=true)(hn:32<n):fL s=3:=by
 unfold fL;rw[h];dsimp only;rw[if_neg (by rw[ht];decide),if_pos hn]
theorem Ip{s:BA}{n:Nat}(h:kh (bB s.data.toList)=some n)(ht:cU s=true)(hn:¬32<n):fL s=0:=by
 unfold fL;rw[h];dsimp only;rw[if_neg (by rw[ht];decide),if_neg hn]
theorem pT:bB (⟨#[]⟩:BA).data.toList=[]:=by decide+kernel
theorem uh:cU ⟨#[]⟩=true:=by decide+kernel
theorem vz(p:BA)(w:World)(g:Nat)(hp:p.size≤100000)(c0:w.cell? ⟨g,0,none⟩=some (.string ⟨#[]⟩))(c1:w.cell? ⟨g,1,none⟩=some (.string p))(hg:g<w.heap.size):Calls prog 184 #[.slice (some ⟨g,0,none⟩) 1 1] w fun E w'=>E=.returned (.int .u8 (fL p:Nat))∧w.Since w.heap.size w':=by
 have KF0:=aa (fun W=>ug ⟨#[]⟩ W (by decide));rw[pT,vy]at KF0;have KT0:=aa (fun W=>gS ⟨#[]⟩ W (by decide));rw[uh]at KT0;have KF:=aa (fun W=>ug p W hp);have KT:=aa (fun W=>gS p W (by omega));have HN:=aa (fun h=>Dv (s:=p) h);have HB:=aa (fun n h ht=>FK (s:=p) (n:=n) h ht);have HM:=aa (fun n h ht hn=>Dw (s:=p) (n:=n) h ht hn);have HO:=aa (fun n h ht hn=>Ip (s:=p) (n:=n) h ht hn);generalize fL p=R at*;generalize kh (bB p.data.toList)=o at*;generalize cU p=tt at*;have C0:=aa c0;have C1:=aa c1;clear c0 c1;go_enter func184,ntmps184;go_wp2_with fail;go_loopg[3]1(fun gg o3 wr=>∃i:Nat,gg=1-i∧i≤1∧o3=.int .i64 (i:Nat)∧Hid (i=1→R=0)∧Hid (w.Since w.heap.size wr));case atStart=>exact⟨0,rfl,by omega,rfl,aa (fun h=>absurd h (by decide)),aa (ah _ _)⟩
 case round=>
  obtain⟨wo,hwo⟩:∃wo,wo=wr:=⟨_,rfl⟩;subst hwo;obtain⟨i,rfl,hi,rfl,hE,hW⟩:=hrel;by_cases h1:i=0;·
   subst h1;have c0:wo.cell? ⟨g,0,none⟩=_:=(az (hW.o.block g hg)).trans C0.o;have c1:wo.cell? ⟨g,1,none⟩=_:=(az (hW.o.block g hg)).trans C1.o;have hgr:g<wo.heap.size:=aw hg hW.o.size;have c0a:∀o,(wo.alloc o).cell? ⟨g,0,none⟩=_:=fun o=>(av wo o _ hgr).trans c0;have c1a:∀o,(wo.alloc o).cell? ⟨g,1,none⟩=_:=fun o=>(av wo o _ hgr).trans c1;have HA:Hid ((wo.alloc (.cells #[.string ⟨#[]⟩,.string p] 305)).drew.heap[wo.heap.size]?=some (.cells #[.string ⟨#[]⟩,.string p] 305)):=aa (aq wo _);have WA:Hid (w.Since w.heap.size (wo.alloc (.cells #[.string ⟨#[]⟩,.string p] 305)).drew):=aa ((hW.o.alloc hW.o.size _).drew);go_wp2_with fail;go_region;go_wp2_with fail;go_loopg[5]2(fun gg o5 wq=>∃k:Nat,gg=2-k∧k≤2∧o5=.int .i64 (k:Nat)∧Hid (k=2→R=0)∧Hid (w.Since w.heap.size wq)∧Hid (wq.heap[wo.heap.size]?=some (.cells #[.string ⟨#[]⟩,.string p] 305)));case atStart=>exact⟨0,rfl,by omega,rfl,aa (fun h=>absurd h (by decide)),WA,HA⟩
   case round=>
    obtain⟨k,rfl,hk,rfl,hE2,hW2,hB2⟩:=hrel;have d0:wr.cell? ⟨wo.heap.size,0,none⟩=some (.string ⟨#[]⟩):=by unfold World.cell?;rw[hB2.o];rfl
    have d1:wr.cell? ⟨wo.heap.size,1,none⟩=some (.string p):=by unfold World.cell?;rw[hB2.o];rfl
    by_cases hk0:k=0;·
     subst hk0;go_wp2_with fail;refine(KF0.o _).mono ?_;rintro r0 w3⟨⟨G1,cp1,rfl⟩,hs3⟩;have W3:=aa (aZ hW2.o hs3);have B3:=aa ((hs3.block wo.heap.size (aV hB2.o)).trans hB2.o);have e0:w3.cell? ⟨wo.heap.size,0,none⟩=some (.string ⟨#[]⟩):=by unfold World.cell?;rw[B3.o];rfl
     clear hs3;go_wp2_with fail;refine(KT0.o _).mono ?_;rintro r0 w4⟨rfl,hs4⟩;have W4:=aa (aZ W3.o hs4);have B4:=aa ((hs4.block wo.heap.size (aV B3.o)).trans B3.o);clear hs4;go_wp2_with fail;go_roundg(2-1);case measure=>omega
     case rel=>exact⟨1,rfl,by omega,by simp,aa (fun h=>absurd h (by decide)),W4,B4⟩
    ·
     by_cases hk1:k=1;·
      subst hk1;cases o with
      |none=>have HR:=aa (HN.o rfl);go_wp2_with fail;refine(KF.o _).mono ?_;rintro r0 w3⟨hr0,hs3⟩;have hr0:r0=.returned (.tuple #[.slice none 0 0,.bool false]):=hr0;subst hr0;have W3:=aa (aZ hW2.o hs3);clear hs3;go_wp2_with fail;go_ret;exact⟨by rw[HR.o];rfl,W3.o⟩
      |some n=>
        go_wp2_with fail;refine(KF.o _).mono ?_;rintro r0 w3⟨⟨G1,cp1,rfl⟩,hs3⟩;have W3:=aa (aZ hW2.o hs3);have B3:=aa ((hs3.block wo.heap.size (aV hB2.o)).trans hB2.o);have e1:w3.cell? ⟨wo.heap.size,1,none⟩=some (.string p):=by unfold World.cell?;rw[B3.o];rfl
        clear hs3;go_wp2_with fail;refine(KT.o _).mono ?_;rintro r0 w4⟨rfl,hs4⟩;have W4:=aa (aZ W3.o hs4);have B4:=aa ((hs4.block wo.heap.size (aV B3.o)).trans B3.o);clear hs4;cases tt with
        |false=>
         have HR:=aa (HB.o n rfl rfl);go_wp2_with fail;go_ret;exact⟨by rw[HR.o];rfl,W4.o⟩
        |true=>
         by_cases hn:32<n;·
          have HR:=aa (HM.o n rfl rfl hn);have hn1:(32:Int)<(n:Int):=by omega
          go_wp2_with fail;go_ret;exact⟨by rw[HR.o];rfl,W4.o⟩
         ·
          have HR:=aa (HO.o n rfl rfl hn);have hn1:¬(32:Int)<(n:Int):=by omega
          go_wp2_with fail;go_roundg(2-2);case measure=>omega
          case rel=>exact⟨2,rfl,by omega,by simp,aa (fun _=>HR.o),W4,B4⟩
     ·
      obtain rfl:k=2:=by omega
      have HR:=aa (hE2.o rfl);go_wp2_with fail;go_roundg(1-1);case measure=>omega
      case rel=>exact⟨1,rfl,by omega,by simp,aa (fun _=>HR.o),hW2⟩
  ·
   obtain rfl:i=1:=by omega
   have HR:=aa (hE.o rfl);go_wp2_with fail;go_ret;exact⟨by rw[HR.o];rfl,hW.o⟩
def Np(w:World)(G:Option Addr)(ks:List Nat):Prop:=∀i(h:i<ks.length),∃b,G=some ⟨b,0,none⟩∧b<w.heap.size∧w.cell? ⟨b,i,none⟩=some (.int .u8 (dI ks[i]:Nat))
def lp(w:World)(G:Option Addr)(ns:List BA):Prop:=(ns=[]∧G=none)∨∃b,G=some ⟨b,0,none⟩∧dc w b ns
theorem lp.up{w w':World}{G:Option Addr}{ns:List BA}(h:lp w G ns)(hs:w.Since w.heap.size w'):lp w' G ns:=by
 rcases h with h|⟨b,h1,h2⟩;·exact .inl h
 ·exact .inr ⟨b,h1,h2.up hs⟩
theorem Iq(x:BA)(c:Nat)(w:World):Calls prog 158 #[.slice none 0 c,.string x] w fun e w'=>e=.returned (.bool false)∧w'=w:=by
 go_enter func158,ntmps158;go_wp2_with fail;go_loopg[5]1(fun g o wr=>g=1∧o=.int .i64 0∧wr=w);case atStart=>exact⟨rfl,rfl,rfl⟩
 case round=>obtain⟨rfl,rfl,rfl⟩:=hrel;go_wp2_with fail;go_ret;exact⟨rfl,rfl⟩
theorem Qc{w:World}{G:Option Addr}{ns:List BA}(x:BA)(c:Nat)(h:lp w G ns)(hn:ns.length≤1000):Calls prog 158 #[.slice G ns.length c,.string x] w fun e w'=>e=.returned (.bool (ns.any fun y=>decide (y=x)))∧w'=w:=by
 rcases h with⟨rfl,rfl⟩|⟨b,rfl,h⟩;·exact Iq x c w
 ·exact Oj ns x b c w hn h.2
def dA(r:Except Nat Nat):Ending:=match r with
 |.ok a=> .returned (.tuple #[.int .u8 (dI a:Nat),.int .u8 0])
 |.error e=> .returned (.tuple #[.int .u8 0,.int .u8 (e:Nat)])
theorem oR:∀e∈fW,(fA e.name).1.size=e.args.length∧(fA e.name).2=dI e.gives.toNat∧e.args.length≤2∧(∀i,i<2→i<e.args.length→bc (fA e.name).1 i=(if e.name=nR∧i=1 then 116 else dI (e.args[i]?.getD 0).toNat))∧(∀a∈e.args,1≤a∧a≤5)∧(e.name=nR→e.args=[4,2]):=by decide+kernel
theorem mT(a:Nat):dI a≠116:=by unfold dI;split<;>(try split)<;>(try split)<;>(try split)<;>decide
theorem Ir(a:Nat):dI a<256:=by unfold dI;split<;>(try split)<;>(try split)<;>(try split)<;>decide
def jf(tk:BA)(ks:List Nat)(subs:List Tm)(i:Nat):Prop:=dI (ks[i]?.getD 0)=bc tk i∨(bc tk i=116∧(subs[i]?.map pS)=some true)
section
variable{k:Nat}{x:BA}{subs:List Tm}{ks:List Nat}{ns:List BA}{e:kB}
theorem rV(hk:k=6∨k=11)(hx:dx x=some e):cF k x subs ks ns=if(ks.map fun(a:Nat)=>(a:Int))=e.args∧(x=nR→(subs[1]?.map pS)=some true)then .ok e.gives.toNat else .error 1:=by unfold cF;rw[if_neg (by omega),if_neg (by omega),if_neg (by omega),if_neg (by omega),if_pos hk,hx]
theorem BW(hk:k=6∨k=11)(hx:dx x=some e)(h:ks.length≠(fA x).1.size):cF k x subs ks ns=.error 1:=by obtain⟨h1,rfl⟩:=eM hx;have ht:=oR e h1;rw[rV hk hx,if_neg];rintro⟨h2,_⟩;have:=congrArg List.length h2;rw[List.length_map]at this;omega
theorem BX(hk:k=6∨k=11)(hx:dx x=some e)(hl:ks.length=(fA x).1.size)(i:Nat)(hi:i<ks.length)(h:¬jf (fA x).1 ks subs i):cF k x subs ks ns=.error 1:=by
 obtain⟨h1,rfl⟩:=eM hx;obtain⟨t1,t2,t3,t4,t5,t6⟩:=oR e h1;rw[rV hk hx,if_neg];rintro⟨h2,h3⟩;refine h ?_;have hb:=t4 i (by omega) (by omega);unfold jf;by_cases hh:e.name=nR∧i=1;·rw[if_pos hh]at hb;obtain⟨hh1,rfl⟩:=hh;exact .inr ⟨hb,h3 hh1⟩
 ·rw[if_neg hh]at hb;rw[hb];refine .inl ?_;rw[←h2,List.getElem?_map,aD hi];rfl
theorem xU(hk:k=6∨k=11)(hx:dx x=some e)(hl:ks.length=(fA x).1.size)(hr:∀a∈ks,1≤a∧a≤5)(h2:∀(i:Nat)(t:Tm),subs[i]?=some t→bV t=2→ks[i]?.getD 0=2)(hsl:ks.length=subs.length)(h:∀i,i<ks.length→jf (fA x).1 ks subs i):dA (cF k x subs ks ns)=.returned (.tuple #[.int .u8 ((fA x).2:Nat),.int .u8 0]):=by
 obtain⟨h1,rfl⟩:=eM hx;obtain⟨t1,t2,t3,t4,t5,t6⟩:=oR e h1;have hmap:(ks.map fun(a:Nat)=>(a:Int))=e.args:=by
  apply List.ext_getElem (by rw[List.length_map];omega);intro i q1 q2;rw[List.length_map]at q1;rw[List.getElem_map];have hb:=t4 i (by omega) (by omega);have hg:=h i q1;have ha:=t5 _ (List.getElem_mem q2);have hk':=hr _ (List.getElem_mem q1);unfold jf at hg;rw[aD q1]at hg;rw[aD q2]at hb;by_cases hh:e.name=nR∧i=1;·
   rw[if_pos hh]at hb;rw[hb]at hg;rcases hg with hg|⟨_,hg⟩;·exact absurd hg (mT _)
   ·
    obtain⟨hh1,rfl⟩:=hh;have hs1:1<subs.length:=by omega
    rw[aD hs1]at hg;injection hg with hg;have hp:bV subs[1]=2:=by
     generalize subs[1]=t at hg;cases t with
     |mk kk xx nn ss=>unfold pS at hg;simp only[Bool.and_eq_true,decide_eq_true_eq]at hg;exact hg.1
    have:=h2 1 _ (aD hs1) hp;rw[aD q1]at this;have e1:e.args[1]=2:=by have:=t6 hh1;simp[this]
    rw[e1];have:ks[1]=2:=this;omega
  ·
   rw[if_neg hh]at hb;rw[hb]at hg;rcases hg with hg|⟨hg,_⟩;·have h3:=(lh ks[i] hk'.1 hk'.2 (e.args[i]).toNat (by omega) (by omega)).1 hg;rw[h3];omega
   ·exact absurd hg (mT _)
 have hcond:e.name=nR→(subs[1]?.map pS)=some true:=fun hh=>by
  have ha:=t6 hh;have hlen:ks.length=2:=by have:=congrArg List.length hmap;rw[List.length_map,ha]at this;exact this
  have hg:=h 1 (by omega);have hb:=t4 1 (by omega) (by rw[ha];decide);rw[if_pos ⟨hh,rfl⟩]at hb;rcases hg with hg|⟨_,hg⟩;·rw[hb]at hg;exact absurd hg (mT _)
  ·exact hg
 rw[rV hk hx,if_pos ⟨hmap,hcond⟩,t2];rfl
end
theorem FL(k:Nat)(x:BA)(n:Nat)(ss:List Tm):pS (.mk k x n ss)=(decide (k=2)&&decide (fL x=0)):=rfl
structure gQ(w:World)(A:Nat→Prop)(lo k:Nat)(x:BA)(subs:List Tm)(ks:List Nat)(ns:List BA)(G Gl Gn:Option Addr)(us:List Value):Prop where
 row:mN w A lo G us
 tms:bn w A lo subs us
 ls:Np w Gl ks
 nms:lp w Gn ns
 len:ks.length=subs.length
 few:ns.length≤1000
 here:zZ k x subs
 rng:∀a∈ks,1≤a∧a≤5
 text:∀(i:Nat)(t:Tm),subs[i]?=some t→bV t=2→ks[i]?.getD 0=2
 term:k=10→∀a∈ks,a≤4
 small:∀t∈subs,∀kk xx nn ss,t=.mk kk xx nn ss→xx.size≤100000
 slen:subs.length≤100000
def eP(k:Nat)(x:BA)(n:Nat)(G:Option Addr)(m c:Nat):Obj:=.cells #[.int .u8 (k:Nat),.string x,.int .i64 (n:Nat),.slice G m c] 39
theorem Lu{P:Prop}(h:P:=by
 go_enter func104,ntmps104;go_wp2_with fail;exact au (v:=.tuple #[.int .u8 110,.int .u8 0]) (by simp[results,results104,go_sem]) rfl ⟨by rw[HR.o];rfl,S1.o⟩):P:=h
theorem OF(w:World)(A:Nat→Prop)(lo k n:Nat)(x:BA)(subs:List Tm)(ks:List Nat)(ns:List BA)(G Gl Gn:Option Addr)(c cl cn:Nat)(us:List Value)(H:gQ w A lo k x subs ks ns G Gl Gn us)(hk:k=1):Calls prog 104 #[.agg #[.int .u8 (k:Nat),.string x,.int .i64 (n:Nat),.slice G subs.length c],.slice Gl ks.length cl,.slice Gn ns.length cn] w fun E w'=>E=dA (cF k x subs ks ns)∧w.Since w.heap.size w':=by
 have HR:Hid (cF k x subs ks ns=.ok 1):=aa (by unfold cF;rw[if_pos hk]);have S1:Hid (w.Since w.heap.size (w.alloc (eP k x n G subs.length c))):=aa ((ah _ _).alloc (ai _) _);unfold eP at S1;have f1:((k:Int)==1)=true:=ag (by omega);have HH:=H.few;clear HH H hk;generalize cF k x subs ks ns=R at*;exact Lu
theorem FM{P:Prop}(h:P:=by
 go_wp2_with fail;exact au (v:=.tuple #[.int .u8 115,.int .u8 0]) (by simp[results,results104,go_sem]) rfl ⟨by rw[HR.o];rfl,S1.o⟩):P:=h
theorem OG(w:World)(A:Nat→Prop)(lo k n:Nat)(x:BA)(subs:List Tm)(ks:List Nat)(ns:List BA)(G Gl Gn:Option Addr)(c cl cn:Nat)(us:List Value)(H:gQ w A lo k x subs ks ns G Gl Gn us)(hk:k=2):Calls prog 104 #[.agg #[.int .u8 (k:Nat),.string x,.int .i64 (n:Nat),.slice G subs.length c],.slice Gl ks.length cl,.slice Gn ns.length cn] w fun E w'=>E=dA (cF k x subs ks ns)∧w.Since w.heap.size w':=by
 have HR:Hid (cF k x subs ks ns=.ok 2):=aa (by unfold cF;rw[if_neg (by omega),if_pos hk]);have S1:Hid (w.Since w.heap.size (w.alloc (eP k x n G subs.length c))):=aa ((ah _ _).alloc (ai _) _);unfold eP at S1;have f1:((k:Int)==1)=false:=ae (by omega);have f2:((k:Int)==2)=true:=ag (by omega);have HH:=H.few;clear HH H hk;generalize cF k x subs ks ns=R at*;go_enter func104,ntmps104;exact FM
theorem Lv{P:Prop}(h:P:=by
 have HH:=H.few;clear HH H hk;generalize cF k x subs ks ns=R at*;go_enter func104,ntmps104;go_wp2_with fail;exact au (v:=.tuple #[.int .u8 100,.int .u8 0]) (by simp[results,results104,go_sem]) rfl ⟨by rw[HR.o];rfl,S1.o⟩):P:=h
theorem FN{P:Prop}(h:P:=by unfold cF;rw[if_neg (by omega),if_neg (by omega),if_neg (by omega),if_pos (by omega)]):P:=h
theorem OH(w:World)(A:Nat→Prop)(lo k n:Nat)(x:BA)(subs:List Tm)(ks:List Nat)(ns:List BA)(G Gl Gn:Option Addr)(c cl cn:Nat)(us:List Value)(H:gQ w A lo k x subs ks ns G Gl Gn us)(hk:k=4):Calls prog 104 #[.agg #[.int .u8 (k:Nat),.string x,.int .i64 (n:Nat),.slice G subs.length c],.slice Gl ks.length cl,.slice Gn ns.length cn] w fun E w'=>E=dA (cF k x subs ks ns)∧w.Since w.heap.size w':=by
 have HR:Hid (cF k x subs ks ns=.ok 4):=aa (by exact FN);have S1:Hid (w.Since w.heap.size (w.alloc (eP k x n G subs.length c))):=aa ((ah _ _).alloc (ai _) _);unfold eP at S1;have f1:((k:Int)==1)=false:=ae (by omega);have f2:((k:Int)==2)=false:=ae (by omega);have f3:((k:Int)==3)=false:=ae (by omega);have f4:((k:Int)==4)=true:=ag (by omega);exact Lv
theorem OI(w:World)(A:Nat→Prop)(lo k n:Nat)(x:BA)(subs:List Tm)(ks:List Nat)(ns:List BA)(G Gl Gn:Option Addr)(c cl cn:Nat)(us:List Value)(H:gQ w A lo k x subs ks ns G Gl Gn us)(hk:k=5):Calls prog 104 #[.agg #[.int .u8 (k:Nat),.string x,.int .i64 (n:Nat),.slice G subs.length c],.slice Gl ks.length cl,.slice Gn ns.length cn] w fun E w'=>E=dA (cF k x subs ks ns)∧w.Since w.heap.size w':=by
 have HR:Hid (cF k x subs ks ns=.ok 4):=aa (by exact FN);have S1:Hid (w.Since w.heap.size (w.alloc (eP k x n G subs.length c))):=aa ((ah _ _).alloc (ai _) _);unfold eP at S1;have f1:((k:Int)==1)=false:=ae (by omega);have f2:((k:Int)==2)=false:=ae (by omega);have f3:((k:Int)==3)=false:=ae (by omega);have f4:((k:Int)==4)=false:=ae (by omega);have f5:((k:Int)==5)=true:=ag (by omega);exact Lv
theorem Lw{P:Prop}(h:P:=by
 go_enter func104,ntmps104;go_wp2_with fail;exact au (v:=.tuple #[.int .u8 98,.int .u8 0]) (by simp[results,results104,go_sem]) rfl ⟨by rw[HR.o];rfl,S1.o⟩):P:=h
theorem OJ(w:World)(A:Nat→Prop)(lo k n:Nat)(x:BA)(subs:List Tm)(ks:List Nat)(ns:List BA)(G Gl Gn:Option Addr)(c cl cn:Nat)(us:List Value)(H:gQ w A lo k x subs ks ns G Gl Gn us)(hk:k≠1∧k≠2∧k≠3∧k≠4∧k≠5∧k≠6∧k≠11∧k≠7∧k≠8∧k≠9∧k≠10∧k≠15∧k≠16):Calls prog 104 #[.agg #[.int .u8 (k:Nat),.string x,.int .i64 (n:Nat),.slice G subs.length c],.slice Gl ks.length cl,.slice Gn ns.length cn] w fun E w'=>E=dA (cF k x subs ks ns)∧w.Since w.heap.size w':=by
 have HR:Hid (cF k x subs ks ns=.ok 5):=aa (by unfold cF;rw[if_neg (by omega),if_neg (by omega),if_neg (by omega),if_neg (by omega),if_neg (by omega),if_neg (by omega),if_neg (by omega),if_neg (by omega)]);have S1:Hid (w.Since w.heap.size (w.alloc (eP k x n G subs.length c))):=aa ((ah _ _).alloc (ai _) _);unfold eP at S1;have f1:((k:Int)==1)=false:=ae (by omega);have f2:((k:Int)==2)=false:=ae (by omega);have f3:((k:Int)==3)=false:=ae (by omega);have f4:((k:Int)==4)=false:=ae (by omega);have f5:((k:Int)==5)=false:=ae (by omega);have f6:((k:Int)==6)=false:=ae (by omega);have f11:((k:Int)==11)=false:=ae (by omega);have f7:((k:Int)==7)=false:=ae (by omega);have f8:((k:Int)==8)=false:=ae (by omega);have f9:((k:Int)==9)=false:=ae (by omega);have f10:((k:Int)==10)=false:=ae (by omega);have f15:((k:Int)==15)=false:=ae (by omega);have f16:((k:Int)==16)=false:=ae (by omega);have HH:=H.few;clear HH H hk;generalize cF k x subs ks ns=R at*;exact Lw
theorem OK(w:World)(A:Nat→Prop)(lo k n:Nat)(x:BA)(subs:List Tm)(ks:List Nat)(ns:List BA)(G Gl Gn:Option Addr)(c cl cn:Nat)(us:List Value)(H:gQ w A lo k x subs ks ns G Gl Gn us)(hk:k=3):Calls prog 104 #[.agg #[.int .u8 (k:Nat),.string x,.int .i64 (n:Nat),.slice G subs.length c],.slice Gl ks.length cl,.slice Gn ns.length cn] w fun E w'=>E=dA (cF k x subs ks ns)∧w.Since w.heap.size w':=by
 have HX:Hid (cF k x subs ks ns=if ns.any (fun y=>decide (y=x))then .ok 2 else .error 5):=aa (by unfold cF;rw[if_neg (by omega),if_neg (by omega),if_pos hk]);have S1:Hid (w.Since w.heap.size (w.alloc (eP k x n G subs.length c))):=aa ((ah _ _).alloc (ai _) _);unfold eP at S1;have f1:((k:Int)==1)=false:=ae (by omega);have f2:((k:Int)==2)=false:=ae (by omega);have f3:((k:Int)==3)=true:=ag (by omega);have KI:=aa (Qc x cn (H.nms.up S1.o) H.few);have c1:=(ba (aq w (.cells #[.int .u8 (k:Nat),.string x,.int .i64 (n:Nat),.slice G subs.length c] 39))).2.1;clear H hk;generalize cF k x subs ks ns=R at*;cases ht:ns.any (fun y=>decide (y=x))with
 |true=>rw[ht]at KI HX;have HR:Hid (R=.ok 2):=aa (by rw[HX.o];rfl);clear ht HX;go_enter func104,ntmps104;go_wp2_with fail;refine KI.o.mono ?_;rintro r0 w3⟨rfl,rfl⟩;exact FM
 |false=>
  rw[ht]at KI HX;have HR:Hid (R=.error 5):=aa (by rw[HX.o];rfl);clear ht HX;go_enter func104,ntmps104;go_wp2_with fail;refine KI.o.mono ?_;rintro r0 w3⟨rfl,rfl⟩;go_wp2_with fail;exact au (v:=.tuple #[.int .u8 0,.int .u8 5]) (by simp[results,results104,go_sem]) rfl ⟨by rw[HR.o];rfl,S1.o⟩
theorem FO{P:Prop}(h:P:=by
 have d0:∀o,(w.alloc o).cell? ⟨g,0,none⟩=some (.int .u8 (dI a:Nat)):=fun o=>(av w o _ hg).trans a0;have d1:∀o,(w.alloc o).cell? ⟨g,1,none⟩=some (.int .u8 (dI b:Nat)):=fun o=>(av w o _ hg).trans a1;have ea:=nO a ra.1 ra.2;have eb:=nO b rb.1 rb.2;clear H hk a0 a1 hl2;generalize cF k x subs [a,b] ns=R at*;by_cases ha:a=1;·
  have fa:((dI a:Int)!=110)=false:=by rw[ea.2 ha];rfl
  by_cases hb:b=1;·
   have fb:((dI b:Int)!=110)=false:=by rw[eb.2 hb];rfl
   have HR:Hid (R=.ok 1):=aa (by rw[HX.o,ha,hb];rfl);clear ea eb ha hb HX ra rb;generalize dI a=la at*;generalize dI b=lb at*;exact Lu
  ·have fb:((dI b:Int)!=110)=true:=bne_iff_ne.2 (fun h=>hb (eb.1 (by omega)));have HR:Hid (R=.error 1):=aa (by rw[HX.o,if_neg (by simp[hb])]);clear ea eb ha hb HX ra rb;exact Lx
 ·have fa:((dI a:Int)!=110)=true:=bne_iff_ne.2 (fun h=>ha (ea.1 (by omega)));have HR:Hid (R=.error 1):=aa (by rw[HX.o,if_neg (by simp[ha])]);clear ea eb ha HX ra rb;exact Lx):P:=h
theorem Aa{P:Prop}(h:P:=by unfold cF;rw[if_neg (by omega),if_neg (by omega),if_neg (by omega),if_neg (by omega),if_neg (by omega),if_pos (by omega)]):P:=h
theorem Lx{P:Prop}(h:P:=by generalize dI a=la at*;generalize dI b=lb at*;exact Ly):P:=h
theorem Ly{P:Prop}(h:P:=by
 go_enter func104,ntmps104;go_wp2_with fail;exact au (v:=.tuple #[.int .u8 0,.int .u8 1]) (by simp[results,results104,go_sem]) rfl ⟨by rw[HR.o];rfl,S1.o⟩):P:=h
theorem OL(w:World)(A:Nat→Prop)(lo k n:Nat)(x:BA)(subs:List Tm)(ks:List Nat)(ns:List BA)(G Gl Gn:Option Addr)(c cl cn:Nat)(us:List Value)(H:gQ w A lo k x subs ks ns G Gl Gn us)(hk:k=7):Calls prog 104 #[.agg #[.int .u8 (k:Nat),.string x,.int .i64 (n:Nat),.slice G subs.length c],.slice Gl ks.length cl,.slice Gn ns.length cn] w fun E w'=>E=dA (cF k x subs ks ns)∧w.Since w.heap.size w':=by
 have hl2:ks.length=2:=by rw[H.len];exact H.here.2.2.1 (by omega)
 obtain⟨a,b,rfl⟩:∃a b,ks=[a,b]:=by
  match ks,hl2 with
  |[a,b],_=>exact⟨a,b,rfl⟩
 have ra:=H.rng a (by simp);have rb:=H.rng b (by simp);have HX:Hid (cF k x subs [a,b] ns=if([a,b].all fun a=>decide (a=1))then .ok 1 else .error 1):=aa (by exact Aa);obtain⟨g,hG,hg,a0⟩:=H.ls 0 (by simp);obtain⟨g',hG',_,a1⟩:=H.ls 1 (by simp);rw[hG]at hG';injection hG' with hG';injection hG' with hG';subst hG' hG;have S1:Hid (w.Since w.heap.size (w.alloc (eP k x n G subs.length c))):=aa ((ah _ _).alloc (ai _) _);unfold eP at S1;have f1:((k:Int)==1)=false:=ae (by omega);have f2:((k:Int)==2)=false:=ae (by omega);have f3:((k:Int)==3)=false:=ae (by omega);have f4:((k:Int)==4)=false:=ae (by omega);have f5:((k:Int)==5)=false:=ae (by omega);have f6:((k:Int)==6)=false:=ae (by omega);have f11:((k:Int)==11)=false:=ae (by omega);have f7:((k:Int)==7)=true:=ag (by omega);exact FO
theorem OM(w:World)(A:Nat→Prop)(lo k n:Nat)(x:BA)(subs:List Tm)(ks:List Nat)(ns:List BA)(G Gl Gn:Option Addr)(c cl cn:Nat)(us:List Value)(H:gQ w A lo k x subs ks ns G Gl Gn us)(hk:k=8):Calls prog 104 #[.agg #[.int .u8 (k:Nat),.string x,.int .i64 (n:Nat),.slice G subs.length c],.slice Gl ks.length cl,.slice Gn ns.length cn] w fun E w'=>E=dA (cF k x subs ks ns)∧w.Since w.heap.size w':=by
 have hl2:ks.length=2:=by rw[H.len];exact H.here.2.2.1 (by omega)
 obtain⟨a,b,rfl⟩:∃a b,ks=[a,b]:=by
  match ks,hl2 with
  |[a,b],_=>exact⟨a,b,rfl⟩
 have ra:=H.rng a (by simp);have rb:=H.rng b (by simp);have HX:Hid (cF k x subs [a,b] ns=if([a,b].all fun a=>decide (a=1))then .ok 1 else .error 1):=aa (by exact Aa);obtain⟨g,hG,hg,a0⟩:=H.ls 0 (by simp);obtain⟨g',hG',_,a1⟩:=H.ls 1 (by simp);rw[hG]at hG';injection hG' with hG';injection hG' with hG';subst hG' hG;have S1:Hid (w.Since w.heap.size (w.alloc (eP k x n G subs.length c))):=aa ((ah _ _).alloc (ai _) _);unfold eP at S1;have f1:((k:Int)==1)=false:=ae (by omega);have f2:((k:Int)==2)=false:=ae (by omega);have f3:((k:Int)==3)=false:=ae (by omega);have f4:((k:Int)==4)=false:=ae (by omega);have f5:((k:Int)==5)=false:=ae (by omega);have f6:((k:Int)==6)=false:=ae (by omega);have f11:((k:Int)==11)=false:=ae (by omega);have f7:((k:Int)==7)=false:=ae (by omega);have f8:((k:Int)==8)=true:=ag (by omega);exact FO
theorem ON(w:World)(A:Nat→Prop)(lo k n:Nat)(x:BA)(subs:List Tm)(ks:List Nat)(ns:List BA)(G Gl Gn:Option Addr)(c cl cn:Nat)(us:List Value)(H:gQ w A lo k x subs ks ns G Gl Gn us)(hk:k=9):Calls prog 104 #[.agg #[.int .u8 (k:Nat),.string x,.int .i64 (n:Nat),.slice G subs.length c],.slice Gl ks.length cl,.slice Gn ns.length cn] w fun E w'=>E=dA (cF k x subs ks ns)∧w.Since w.heap.size w':=by
 have hl2:ks.length=2:=by rw[H.len];exact H.here.2.2.1 (by omega)
 obtain⟨a,b,rfl⟩:∃a b,ks=[a,b]:=by
  match ks,hl2 with
  |[a,b],_=>exact⟨a,b,rfl⟩
 have ra:=H.rng a (by simp);have rb:=H.rng b (by simp);have HX:Hid (cF k x subs [a,b] ns=if([a,b].all fun a=>decide (a=1))then .ok 1 else .error 1):=aa (by exact Aa);obtain⟨g,hG,hg,a0⟩:=H.ls 0 (by simp);obtain⟨g',hG',_,a1⟩:=H.ls 1 (by simp);rw[hG]at hG';injection hG' with hG';injection hG' with hG';subst hG' hG;have S1:Hid (w.Since w.heap.size (w.alloc (eP k x n G subs.length c))):=aa ((ah _ _).alloc (ai _) _);unfold eP at S1;have f1:((k:Int)==1)=false:=ae (by omega);have f2:((k:Int)==2)=false:=ae (by omega);have f3:((k:Int)==3)=false:=ae (by omega);have f4:((k:Int)==4)=false:=ae (by omega);have f5:((k:Int)==5)=false:=ae (by omega);have f6:((k:Int)==6)=false:=ae (by omega);have f11:((k:Int)==11)=false:=ae (by omega);have f7:((k:Int)==7)=false:=ae (by omega);have f8:((k:Int)==8)=false:=ae (by omega);have f9:((k:Int)==9)=true:=ag (by omega);exact FO
theorem Nq(w:World)(A:Nat→Prop)(lo k n:Nat)(x:BA)(subs:List Tm)(ks:List Nat)(ns:List BA)(G Gl Gn:Option Addr)(c cl cn:Nat)(us:List Value)(H:gQ w A lo k x subs ks ns G Gl Gn us)(hk:k=10):Calls prog 104 #[.agg #[.int .u8 (k:Nat),.string x,.int .i64 (n:Nat),.slice G subs.length c],.slice Gl ks.length cl,.slice Gn ns.length cn] w fun E w'=>E=dA (cF k x subs ks ns)∧w.Since w.heap.size w':=by
 have hl2:ks.length=2:=by rw[H.len];obtain⟨a,b,e,_⟩:=H.here.2.2.2.1 hk;rw[e];rfl
 obtain⟨a,b,rfl⟩:∃a b,ks=[a,b]:=by
  match ks,hl2 with
  |[a,b],_=>exact⟨a,b,rfl⟩
 have ra:=H.rng a (by simp);have rb:=H.rng b (by simp);have HS:=aa (Fz x a b ra.1 (H.term hk a (by simp)) rb.1 (H.term hk b (by simp)));have HX:Hid (cF k x subs [a,b] ns=if eZ x a b then .ok 5 else .error 1):=aa (by unfold cF;rw[if_neg (by omega),if_neg (by omega),if_neg (by omega),if_neg (by omega),if_neg (by omega),if_neg (by omega),if_pos hk];rfl);obtain⟨g,hG,hg,a0⟩:=H.ls 0 (by simp);obtain⟨g',hG',_,a1⟩:=H.ls 1 (by simp);rw[hG]at hG';injection hG' with hG';injection hG' with hG';subst hG' hG;have S1:Hid (w.Since w.heap.size (w.alloc (eP k x n G subs.length c))):=aa ((ah _ _).alloc (ai _) _);unfold eP at S1;have f1:((k:Int)==1)=false:=ae (by omega);have f2:((k:Int)==2)=false:=ae (by omega);have f3:((k:Int)==3)=false:=ae (by omega);have f4:((k:Int)==4)=false:=ae (by omega);have f5:((k:Int)==5)=false:=ae (by omega);have f6:((k:Int)==6)=false:=ae (by omega);have f11:((k:Int)==11)=false:=ae (by omega);have f7:((k:Int)==7)=false:=ae (by omega);have f8:((k:Int)==8)=false:=ae (by omega);have f9:((k:Int)==9)=false:=ae (by omega);have f10:((k:Int)==10)=true:=ag (by omega);have d0:(w.alloc (eP k x n G subs.length c)).drew.cell? ⟨g,0,none⟩=some (.int .u8 (dI a:Nat)):=(av w _ _ hg).trans a0;have d1:(w.alloc (eP k x n G subs.length c)).drew.cell? ⟨g,1,none⟩=some (.int .u8 (dI b:Nat)):=(av w _ _ hg).trans a1;have d2:(w.alloc (eP k x n G subs.length c)).drew.cell? ⟨w.heap.size,1,none⟩=some (.string x):=(ba (aq w (.cells #[.int .u8 (k:Nat),.string x,.int .i64 (n:Nat),.slice G subs.length c] 39))).2.1;have d3:(w.alloc (eP k x n G subs.length c)).cell? ⟨g,0,none⟩=some (.int .u8 (dI a:Nat)):=d0;have d4:(w.alloc (eP k x n G subs.length c)).cell? ⟨g,1,none⟩=some (.int .u8 (dI b:Nat)):=d1;have d5:(w.alloc (eP k x n G subs.length c)).cell? ⟨w.heap.size,1,none⟩=some (.string x):=d2;unfold eP at d0 d1 d2 d3 d4 d5;have KC:=aa (fun W=>sU x (dI a) (dI b) W);rw[HS.o]at KC;clear H hk a0 a1 hl2 HS ra rb;generalize cF k x subs [a,b] ns=R at*;generalize eZ x a b=q at*;generalize dI a=la at*;generalize dI b=lb at*;have S2:Hid (w.Since w.heap.size (w.alloc (.cells #[.int .u8 (k:Nat),.string x,.int .i64 (n:Nat),.slice G subs.length c] 39)).drew):=aa S1.o.drew;have S1:=S2;cases q with
 |true=>have HR:Hid (R=.ok 5):=aa (by rw[HX.o];rfl);clear HX;go_enter func104,ntmps104;go_wp2_with fail;go_quiet((refine(KC.o _).mono ?_;rintro r0 w3⟨rfl,rfl⟩;exact⟨rfl,_,rfl⟩));go_wp2_with fail;exact au (v:=.tuple #[.int .u8 98,.int .u8 0]) (by simp[results,results104,go_sem]) rfl ⟨by rw[HR.o];rfl,⟨S1.o.os,S1.o.tape,S1.o.output,S1.o.size,S1.o.block⟩⟩
 |false=>
  have HR:Hid (R=.error 1):=aa (by rw[HX.o];rfl);clear HX;go_enter func104,ntmps104;go_wp2_with fail;go_quiet((refine(KC.o _).mono ?_;rintro r0 w3⟨rfl,rfl⟩;exact⟨rfl,_,rfl⟩));go_wp2_with fail;exact au (v:=.tuple #[.int .u8 0,.int .u8 1]) (by simp[results,results104,go_sem]) rfl ⟨by rw[HR.o];rfl,⟨S1.o.os,S1.o.tape,S1.o.output,S1.o.size,S1.o.block⟩⟩
theorem Lz{P:Prop}(h:P:=by
 have d0:∀o,(w.alloc o).cell? ⟨g,0,none⟩=some (.int .u8 (dI a:Nat)):=fun o=>(av w o _ hg).trans a0;have ea:=rS a ra.1 ra.2;clear H hk a0 hl2;generalize cF k x subs [a,b] ns=R at*;by_cases ha:a=3;·
  have fa:((dI a:Int)!=108)=false:=by rw[ea.2 ha];rfl
  have HR:Hid (R=.ok 5):=aa (by rw[HX.o,if_pos ha]);clear ea ha HX ra;generalize dI a=la at*;exact Lw
 ·have fa:((dI a:Int)!=108)=true:=bne_iff_ne.2 (fun h=>ha (ea.1 (by omega)));have HR:Hid (R=.error 1):=aa (by rw[HX.o,if_neg ha]);clear ea ha HX ra;generalize dI a=la at*;exact Ly):P:=h
theorem LA{P:Prop}(h:P:=by unfold cF;rw[if_neg (by omega),if_neg (by omega),if_neg (by omega),if_neg (by omega),if_neg (by omega),if_neg (by omega),if_neg (by omega),if_pos (by omega)];rfl):P:=h
theorem Nr(w:World)(A:Nat→Prop)(lo k n:Nat)(x:BA)(subs:List Tm)(ks:List Nat)(ns:List BA)(G Gl Gn:Option Addr)(c cl cn:Nat)(us:List Value)(H:gQ w A lo k x subs ks ns G Gl Gn us)(hk:k=15):Calls prog 104 #[.agg #[.int .u8 (k:Nat),.string x,.int .i64 (n:Nat),.slice G subs.length c],.slice Gl ks.length cl,.slice Gn ns.length cn] w fun E w'=>E=dA (cF k x subs ks ns)∧w.Since w.heap.size w':=by
 have hl2:ks.length=2:=by rw[H.len];exact H.here.2.2.2.2.1 (by omega)
 obtain⟨a,b,rfl⟩:∃a b,ks=[a,b]:=by
  match ks,hl2 with
  |[a,b],_=>exact⟨a,b,rfl⟩
 have ra:=H.rng a (by simp);have HX:Hid (cF k x subs [a,b] ns=if a=3 then .ok 5 else .error 1):=aa (by exact LA);obtain⟨g,rfl,hg,a0⟩:=H.ls 0 (by simp);have S1:Hid (w.Since w.heap.size (w.alloc (eP k x n G subs.length c))):=aa ((ah _ _).alloc (ai _) _);unfold eP at S1;have f1:((k:Int)==1)=false:=ae (by omega);have f2:((k:Int)==2)=false:=ae (by omega);have f3:((k:Int)==3)=false:=ae (by omega);have f4:((k:Int)==4)=false:=ae (by omega);have f5:((k:Int)==5)=false:=ae (by omega);have f6:((k:Int)==6)=false:=ae (by omega);have f11:((k:Int)==11)=false:=ae (by omega);have f7:((k:Int)==7)=false:=ae (by omega);have f8:((k:Int)==8)=false:=ae (by omega);have f9:((k:Int)==9)=false:=ae (by omega);have f10:((k:Int)==10)=false:=ae (by omega);have f15:((k:Int)==15)=true:=ag (by omega);exact Lz
theorem Ns(w:World)(A:Nat→Prop)(lo k n:Nat)(x:BA)(subs:List Tm)(ks:List Nat)(ns:List BA)(G Gl Gn:Option Addr)(c cl cn:Nat)(us:List Value)(H:gQ w A lo k x subs ks ns G Gl Gn us)(hk:k=16):Calls prog 104 #[.agg #[.int .u8 (k:Nat),.string x,.int .i64 (n:Nat),.slice G subs.length c],.slice Gl ks.length cl,.slice Gn ns.length cn] w fun E w'=>E=dA (cF k x subs ks ns)∧w.Since w.heap.size w':=by
 have hl2:ks.length=2:=by rw[H.len];exact H.here.2.2.2.2.1 (by omega)
 obtain⟨a,b,rfl⟩:∃a b,ks=[a,b]:=by
  match ks,hl2 with
  |[a,b],_=>exact⟨a,b,rfl⟩
 have ra:=H.rng a (by simp);have HX:Hid (cF k x subs [a,b] ns=if a=3 then .ok 5 else .error 1):=aa (by exact LA);obtain⟨g,rfl,hg,a0⟩:=H.ls 0 (by simp);have S1:Hid (w.Since w.heap.size (w.alloc (eP k x n G subs.length c))):=aa ((ah _ _).alloc (ai _) _);unfold eP at S1;have f1:((k:Int)==1)=false:=ae (by omega);have f2:((k:Int)==2)=false:=ae (by omega);have f3:((k:Int)==3)=false:=ae (by omega);have f4:((k:Int)==4)=false:=ae (by omega);have f5:((k:Int)==5)=false:=ae (by omega);have f6:((k:Int)==6)=false:=ae (by omega);have f11:((k:Int)==11)=false:=ae (by omega);have f7:((k:Int)==7)=false:=ae (by omega);have f8:((k:Int)==8)=false:=ae (by omega);have f9:((k:Int)==9)=false:=ae (by omega);have f10:((k:Int)==10)=false:=ae (by omega);have f15:((k:Int)==15)=false:=ae (by omega);have f16:((k:Int)==16)=true:=ag (by omega);exact Lz
