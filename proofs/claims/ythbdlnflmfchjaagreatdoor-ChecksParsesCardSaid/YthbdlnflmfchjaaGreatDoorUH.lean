/- The specification's own walked, at calls. -/
import Derived.Test.YthbdlnflmfchjaaGreatDoorTD
set_option linter.unusedVariables false
set_option linter.unusedSimpArgs false
namespace Go.Proofs.YthbdlnflmfchjaaGreatDoor
open Go.Proofs.Tryz
open Go.RowKit Go.Proofs.Fm Go.Proofs.MapEnt
set_option maxHeartbeats 3200000
set_option maxRecDepth 1000000
theorem rW{w:World}{A:Nat→Prop}{lo:Nat}{G:Option Addr}{us:List Value}{subs:List Tm}(hr:mN w A lo G us)(hs:bn w A lo subs us)(i:Nat)(h:i<subs.length):∃(b kk:Nat)(xx:BA)(nn:Nat)(G':Option Addr)(m c:Nat)(ss:List Tm),G=some ⟨b,0,none⟩∧b<w.heap.size∧subs[i]=.mk kk xx nn ss∧aY w A lo subs[i] [.int .u8 (kk:Nat),.string xx,.int .i64 (nn:Nat),.slice G' m c]∧w.cell? ⟨b,i*4,none⟩=some (.int .u8 (kk:Nat))∧w.cell? ⟨b,i*4+1,none⟩=some (.string xx)∧w.cell? ⟨b,i*4+2,none⟩=some (.int .i64 (nn:Nat))∧w.cell? ⟨b,i*4+3,none⟩=some (.slice G' m c):=by
 obtain⟨hl,hg⟩:=qo subs us hs;obtain⟨v0,v1,v2,v3,g0,g1,g2,g3,g4⟩:=hg i h;rcases hr with⟨e,_⟩|⟨b,e1,_,_,e4,e5⟩;·rw[e]at hl;simp at hl;omega
 ·
  have hc:∀j v,us[j]?=some v→w.cell? ⟨b,j,none⟩=some v:=fun j v hj=>by obtain⟨h1,h2⟩:=aQ.1 hj;rw[e5 j h1,h2]
  have q:=g0;generalize ht:subs[i]=t at g0;cases t with
  |mk kk xx nn ss=>unfold aY at g0;obtain⟨G',c,us',e,_,_⟩:=g0;injection e with e0 e;injection e with e1' e;injection e with e2 e;injection e with e3 _;subst e0 e1' e2 e3;rw[ht]at q;exact⟨b,kk,xx,nn,G',_,c,ss,e1,e4,rfl,q,hc _ _ g1,hc _ _ g2,hc _ _ g3,hc _ _ g4⟩
theorem LM{P:Prop}(h:P:=by
 have c1:=(ba (aq w (.cells #[.int .u8 (k:Nat),.string x,.int .i64 (n:Nat),.slice G subs.length c] 39))).2.1;have B1:=aa (aq w (.cells #[.int .u8 (k:Nat),.string x,.int .i64 (n:Nat),.slice G subs.length c] 39));clear H hk hx htk hgv;generalize cF k x subs ks ns=R at*;by_cases hl:ks.length=tk.size;·
  have fl:((ks.length:Int)!=(tk.size:Int))=false:=by rw[hl];simp
  have HL:=aa hl;have HBd:=aa (HBd.o hl);have HGd:=aa (HGd.o hl HI.o.rng HI.o.text HI.o.len);clear HLn hl;go_enter func104,ntmps104;go_wp2_with fail;refine(KS.o _).mono ?_;rintro r0 w3⟨rfl,rfl⟩;go_wp2_with fail;go_loopg[10]ks.length(fun gg o10 wr=>∃i:Nat,gg=ks.length-i∧i≤ks.length∧o10=.int .i64 (i:Nat)∧Hid (∀j,j<i→jf tk ks subs j)∧Hid (w.Since w.heap.size wr)∧Hid (wr.heap[w.heap.size]?=some (.cells #[.int .u8 (k:Nat),.string x,.int .i64 (n:Nat),.slice G subs.length c] 39)));case atStart=>exact⟨0,rfl,by omega,rfl,aa (fun j h=>absurd h (aH _)),S1,B1⟩
  case round=>
   obtain⟨i,rfl,hi,rfl,hE,hW,hB⟩:=hrel;obtain⟨-,-,-,p3,-⟩:=ba hB.o;by_cases h1:i<ks.length;·
    have i1:(i:Int)<(ks.length:Int):=by omega
    have it:i<tk.size:=by have:=HL.o;omega
    have it1:(i:Int)<(tk.size:Int):=by omega
    have z5:IntKind.i64.wrap ((i:Int)+1)=(i:Int)+1:=ax _ (by omega);have hsl:i<subs.length:=by have:=HI.o.len;omega
    obtain⟨bl,hGl,hbl,a0⟩:=HI.o.ls i h1;have b0:wr.cell? ⟨bl,i,none⟩=some (.int .u8 (dI ks[i]:Nat)):=(az (hW.o.block bl hbl)).trans a0;obtain⟨b,kk,xx,nn,G',mm,cc,ss,hGs,hb,hsi,_,g0,g1,g2,g3⟩:=rW HI.o.row HI.o.tms i hsl;have e0:wr.cell? ⟨b,i*4,none⟩=some (.int .u8 (kk:Nat)):=(az (hW.o.block b hb)).trans g0;have e1:wr.cell? ⟨b,i*4+1,none⟩=some (.string xx):=(az (hW.o.block b hb)).trans g1;have hxx:xx.size≤100000:=HI.o.small _ (List.getElem_mem hsl) kk xx nn ss hsi;have isl:(i:Int)<(subs.length:Int):=by omega
    have HQ:Hid (jf tk ks subs i↔(dI ks[i]=tk[i].toNat∨(tk[i].toNat=116∧kk=2∧fL xx=0))):=aa (by unfold jf;rw[aD h1,aD hsl,hsi,bm it];show(dI ks[i]=_∨_∧some (pS (.mk kk xx nn ss))=some true)↔_;rw[FL];simp);have HBi:=aa (fun h=>HBd.o i h1 h);have HNx:=aa (fun(h:jf tk ks subs i)=>fun j(hj:j<i+1)=>(if e:j=i then e▸h else hE.o j (by omega):jf tk ks subs j));generalize jf tk ks subs i=GA at*;subst hGl hGs;clear a0 g0 g1 g2 g3 hsi;have l256:=Ir ks[i];generalize dI ks[i]=lk at*;have HT:Hid ((tk[i].toNat:Int)=(tk[i].toNat:Int)):=aa rfl;have b00:=aa (show w.cell? ⟨bl,i,none⟩=some (.int .u8 (lk:Nat))from(az (hW.o.block bl hbl)).symm.trans b0);by_cases h116:tk[i].toNat=116;·
     have f116:((tk[i].toNat:Int)==116)=true:=ag (by omega);by_cases hk2:kk=2;·
      have fk2:((kk:Int)==2)=true:=ag (by omega);have hal:=aq wr (.cells #[.string ⟨#[]⟩,.string xx,.bool false] 185);have KB:=aa (vz xx (wr.alloc (.cells #[.string ⟨#[]⟩,.string xx,.bool false] 185)) wr.heap.size hxx (by unfold World.cell?;rw[hal];rfl) (by unfold World.cell?;rw[hal];rfl) (by simp));have WA:=aa (hW.o.alloc hW.o.size (.cells #[.string ⟨#[]⟩,.string xx,.bool false] 185));have BA:=aa ((aj wr (.cells #[.string ⟨#[]⟩,.string xx,.bool false] 185) w.heap.size (aV hB.o)).trans hB.o);have HK2:=aa (aF h116 hk2);clear h116 hk2 hal;go_wp2_with fail;refine KB.o.mono ?_;rintro r0 w4⟨rfl,hs4⟩;have W4:=aa (aZ WA.o hs4);have B4:=aa ((hs4.block w.heap.size (aV BA.o)).trans BA.o);have b4:w4.cell? ⟨bl,i,none⟩=some (.int .u8 (lk:Nat)):=(az (W4.o.block bl hbl)).trans b00.o;clear hs4;by_cases hbk:fL xx=0;·
       have f0:((fL xx:Int)==0)=true:=by rw[hbk];rfl
       have HP:=aa hbk;clear hbk;generalize fL xx=bk at*;go_wp2_with fail;by_cases hlk:lk=tk[i].toNat;· exact LN
       ·have f22:((lk:Int)!=(tk[i].toNat:Int))=true:=bne_iff_ne.2 (by omega);have hg:GA:=HQ.o.2 (.inr ⟨HK2.o.1,HK2.o.2,HP.o⟩);exact LO
      ·
       have f0:((fL xx:Int)==0)=false:=ae (by omega);have HP:=aa hbk;clear hbk;generalize fL xx=bk at*;go_wp2_with fail;by_cases hlk:lk=tk[i].toNat;· exact LN
       ·have f22:((lk:Int)!=(tk[i].toNat:Int))=true:=bne_iff_ne.2 (by omega);have HR:=aa (HBi.o (fun hg=>(HQ.o.1 hg).elim hlk (fun h=>HP.o h.2.2)));clear hlk HQ;go_region;go_wp2_with fail;exact au (v:=.tuple #[.int .u8 0,.int .u8 1]) (by simp[results,results104,go_sem]) rfl ⟨by rw[HR.o];rfl,W4.o.drew⟩
     ·
      have fk2:((kk:Int)==2)=false:=ae (by omega);have HP:=aa hk2;clear hk2 h116;go_wp2_with fail;by_cases hlk:lk=tk[i].toNat;· exact LP
      ·have f22:((lk:Int)!=(tk[i].toNat:Int))=true:=bne_iff_ne.2 (by omega);have HR:=aa (HBi.o (fun hg=>(HQ.o.1 hg).elim hlk (fun h=>HP.o h.2.1)));exact LQ
    ·
     have f116:((tk[i].toNat:Int)==116)=false:=ae (by omega);have HP:=aa h116;clear h116;go_wp2_with fail;by_cases hlk:lk=tk[i].toNat;· exact LP
     ·have f22:((lk:Int)!=(tk[i].toNat:Int))=true:=bne_iff_ne.2 (by omega);have HR:=aa (HBi.o (fun hg=>(HQ.o.1 hg).elim hlk (fun h=>HP.o h.1)));exact LQ
   ·
    have i1:¬(i:Int)<(ks.length:Int):=by omega
    have HR:=aa (HGd.o (fun j hj=>hE.o j (by omega)));go_wp2_with fail;exact au (v:=.tuple #[.int .u8 (gv:Nat),.int .u8 0]) (by simp[results,results104,go_sem]) rfl ⟨by rw[HR.o],hW.o⟩
 ·have fl:((ks.length:Int)!=(tk.size:Int))=true:=bne_iff_ne.2 (by omega);have HR:=aa (HLn.o hl);clear HLn HBd HGd hl;go_enter func104,ntmps104;go_wp2_with fail;refine(KS.o _).mono ?_;rintro r0 w3⟨rfl,rfl⟩;go_wp2_with fail;exact au (v:=.tuple #[.int .u8 0,.int .u8 1]) (by simp[results,results104,go_sem]) rfl ⟨by rw[HR.o];rfl,S1.o⟩):P:=h
theorem LN{P:Prop}(h:P:=by
 have hg:GA:=HQ.o.2 (.inl hlk);have f22:((lk:Int)!=(tk[i].toNat:Int))=false:=by rw[hlk];simp
 exact LO):P:=h
theorem LO{P:Prop}(h:P:=by
 have HN2:=aa (HNx.o hg);clear hlk hg HQ;go_region;go_wp2_with fail;go_roundg(ks.length-(i+1));case measure=>omega
 case rel=>exact⟨i+1,rfl,by omega,by simp,HN2,aa W4.o.drew,aa B4.o⟩):P:=h
theorem LP{P:Prop}(h:P:=by
 have hg:GA:=HQ.o.2 (.inl hlk);have f22:((lk:Int)!=(tk[i].toNat:Int))=false:=by rw[hlk];simp
 have HN2:=aa (HNx.o hg);clear hlk hg HQ;go_region;go_wp2_with fail;go_roundg(ks.length-(i+1));case measure=>omega
 case rel=>exact⟨i+1,rfl,by omega,by simp,HN2,aa hW.o.drew,aa hB.o⟩):P:=h
theorem LQ{P:Prop}(h:P:=by
 clear hlk HQ;go_region;go_wp2_with fail;exact au (v:=.tuple #[.int .u8 0,.int .u8 1]) (by simp[results,results104,go_sem]) rfl ⟨by rw[HR.o];rfl,hW.o.drew⟩):P:=h
theorem OX(w:World)(A:Nat→Prop)(lo k n:Nat)(x:BA)(subs:List Tm)(ks:List Nat)(ns:List BA)(G Gl Gn:Option Addr)(c cl cn:Nat)(us:List Value)(H:gQ w A lo k x subs ks ns G Gl Gn us)(hk:k=6):Calls prog 104 #[.agg #[.int .u8 (k:Nat),.string x,.int .i64 (n:Nat),.slice G subs.length c],.slice Gl ks.length cl,.slice Gn ns.length cn] w fun E w'=>E=dA (cF k x subs ks ns)∧w.Since w.heap.size w':=by
 obtain⟨e,hx⟩:∃e,dx x=some e:=by obtain⟨e,h1,_⟩:=rT (H.here.1 hk);exact⟨e,h1⟩
 have hlt:ks.length≤100000:=by rw[H.len];exact H.slen
 have HLn:=aa (BW (subs:=subs) (ks:=ks) (ns:=ns) (k:=k) (by omega) hx);have HBd:=aa (BX (subs:=subs) (ks:=ks) (ns:=ns) (k:=k) (by omega) hx);have HGd:=aa (xU (subs:=subs) (ks:=ks) (ns:=ns) (k:=k) (by omega) hx);have KS:=aa (fun W=>kF x W);obtain⟨tk,htk⟩:∃tk,(fA x).1=tk:=⟨_,rfl⟩;obtain⟨gv,hgv⟩:∃gv,(fA x).2=gv:=⟨_,rfl⟩;rw[htk,hgv]at KS;rw[htk]at HLn HBd HGd;rw[hgv]at HGd;have HI:=aa H;have S1:Hid (w.Since w.heap.size (w.alloc (eP k x n G subs.length c))):=aa ((ah _ _).alloc (ai _) _);unfold eP at S1;have f1:((k:Int)==1)=false:=ae (by omega);have f2:((k:Int)==2)=false:=ae (by omega);have f3:((k:Int)==3)=false:=ae (by omega);have f4:((k:Int)==4)=false:=ae (by omega);have f5:((k:Int)==5)=false:=ae (by omega);have f6:((k:Int)==6)=true:=ag (by omega);exact LM
theorem Nw(w:World)(A:Nat→Prop)(lo k n:Nat)(x:BA)(subs:List Tm)(ks:List Nat)(ns:List BA)(G Gl Gn:Option Addr)(c cl cn:Nat)(us:List Value)(H:gQ w A lo k x subs ks ns G Gl Gn us)(hk:k=11):Calls prog 104 #[.agg #[.int .u8 (k:Nat),.string x,.int .i64 (n:Nat),.slice G subs.length c],.slice Gl ks.length cl,.slice Gn ns.length cn] w fun E w'=>E=dA (cF k x subs ks ns)∧w.Since w.heap.size w':=by
 obtain⟨e,hx⟩:∃e,dx x=some e:=by obtain⟨e,h1,_⟩:=xS (H.here.2.1 hk);exact⟨e,h1⟩
 have hlt:ks.length≤100000:=by rw[H.len];exact H.slen
 have HLn:=aa (BW (subs:=subs) (ks:=ks) (ns:=ns) (k:=k) (by omega) hx);have HBd:=aa (BX (subs:=subs) (ks:=ks) (ns:=ns) (k:=k) (by omega) hx);have HGd:=aa (xU (subs:=subs) (ks:=ks) (ns:=ns) (k:=k) (by omega) hx);have KS:=aa (fun W=>kF x W);obtain⟨tk,htk⟩:∃tk,(fA x).1=tk:=⟨_,rfl⟩;obtain⟨gv,hgv⟩:∃gv,(fA x).2=gv:=⟨_,rfl⟩;rw[htk,hgv]at KS;rw[htk]at HLn HBd HGd;rw[hgv]at HGd;have HI:=aa H;have S1:Hid (w.Since w.heap.size (w.alloc (eP k x n G subs.length c))):=aa ((ah _ _).alloc (ai _) _);unfold eP at S1;have f1:((k:Int)==1)=false:=ae (by omega);have f2:((k:Int)==2)=false:=ae (by omega);have f3:((k:Int)==3)=false:=ae (by omega);have f4:((k:Int)==4)=false:=ae (by omega);have f5:((k:Int)==5)=false:=ae (by omega);have f6:((k:Int)==6)=false:=ae (by omega);have f11:((k:Int)==11)=true:=ag (by omega);exact LM
theorem F3:(prog.info? 9).map (fun i=>(i.zero,i.size,i.bytes))=some (some (.string ByteArray.empty),1,16):=by kernel_rfl
theorem DC{W:World}{E base:Nat}(h:W.heap[E]?=some (.cells #[] 9))(hb:base≤E):W.ownsRow base 9 1 (.slice (some ⟨E,0,none⟩) 0 0) 0 []:=⟨rfl,.inr ⟨E,0,#[],rfl,hb,h,ai _,aI _,rfl,rfl⟩⟩
theorem lP{W:World}{E base:Nat}{Gn:Option Addr}{ns:List BA}(cn:Nat)(hE:W.heap[E]?=some (.cells #[] 9))(hb:base≤E)(hbase:base≤W.heap.size)(hns:lp W Gn ns)(hn:ns.length≤100000):∃W' g' cp',(Builtin.append_ #[70,70] 70 #[.slice (some ⟨E,0,none⟩) 0 0,.slice Gn ns.length cn]).run prog W=.ok (.slice (some ⟨g',0,none⟩) ns.length cp') W'∧Hid (W'.ownsRow base 9 1 (.slice (some ⟨g',0,none⟩) ns.length cp') ns.length (ns.map Value.string))∧Hid (W.Since base W')∧Hid (∀k,k<W.heap.size→k≠E→W'.heap[k]?=W.heap[k]?):=by
 have hO:=DC (base:=base) hE hb;rcases hns with⟨rfl,rfl⟩|⟨b,rfl,hs⟩;·exact⟨W,E,0,rfl,aa hO,aa (ah _ _),aa (fun _ _ _=>rfl)⟩
 ·
  obtain⟨i0,hi,hz0,hz1,hz2⟩:=info_parts F3;obtain⟨v',w',r1,r2,r3,r0,r4⟩:=run_append_own_at (P:=prog) (w:=W) base 70 70 9 i0 (.string ByteArray.empty) 1 16 underlying70 hi hz0 hz1 hz2 rfl (by decide) _ 0 [] hO ⟨b,0,none⟩ ns.length cn (ns.map Value.string) (by rw[List.length_map];omega) (fun j u hu=>by
   have hj:j<ns.length:=by
    rcases Nat.lt_or_ge j ns.length with h|h;·exact h
    ·rw[aU (by rw[List.length_map];exact h)]at hu;cases hu
   rw[List.getElem?_map,aD hj]at hu;injection hu with hu;have e1:((⟨b,0,none⟩:Addr).add j)=⟨b,j,none⟩:=by unfold Addr.add;split<;>simp_all
   rw[e1,hs.2 j hj,←hu]) (fun u hu=>by obtain⟨s,_,rfl⟩:=List.mem_map.1 hu;rfl) (by simp only[maxLen];omega) (by omega) hbase;rw[Nat.zero_add,List.nil_append]at r2;obtain⟨g',cp',rfl⟩:∃g' cp',v'=.slice (some ⟨g',0,none⟩) ns.length cp':=by
   rcases r2.2 with⟨e,e2⟩|⟨g',cp,cur,e,_⟩;·have:=(r0.1 e).1;cases this
   ·exact⟨g',cp,e⟩
  refine⟨w',g',cp',r1,aa r2,aa ((ah base W).grown r3 hbase (fun q hq=>oo hO q hq)),aa (fun k hk hne=>r3.block k hk (fun h=>hne ?_))⟩;injection h
theorem rY{W:World}{base g n cp X:Nat}{ns:List BA}(x:BA)(hO:W.ownsRow base 9 1 (.slice (some ⟨g,0,none⟩) n cp) n (ns.map Value.string))(hl:ns.length=n)(hX:W.cell? ⟨X,0,none⟩=some (.string x))(hbase:base≤W.heap.size)(hn:n≤100000):∃W' g' cp',(Builtin.append_ #[70,70] 70 #[.slice (some ⟨g,0,none⟩) n cp,.slice (some ⟨X,0,none⟩) 1 1]).run prog W=.ok (.slice (some ⟨g',0,none⟩) (n+1) cp') W'∧Hid (dc W' g' (ns++[x]))∧Hid (W.Since base W'):=by
 obtain⟨i0,hi,hz0,hz1,hz2⟩:=info_parts F3;obtain⟨v',w',r1,r2,r3,r0,r4⟩:=run_append_own_at (P:=prog) (w:=W) base 70 70 9 i0 (.string ByteArray.empty) 1 16 underlying70 hi hz0 hz1 hz2 rfl (by decide) _ n (ns.map Value.string) hO ⟨X,0,none⟩ 1 1 [.string x] rfl (fun j u hu=>by
  match j,hu with
  |0,hu=>cases hu;exact hX) (fun u hu=>by rw[aK.1 hu];rfl) (by simp only[maxLen];omega) (by omega) hbase;obtain⟨g',cp',rfl,hg'⟩:∃g' cp',v'=.slice (some ⟨g',0,none⟩) (n+1) cp'∧g'<w'.heap.size:=by
  rcases r2.2 with⟨_,e2⟩|⟨g',cp,cur,e,_,h3,_⟩;·omega
  ·exact⟨g',cp,e,aV h3⟩
 refine⟨w',g',cp',r1,aa ⟨hg',fun j hj=>?_⟩,aa ((ah base W).grown r3 hbase (fun q hq=>oo hO q hq))⟩;have h1:=r2.cells (g:=g') rfl j (.string (ns++[x])[j]) (by rw[←List.map_singleton (f:=Value.string),←List.map_append,List.getElem?_map,aD hj];rfl);have e1:((⟨g',0,none⟩:Addr).add j)=⟨g',j,none⟩:=by unfold Addr.add;split<;>simp_all
 rw[e1]at h1;exact h1
theorem FP(w:World)(A:Nat→Prop)(lo k n:Nat)(x:BA)(subs:List Tm)(ks:List Nat)(ns:List BA)(G Gl Gn:Option Addr)(c cl cn:Nat)(us:List Value)(H:gQ w A lo k x subs ks ns G Gl Gn us):Calls prog 104 #[.agg #[.int .u8 (k:Nat),.string x,.int .i64 (n:Nat),.slice G subs.length c],.slice Gl ks.length cl,.slice Gn ns.length cn] w fun E w'=>E=dA (cF k x subs ks ns)∧w.Since w.heap.size w':=by
 by_cases h1:k=1;·exact OF w A lo k n x subs ks ns G Gl Gn c cl cn us H h1
 by_cases h2:k=2;·exact OG w A lo k n x subs ks ns G Gl Gn c cl cn us H h2
 by_cases h3:k=3;·exact OK w A lo k n x subs ks ns G Gl Gn c cl cn us H h3
 by_cases h4:k=4;·exact OH w A lo k n x subs ks ns G Gl Gn c cl cn us H h4
 by_cases h5:k=5;·exact OI w A lo k n x subs ks ns G Gl Gn c cl cn us H h5
 by_cases h6:k=6;·exact OX w A lo k n x subs ks ns G Gl Gn c cl cn us H h6
 by_cases h11:k=11;·exact Nw w A lo k n x subs ks ns G Gl Gn c cl cn us H h11
 by_cases h7:k=7;·exact OL w A lo k n x subs ks ns G Gl Gn c cl cn us H h7
 by_cases h8:k=8;·exact OM w A lo k n x subs ks ns G Gl Gn c cl cn us H h8
 by_cases h9:k=9;·exact ON w A lo k n x subs ks ns G Gl Gn c cl cn us H h9
 by_cases h10:k=10;·exact Nq w A lo k n x subs ks ns G Gl Gn c cl cn us H h10
 by_cases h15:k=15;·exact Nr w A lo k n x subs ks ns G Gl Gn c cl cn us H h15
 by_cases h16:k=16;·exact Ns w A lo k n x subs ks ns G Gl Gn c cl cn us H h16
 exact OJ w A lo k n x subs ks ns G Gl Gn c cl cn us H ⟨h1,h2,h3,h4,h5,h6,h11,h7,h8,h9,h10,h15,h16⟩
theorem nX(q:Bool)(x:BA):∀(ts:List Tm)(i:Nat)(ns:List BA)(l:List Nat),je q x ts i ns=.ok l→∀(j:Nat)(t:Tm),ts[j]?=some t→∃a,l[j]?=some a∧fQ t (ll q x (i+j) ns)=.ok a
 |[],i,ns,l,h,j,t,hj=>by cases hj
 |t::ts,i,ns,l,h,j,u,hj=>by
   rw[ij]at h;split at h;·cases h
   ·
    rename_i a ha;split at h;·cases h
    ·rename_i l' h2;injection h with h;subst h;cases j with
      |zero=>injection hj with hj;subst hj;exact⟨a,rfl,ha⟩
      |succ j=>
       obtain⟨b,hb,hc⟩:=nX q x ts (i+1) ns l' h2 j u hj;exact⟨b,hb,by rw[show i+(j+1)=i+1+j by omega];exact hc⟩
theorem F4(x:BA)(n:Nat)(ss:List Tm)(ns:List BA)(a:Nat)(h:fQ (.mk 2 x n ss) ns=.ok a):a=2:=by
 rw[lM]at h;split at h;·cases h
 ·unfold cF at h;rw[if_neg (by decide),if_pos rfl]at h;injection h with h;exact h.symm
theorem F5{k:Nat}{x:BA}{subs:List Tm}{l:List Nat}{ns:List BA}{e:Nat}(h:cF k x subs l ns=.error e):1≤e∧e≤5:=by
 unfold cF at h;split at h;·cases h
 split at h;·cases h
 split at h;·
  split at h;·cases h
  ·injection h with h;omega
 split at h;·cases h
 split at h;·
  split at h;·injection h with h;omega
  ·
   split at h;·cases h
   ·injection h with h;omega
 split at h;·
  split at h;·cases h
  ·injection h with h;omega
 split at h;·
  split at h;·cases h
  ·injection h with h;omega
 split at h;·
  split at h;·cases h
  ·injection h with h;omega
 ·cases h
mutual
theorem jz:∀(t:Tm)(ns:List BA)(e:Nat),fQ t ns=.error e→1≤e∧e≤5
 |.mk k x n subs,ns,e,h=>by
  rw[lM]at h;split at h;·rename_i e2 h2;injection h with h;subst h;exact yc _ _ _ _ _ _ h2
  ·exact F5 h
theorem yc(q:Bool)(x:BA):∀(ts:List Tm)(i:Nat)(ns:List BA)(e:Nat),je q x ts i ns=.error e→1≤e∧e≤5
 |[],i,ns,e,h=>by rw[nS]at h;cases h
 |t::ts,i,ns,e,h=>by
  rw[ij]at h;split at h;·rename_i e2 h2;injection h with h;subst h;exact jz t _ _ h2
  ·
   split at h;·rename_i e2 h2;injection h with h;subst h;exact yc q x ts _ _ _ h2
   ·cases h
end
theorem FQ{w:World}{A:Nat→Prop}{lo k:Nat}{x:BA}{subs:List Tm}{ks:List Nat}{ns:List BA}{G Gl Gn:Option Addr}{us:List Value}(hr:mN w A lo G us)(hs:bn w A lo subs us)(hl:Np w Gl ks)(hn:lp w Gn ns)(hf:ns.length≤1000)(hh:zZ k x subs)(ho:ln subs)(hsl:subs.length≤100000)(hk:je (eO k) x subs 0 ns=.ok ks):gQ w A lo k x subs ks ns G Gl Gn us:=by
 refine⟨hr,hs,hl,hn,nT _ _ _ _ _ _ hk,hf,hh,mR _ _ _ _ _ _ hk,fun i t ht h2=>?_,fun h10 a ha=>?_,fun t ht kk xx nn ss e=>?_,hsl⟩;·
  obtain⟨a,h3,h4⟩:=nX _ _ _ _ _ _ hk i t ht;cases t with
  |mk kk xx nn ss=>have h2:kk=2:=h2;subst h2;rw[h3,F4 _ _ _ _ _ h4];rfl
 ·
  obtain⟨u,v,rfl,hu,hv⟩:=hh.2.2.2.1 h10;have hlen:=nT _ _ _ _ _ _ hk;rw[ln,ln]at ho;obtain⟨j,hj⟩:=List.getElem?_of_mem ha;have hj2:j<2:=by have:=(aQ.1 hj).1;simp at hlen;omega
  match j,hj2,hj with
  |0,_,hj=>obtain⟨b,h3,h4⟩:=nX _ _ _ _ _ _ hk 0 u rfl;rw[hj]at h3;injection h3 with h3;subst h3;exact(ud ho.1 hu h4).2
  |1,_,hj=>obtain⟨b,h3,h4⟩:=nX _ _ _ _ _ _ hk 1 v rfl;rw[hj]at h3;injection h3 with h3;subst h3;exact(ud ho.2.1 hv h4).2
 ·obtain⟨i,hi⟩:=List.getElem_of_mem ht;obtain⟨hi,rfl⟩:=hi;have:=nU subs ho i hi;rw[e,nH]at this;exact this.1.2.2.2.2.2
abbrev E0:Obj:=.cells #[] 9
abbrev X0(x:BA):Obj:=.cells #[.string x] 9
theorem nY{W:World}{b:Nat}{x:BA}(h:W.heap[b]?=some (X0 x)):W.cell? ⟨b,0,none⟩=some (.string x):=by
 unfold World.cell?;show(match W.heap[b]? with
 |some (.cells c _ _)=>_
 |_=>_)=_;rw[h];rfl
theorem OO{W:World}{Gn:Option Addr}{ns:List BA}(x:BA)(cn:Nat)(hns:lp W Gn ns)(hn:ns.length≤1000):∃W1 g1 c1 W2 g2 c2,(Builtin.append_ #[70,70] 70 #[.slice (some ⟨W.heap.size,0,none⟩) 0 0,.slice Gn ns.length cn]).run prog (W.alloc E0).drew=.ok (.slice (some ⟨g1,0,none⟩) ns.length c1) W1∧(Builtin.append_ #[70,70] 70 #[.slice (some ⟨g1,0,none⟩) ns.length c1,.slice (some ⟨W1.heap.size,0,none⟩) 1 1]).run prog (W1.alloc (X0 x))=.ok (.slice (some ⟨g2,0,none⟩) (ns.length+1) c2) W2∧Hid (W.Since W.heap.size W1)∧Hid (dc W2 g2 (ns++[x]))∧Hid (W.Since W.heap.size W2):=by
 have s0:W.Since W.heap.size (W.alloc E0).drew:=((ah _ _).alloc (ai _) _).drew;obtain⟨W1,g1,c1,a1,a2,a3,-⟩:=lP (W:=(W.alloc E0).drew) (E:=W.heap.size) (base:=W.heap.size) cn (aq W E0) (ai _) s0.size (hns.up s0) (by omega);have s1:W.Since W.heap.size W1:=s0.trans a3.o;have s2:W.Since W.heap.size (W1.alloc (X0 x)):=s1.alloc s1.size _;obtain⟨W2,g2,c2,b1,b2,b3⟩:=rY (W:=W1.alloc (X0 x)) (base:=W.heap.size) (X:=W1.heap.size) x (cZ a2.o (fun q _ hq=>aj W1 _ q hq)) rfl (by unfold World.cell?;rw[aq];rfl) s2.size (by omega);exact⟨W1,g1,c1,W2,g2,c2,a1,b1,aa s1,b2,aa (s2.trans b3.o)⟩
theorem LR{P:Prop}(h:P:=by exact⟨W1,g1,c1,W2,g2,c2,a1,b1,aa s1,b2,aa (s1.trans b3.o)⟩):P:=h
theorem OQ{W:World}{Gn:Option Addr}{ns:List BA}(x:BA)(cn:Nat)(hns:lp W Gn ns)(hn:ns.length≤1000):∃W1 g1 c1 W2 g2 c2,(Builtin.append_ #[70,70] 70 #[.slice (some ⟨W.heap.size,0,none⟩) 0 0,.slice Gn ns.length cn]).run prog ((W.alloc E0).alloc (X0 x)).drew=.ok (.slice (some ⟨g1,0,none⟩) ns.length c1) W1∧(Builtin.append_ #[70,70] 70 #[.slice (some ⟨g1,0,none⟩) ns.length c1,.slice (some ⟨W.heap.size+1,0,none⟩) 1 1]).run prog W1=.ok (.slice (some ⟨g2,0,none⟩) (ns.length+1) c2) W2∧Hid (W.Since W.heap.size W1)∧Hid (dc W2 g2 (ns++[x]))∧Hid (W.Since W.heap.size W2):=by
 have s0:W.Since W.heap.size ((W.alloc E0).alloc (X0 x)).drew:=(((ah _ _).alloc (ai _) _).alloc (by simp) _).drew;have hX:((W.alloc E0).alloc (X0 x)).heap[W.heap.size+1]?=some (X0 x):=by have:=aq (W.alloc E0) (X0 x);rw[World.size_alloc]at this;exact this
 obtain⟨W1,g1,c1,a1,a2,a3,a4⟩:=lP (W:=((W.alloc E0).alloc (X0 x)).drew) (E:=W.heap.size) (base:=W.heap.size) cn ((aj (W.alloc E0) (X0 x) W.heap.size (by simp)).trans (aq W E0)) (ai _) s0.size (hns.up s0) (by omega);have s1:W.Since W.heap.size W1:=s0.trans a3.o;obtain⟨W2,g2,c2,b1,b2,b3⟩:=rY (W:=W1) (base:=W.heap.size) (X:=W.heap.size+1) x a2.o rfl ((az (a:=⟨W.heap.size+1,0,none⟩) (a4.o (W.heap.size+1) (aV (W:=((W.alloc E0).alloc (X0 x)).drew) hX) (by omega))).trans (nY hX)) s1.size (by omega);exact LR
theorem OR{W:World}{Gn:Option Addr}{ns:List BA}(x:BA)(cn:Nat)(hns:lp W Gn ns)(hn:ns.length≤1000):∃W1 g1 c1 W2 g2 c2,(Builtin.append_ #[70,70] 70 #[.slice (some ⟨W.heap.size+1,0,none⟩) 0 0,.slice Gn ns.length cn]).run prog ((W.alloc (X0 x)).alloc E0).drew=.ok (.slice (some ⟨g1,0,none⟩) ns.length c1) W1∧(Builtin.append_ #[70,70] 70 #[.slice (some ⟨g1,0,none⟩) ns.length c1,.slice (some ⟨W.heap.size,0,none⟩) 1 1]).run prog W1=.ok (.slice (some ⟨g2,0,none⟩) (ns.length+1) c2) W2∧Hid (W.Since W.heap.size W1)∧Hid (dc W2 g2 (ns++[x]))∧Hid (W.Since W.heap.size W2):=by
 have s0:W.Since W.heap.size ((W.alloc (X0 x)).alloc E0).drew:=(((ah _ _).alloc (ai _) _).alloc (by simp) _).drew;have hE:((W.alloc (X0 x)).alloc E0).heap[W.heap.size+1]?=some E0:=by have:=aq (W.alloc (X0 x)) E0;rw[World.size_alloc]at this;exact this
 have hX:((W.alloc (X0 x)).alloc E0).heap[W.heap.size]?=some (X0 x):=(aj (W.alloc (X0 x)) E0 W.heap.size (by simp)).trans (aq W (X0 x));obtain⟨W1,g1,c1,a1,a2,a3,a4⟩:=lP (W:=((W.alloc (X0 x)).alloc E0).drew) (E:=W.heap.size+1) (base:=W.heap.size) cn hE (Nat.le_succ _) s0.size (hns.up s0) (by omega);have s1:W.Since W.heap.size W1:=s0.trans a3.o;obtain⟨W2,g2,c2,b1,b2,b3⟩:=rY (W:=W1) (base:=W.heap.size) (X:=W.heap.size) x a2.o rfl ((az (a:=⟨W.heap.size,0,none⟩) (a4.o W.heap.size (aV (W:=((W.alloc (X0 x)).alloc E0).drew) hX) (by omega))).trans (nY hX)) s1.size (by omega);exact LR
theorem dw{ts:TypeId}{ops:Array Oper}{o:Oper}{a:Act}{w w':World}{K:Act→World→Prop}{Q:Exit→Act→World→Prop}{E:Prop}(hg:o.guard=none)(s x:Operand)(ho:o.op=.call {callee:=.builtin .append,args:=#[s,x],argTypes:=#[ts,ts]})(ht:o.type=ts){v v' xv:Value}(hr:(Builtin.append_ #[ts,ts] ts #[v,xv]).run prog w=.ok v' w')(hs:a.eval s=v)(hx:a.eval x=xv)(h:K (a.put o.dst v') w'):if Region.wanted o (yielded ops a.tmps)=true then Oper.wp prog o a w K Q else E:=by
 have hw:Region.wanted o (yielded ops a.tmps)=true:=by simp[Region.wanted,hg]
 rw[if_pos hw];exact mf s x ho ht hs hx hr h
def rZ(w:World)(G:Option Addr)(ks:List Nat):Prop:=∀i(h:i<ks.length),∃b,G=some ⟨b,0,none⟩∧b<w.heap.size∧w.cell? ⟨b,i,none⟩=some (.int .u8 (ks[i]:Nat))
theorem rZ.up{w w':World}{G:Option Addr}{ks:List Nat}(h:rZ w G ks)(hs:w.Since w.heap.size w'):rZ w' G ks:=fun i hi=>by obtain⟨b,h1,h2,h3⟩:=h i hi;exact⟨b,h1,aw h2 hs.size,(hs.cell (a:=⟨b,i,none⟩) h2).trans h3⟩
theorem Ix{ks ks':List Nat}{i:Nat}(h:i<ks.length)(h':i<ks'.length):decide (ks.drop i=ks'.drop i)=(decide (ks[i]=ks'[i])&&decide (ks.drop (i+1)=ks'.drop (i+1))):=by
 rw[←Bool.decide_and];apply decide_eq_decide.2;conv=>lhs;rw[aO h,aO h']
 exact⟨fun e=>by injection e with e1 e2;exact⟨e1,e2⟩,fun e=>by rw[e.1,e.2]⟩
theorem yd(ks ks':List Nat)(w:World)(G G':Option Addr)(c c':Nat)(h:rZ w G ks)(h':rZ w G' ks')(hl:ks.length≤100000):Calls prog 98 #[.slice G ks.length c,.slice G' ks'.length c'] w fun E w'=>E=.returned (.bool (decide (ks=ks')))∧w.Since w.heap.size w':=by
 have HK:=aa h;have HK':=aa h';clear h h';by_cases q:ks.length=ks'.length;·
  have f0:((ks.length:Int)!=(ks'.length:Int))=false:=by rw[q];simp
  have HL:=aa q;have HR:Hid (decide (ks=ks')=decide (ks.drop 0=ks'.drop 0)):=aa rfl;generalize decide (ks=ks')=R at HR⊢;clear q;go_enter func98,ntmps98;go_wp2_with fail;go_loopg[13]ks.length(fun gg o13 wr=>∃(i:Nat),gg=ks.length-i∧i≤ks.length∧o13=.int .i64 (i:Nat)∧Hid (R=decide (ks.drop i=ks'.drop i))∧Hid (w.Since w.heap.size wr));case atStart=>exact⟨0,rfl,aI _,rfl,HR,aa (ah _ _)⟩
  case round=>
   obtain⟨i,rfl,hi,rfl,hE,hW⟩:=hrel;by_cases h1:i<ks.length;·
    have h2:i<ks'.length:=by have:=HL.o;omega
    obtain⟨b,rfl,hb,g0⟩:=(HK.o.up hW.o) i h1;obtain⟨b',rfl,hb',g1⟩:=(HK'.o.up hW.o) i h2;have hE2:=aa (hE.o.trans (Ix h1 h2));have i1:(i:Int)<(ks.length:Int):=by omega
    have i2:(i:Int)<(ks'.length:Int):=by omega
    have z5:IntKind.i64.wrap ((i:Int)+1)=(i:Int)+1:=ax _ (by omega);have W2:=aa hW.o.drew;generalize ks[i]=a at g0 hE2;generalize ks'[i]=a' at g1 hE2;by_cases q1:a=a';·
     have f1:((a:Int)!=(a':Int))=false:=bne_eq_false_iff_eq.2 (by omega);have hE3:Hid (R=decide (ks.drop (i+1)=ks'.drop (i+1))):=aa (by rw[hE2.o,aB q1];rfl);clear q1;go_wp2_with fail;go_region;all_goals go_wp2_with fail
     all_goals
      (
       go_roundg(ks.length-(i+1));case measure=>omega
       case rel=>exact⟨i+1,rfl,by omega,by simp,hE3,W2⟩)
    ·
     have f1:((a:Int)!=(a':Int))=true:=bne_iff_ne.2 (by omega);have hE3:Hid (R=false):=aa (by rw[hE2.o,aA q1];rfl);clear q1;go_wp2_with fail;go_region;all_goals go_wp2_with fail
     all_goals
      (go_ret;exact⟨by rw[hE3.o];rfl,W2.o⟩)
   ·
    have i1:¬(i:Int)<(ks.length:Int):=by omega
    have hE3:Hid (R=true):=aa (by
     rw[hE.o,List.drop_of_length_le (by omega),List.drop_of_length_le (by have:=HL.o;omega)];rfl);go_wp2_with fail;go_ret;exact⟨by rw[hE3.o];rfl,hW.o⟩
 ·have f0:((ks.length:Int)!=(ks'.length:Int))=true:=bne_iff_ne.2 (by omega);have HR:Hid (decide (ks=ks')=false):=aa (aA (fun e=>q (by rw[e])));clear q;go_enter func98,ntmps98;go_wp2_with fail;go_ret;exact⟨by rw[HR.o];rfl,ah _ _⟩
theorem LS{P:Prop}(h:P:=by
 clear q;go_enter func96,ntmps96;go_wp2_with fail;go_ret;exact⟨by rw[HR.o];rfl,rfl⟩):P:=h
theorem gh(a k bx:Nat)(w:World)(hb:w.cell? ⟨bx,0,none⟩=some (.int .u8 (k:Nat))):Calls prog 96 #[.int .u8 (a:Nat),.pointer (some ⟨bx,0,none⟩)] w fun E w'=>E=.returned (.bool (decide (a≠k)))∧w'=w:=by
 by_cases q:a=k;·have f1:((a:Int)!=(k:Int))=false:=bne_eq_false_iff_eq.2 (by omega);have HR:Hid (decide (a≠k)=false):=aa (aA (fun h=>h q));exact LS
 ·have f1:((a:Int)!=(k:Int))=true:=bne_iff_ne.2 (by omega);have HR:Hid (decide (a≠k)=true):=aa (aB q);exact LS
theorem Ak(ks:List Nat)(k bx:Nat)(w:World)(G:Option Addr)(c:Nat)(h:rZ w G ks)(hl:ks.length≤100000)(hb:w.cell? ⟨bx,0,none⟩=some (.int .u8 (k:Nat))):Calls prog 170 #[.slice G ks.length c,.func (.func 96) #[] #[.pointer (some ⟨bx,0,none⟩)]] w fun E w'=>(∃j:Int,E=.returned (.int .i64 j)∧(0≤j↔ks.any (fun a=>decide (a≠k))=true))∧w'=w:=by
 have HK:=aa h;have KN:=aa (fun a=>gh a k bx w hb);have HR:Hid (ks.any (fun a=>decide (a≠k))=(ks.drop 0).any (fun a=>decide (a≠k))):=aa rfl;generalize ks.any (fun a=>decide (a≠k))=R at HR⊢;clear h;go_enter func170,ntmps170;go_wp2_with fail;go_loopg[8]ks.length(fun gg o8 wr=>∃(i:Nat),gg=ks.length-i∧i≤ks.length∧o8=.int .i64 (i:Nat)∧Hid (R=(ks.drop i).any (fun a=>decide (a≠k)))∧wr=w);case atStart=>exact⟨0,rfl,aI _,rfl,HR,rfl⟩
 case round=>
  obtain⟨i,rfl,hi,rfl,hE,rfl⟩:=hrel;by_cases h1:i<ks.length;·
   obtain⟨b,rfl,hb',g0⟩:=HK.o i h1;have hE2:Hid (R=(decide (ks[i]≠k)||(ks.drop (i+1)).any (fun a=>decide (a≠k)))):=aa (by rw[hE.o,aO h1,List.any_cons]);have i1:(i:Int)<(ks.length:Int):=by omega
   have z5:IntKind.i64.wrap ((i:Int)+1)=(i:Int)+1:=ax _ (by omega);have K1:=aa (KN.o ks[i]);generalize ks[i]=a at g0 hE2 K1;cases hq:decide (a≠k)with
   |true=>rw[hq]at K1 hE2;have hE3:Hid (R=true):=aa hE2.o;clear hq;go_wp2_with fail;refine K1.o.mono ?_;rintro r0 w2⟨rfl,rfl⟩;go_wp2_with fail;go_ret;exact⟨⟨_,rfl,by rw[hE3.o];simp⟩,rfl⟩
   |false=>
    rw[hq]at K1 hE2;have hE3:Hid (R=(ks.drop (i+1)).any (fun a=>decide (a≠k))):=aa hE2.o;clear hq;go_wp2_with fail;refine K1.o.mono ?_;rintro r0 w2⟨rfl,rfl⟩;go_wp2_with fail;go_roundg(ks.length-(i+1));case measure=>omega
    case rel=>exact⟨i+1,rfl,by omega,by simp,hE3,rfl⟩
  ·
   have i1:¬(i:Int)<(ks.length:Int):=by omega
   have hE3:Hid (R=false):=aa (by rw[hE.o,List.drop_of_length_le (by omega)];rfl);go_wp2_with fail;go_ret;exact⟨⟨_,rfl,by rw[hE3.o];simp⟩,rfl⟩
theorem Iy(ks:List Nat)(k:Nat):(!ks.any (fun a=>decide (a≠k)))=ks.all (fun a=>decide (a=k)):=by
 rw[List.not_any_eq_all_not];congr 1;funext a;by_cases h:a=k;·rw[aB h,aA (fun h2=>h2 h)];rfl
 ·rw[aA h,aB h];rfl
theorem qj(ks:List Nat)(k bx:Nat)(w:World)(G:Option Addr)(c:Nat)(h:rZ w G ks)(hl:ks.length≤100000)(hb:w.cell? ⟨bx,0,none⟩=some (.int .u8 (k:Nat))):Calls prog 95 #[.slice G ks.length c,.func (.func 96) #[] #[.pointer (some ⟨bx,0,none⟩)]] w fun E w'=>E=.returned (.bool (ks.any (fun a=>decide (a≠k))))∧w'=w:=by
 have KI:=aa (Ak ks k bx w G c h hl hb);generalize ks.any (fun a=>decide (a≠k))=R at KI⊢;clear h;go_enter func95,ntmps95;go_wp2_with fail;refine KI.o.mono ?_;rintro r0 w2⟨⟨j,rfl,hj⟩,rfl⟩;cases R with
 |true=>have f1:j≥0:=hj.2 rfl;clear hj;go_wp2_with fail;go_ret;exact⟨rfl,rfl⟩
 |false=>
  have f1:¬j≥0:=fun h=>by have:=hj.1 h;cases this
  have F1:Hid (decide (0≤j)=false):=aa (aA f1);clear hj;go_wp2_with fail;go_ret;exact⟨by rw[←F1.o];rfl,rfl⟩
theorem oU(ks:List Nat)(k tb:Nat)(w:World)(G:Option Addr)(c:Nat)(h:rZ w G ks)(hl:ks.length≤100000)(ht:w.cell? ⟨tb,0,none⟩=some (.slice G ks.length c))(htl:tb<w.heap.size):Calls prog 94 #[.int .u8 (k:Nat),.pointer (some ⟨tb,0,none⟩)] w fun E w'=>E=.returned (.bool (ks.all (fun a=>decide (a=k))))∧w.Since w.heap.size w':=by
 have hs:w.Since w.heap.size (w.alloc (.cells #[.int .u8 (k:Nat)] 104)):=(ah _ _).alloc (ai _) _;have hb:=aq w (.cells #[.int .u8 (k:Nat)] 104);have KC:=aa (qj ks k w.heap.size _ G c (h.up hs) hl (by unfold World.cell?;rw[hb];rfl));have HR:=aa (Iy ks k);have ht2:(w.alloc (.cells #[.int .u8 (k:Nat)] 104)).cell? ⟨tb,0,none⟩=_:=(av w _ ⟨tb,0,none⟩ htl).trans ht;have HS:=aa hs;generalize ks.any (fun a=>decide (a≠k))=R at KC HR;clear h hs hb;rw[←HR.o];go_enter func94,ntmps94;go_wp2_with fail;refine KC.o.mono ?_;rintro r0 w2⟨rfl,rfl⟩;go_wp2_with fail;exact au (v:=.bool (!R)) (by simp[results,results94,go_sem]) rfl ⟨rfl,HS.o⟩
