/- A writer's parts in parentheses: inside walked. -/
import Derived.Test.YthbdlnflmfchjaaGreatDoorWD
import Derived.Shelf.Strconv.Itoa4
set_option linter.unusedVariables false
set_option linter.unusedSimpArgs false
namespace Go.Proofs.YthbdlnflmfchjaaGreatDoor
open Go.Proofs.Tryz
open Go.RowKit Go.Proofs.Fm Go Go.Shelf Go.Sort
set_option maxHeartbeats 6400000
set_option maxRecDepth 1000000
def bH(ks:List Nat):Obj:=.cells (ks.map fun(a:Nat)=>Value.int .u8 a).toArray 36
theorem IJ{w:World}{g:Nat}{ks:List Nat}(hg:w.heap[g]?=some (bH ks))(i:Nat)(h:i<ks.length):w.cell? ⟨g,i,none⟩=some (.int .u8 (ks[i]:Nat)):=by unfold World.cell?;rw[hg];unfold bH;simp[h]
theorem DK(ks:List Nat)(k g c:Nat)(w:World)(hg:w.heap[g]?=some (bH ks))(hl:ks.length≤1000):Calls prog 295 #[.slice (some ⟨g,0,none⟩) ks.length c,.int .u8 (k:Nat)] w fun E w'=>(∃j:Int,E=.returned (.int .i64 j)∧(0≤j↔ks.any (fun a=>decide (k=a))=true))∧w'=w:=by
 have HK:=aa (fun i h=>IJ hg i h);have HR:Hid (ks.any (fun a=>decide (k=a))=(ks.drop 0).any (fun a=>decide (k=a))):=aa rfl;generalize ks.any (fun a=>decide (k=a))=R at HR⊢;clear hg;go_enter func295,ntmps295;go_wp2_with fail;go_loopg[5,8]ks.length(fun gg o5 o8 wr=>∃(i:Nat),gg=ks.length-i∧i≤ks.length∧o8=.int .i64 (i:Nat)∧Hid (R=(ks.drop i).any (fun a=>decide (k=a)))∧wr=w);case atStart=>exact⟨0,rfl,aI _,rfl,HR,rfl⟩
 case round=>
  obtain⟨i,rfl,hi,rfl,hE,rfl⟩:=hrel;by_cases h1:i<ks.length;·
   have g0:=HK.o i h1;have hE2:Hid (R=(decide (k=ks[i])||(ks.drop (i+1)).any (fun a=>decide (k=a)))):=aa (by rw[hE.o,aO h1,List.any_cons]);have i1:(i:Int)<(ks.length:Int):=by omega
   have z5:IntKind.i64.wrap ((i:Int)+1)=(i:Int)+1:=ax _ (by omega);generalize ks[i]=a at g0 hE2;by_cases hq:k=a;·
    have f1:((k:Int)==(a:Int))=true:=ag (by omega);have hE3:Hid (R=true):=aa (by rw[hE2.o,aB hq];rfl);clear hq;go_wp2_with fail;go_ret;exact⟨⟨_,rfl,by rw[hE3.o];simp⟩,rfl⟩
   ·
    have f1:((k:Int)==(a:Int))=false:=ae (by omega);have hE3:Hid (R=(ks.drop (i+1)).any (fun a=>decide (k=a))):=aa (by rw[hE2.o,aA hq];rfl);clear hq;go_wp2_with fail;go_roundg(ks.length-(i+1));case measure=>omega
    case rel=>exact⟨i+1,rfl,by omega,by simp,hE3,rfl⟩
  ·
   have i1:¬(i:Int)<(ks.length:Int):=by omega
   have hE3:Hid (R=false):=aa (by rw[hE.o,List.drop_of_length_le (by omega)];rfl);go_wp2_with fail;go_ret;exact⟨⟨_,rfl,by rw[hE3.o];simp⟩,rfl⟩
theorem DL(ks:List Nat)(k g c:Nat)(w:World)(hg:w.heap[g]?=some (bH ks))(hl:ks.length≤1000):Calls prog 245 #[.slice (some ⟨g,0,none⟩) ks.length c,.int .u8 (k:Nat)] w fun E w'=>E=.returned (.bool (ks.any (fun a=>decide (k=a))))∧w'=w:=by
 have KI:=aa (DK ks k g c w hg hl);generalize ks.any (fun a=>decide (k=a))=R at KI⊢;clear hg;go_enter func245,ntmps245;go_wp2_with fail;refine KI.o.mono ?_;rintro r0 w2⟨⟨j,rfl,hj⟩,rfl⟩;cases R with
 |true=>have f1:j≥0:=hj.2 rfl;clear hj;go_wp2_with fail;go_ret;exact⟨rfl,rfl⟩
 |false=>
  have f1:¬j≥0:=fun h=>by have:=hj.1 h;cases this
  have F1:Hid (decide (0≤j)=false):=aa (aA f1);clear hj;go_wp2_with fail;go_ret;exact⟨by rw[←F1.o];rfl,rfl⟩
theorem O_(k:Nat):[14].any (fun a=>decide (k=a))=gW 1 k:=by unfold gW;simp
theorem Ci(k:Nat):[14,13].any (fun a=>decide (k=a))=gW 2 k:=by unfold gW;simp
theorem lv{w:World}{g T:Nat}{v:Value}(h:w.heap[g]?=some (.cells #[v] T)):w.cell? ⟨g,0,none⟩=some v:=by unfold World.cell?;rw[h];rfl
theorem yl(B b q k c kb kr bb n:Nat)(ks:List Nat)(v1 v2 v3:Value)(X acc:List UInt8)(w0 w:World)(KT:∀acc W,w0.Since w0.heap.size W→B≤W.heap.size→gr 196 B b acc W→Calls prog 105 #[.pointer (some ⟨b,0,none⟩),.agg #[.int .u8 (k:Nat),v1,v2,v3]] W (fg B b acc X W))(hq:ks.any (fun a=>decide (k=a))=gW q k)(hkl:ks.length≤1000)(hn:ks.length=n)(hkb:w.heap[kb]?=some (.cells #[.slice (some ⟨kr,0,none⟩) n c] 324))(hkr:w.heap[kr]?=some (bH ks))(hbb:w.heap[bb]?=some (.cells #[.pointer (some ⟨b,0,none⟩)] 247))(nb:bb≠b)(h0:w0.Since w0.heap.size w)(hw0:w0.heap.size≤B)(hB:B≤w.heap.size)(hA:gr 196 B b acc w):Calls prog 244 #[.agg #[.int .u8 (k:Nat),v1,v2,v3],.pointer (some ⟨kb,0,none⟩),.pointer (some ⟨bb,0,none⟩)] w (fg B b acc (cL q k X) w):=by
 subst hn;obtain⟨W,hW⟩:∃W,w.alloc (.cells #[.int .u8 (k:Nat),v1,v2,v3] 39)=W:=⟨_,rfl⟩;have HS:w.Since w.heap.size W:=by rw[←hW];exact(ah _ _).alloc (ai _) _
 have T1:W.heap[w.heap.size]?=some (.cells #[.int .u8 (k:Nat),v1,v2,v3] 39):=by rw[←hW];exact aq w _
 have A1:=aa (hA.up HS);have K1:=aa (bL.of (b:=b) HS hB);have S1:=aa (bf h0 HS);have B1:Hid (B≤W.heap.size):=aa (ay hB HS.size);have kb1:=(HS.block kb (aE.1 hkb).1).trans hkb;have kr1:=(HS.block kr (aE.1 hkr).1).trans hkr;have bb1:=(HS.block bb (aE.1 hbb).1).trans hbb;have nt:w.heap.size≠b:=Nat.ne_of_gt hA.lt;have KC:=aa (DL ks k kr c W kr1 hkl);rw[hq]at KC;obtain⟨t0,t1,t2,t3,-⟩:=ba T1;have e0:=lv kb1;have e1:=lv bb1;have HT:=aa T1;have HB1:=aa bb1;have KT':=aa KT;have HNb:=aa nb;have HNt:=aa nt;have HW0:=aa hw0;unfold cL;clear hkb hkr hbb hA h0 HS kb1 kr1 hq hB KT T1 bb1 nb nt hw0;generalize gW q k=pz at*;cases pz with
 |false=>have KX:=aa (KT'.o acc W S1.o B1.o A1.o);go_enter func244,ntmps244;go_wp2_with fail;refine KC.o.mono ?_;rintro r0 w2⟨rfl,rfl⟩;go_wp2_with fail;refine KX.o.mono ?_;rintro r0 w3⟨rfl,r,h1,h2,h3⟩;have H:=aa (aF h1 (aF h2 (K1.o.trans h3)));clear h1 h2 h3;go_wp2_with fail;go_end0;exact⟨rfl,r,H.o.1,H.o.2.1,H.o.2.2⟩
 |true=>have KX:=aa (ep B b 1 acc [⟨#[40]⟩] [40] W rfl rfl A1.o B1.o (by decide) (by decide));go_enter func244,ntmps244;go_wp2_with fail;refine KC.o.mono ?_;rintro r0 w2⟨rfl,rfl⟩;go_wp2_with fail;refine KX.o.mono ?_;rintro r0 w3⟨rfl,r1,h1,h2,h3⟩;have R1:=aa h1;have K2:=aa (K1.o.trans h3);have T2:=aa (h3.at HT.o (by decide) HNt.o);have bb2:=aa (h3.at HB1.o (by decide) HNb.o);have S2:=aa (h3.since S1.o HW0.o);have B2:Hid (B≤w3.heap.size):=aa (ay B1.o h3.size);have A2:=aa h2;have KY:=aa (KT'.o r1 w3 S2.o B2.o h2);obtain⟨t0,t1,t2,t3,-⟩:=ba T2.o;have e1:=lv bb2.o;clear h1 h2 h3 KX KC;go_wp2_with fail;refine KY.o.mono ?_;rintro r0 w4⟨rfl,r2,h1,h2,h3⟩;have R2:=aa (R1.o.app h1);have K3:=aa (K2.o.trans h3);have bb3:=aa (h3.at bb2.o (by decide) HNb.o);have e1:=lv bb3.o;have KZ:=aa (ep B b 1 r2 [⟨#[41]⟩] [41] w4 rfl rfl h2 (ay B2.o h3.size) (by decide) (by decide));clear h1 h2 h3 KY;go_wp2_with fail;refine KZ.o.mono ?_;rintro r0 w5⟨rfl,r3,h1,h2,h3⟩;have H:=aa (aF (R2.o.app h1) (aF h2 (K3.o.trans h3)));clear h1 h2 h3;go_wp2_with fail;go_end0;exact⟨rfl,r3,H.o.1,H.o.2.1,H.o.2.2⟩
structure sY(b bb tb:Nat)(cs:List Value)(w:World):Prop where
 b1:w.heap[bb]?=some (.cells #[.pointer (some ⟨b,0,none⟩)] 247)
 t1:w.heap[tb]?=some (.cells cs.toArray 39)
 nb:bb≠b
 nt:tb≠b
theorem sY.up{B b bb tb:Nat}{cs:List Value}{w w':World}(h:sY b bb tb cs w)(k:bL B b w w'):sY b bb tb cs w':=⟨k.at h.b1 (by decide) h.nb,k.at h.t1 (by decide) h.nt,h.nb,h.nt⟩
theorem sY.since{b bb tb:Nat}{cs:List Value}{w w':World}(h:sY b bb tb cs w)(k:w.Since w.heap.size w'):sY b bb tb cs w':=⟨(k.block _ (aV h.b1)).trans h.b1,(k.block _ (aV h.t1)).trans h.t1,h.nb,h.nt⟩
structure iH(w0:World)(B b:Nat)(acc:List UInt8)(w:World):Prop where
 s:w0.Since w0.heap.size w
 lo:w0.heap.size≤B
 hB:B≤w.heap.size
 is:gr 196 B b acc w
theorem iH.up{w0:World}{B b:Nat}{acc:List UInt8}{w w':World}(h:iH w0 B b acc w)(k:w.Since w.heap.size w'):iH w0 B b acc w':=⟨bf h.s k,h.lo,ay h.hB k.size,h.is.up k⟩
theorem iH.next{w0:World}{B b:Nat}{acc r:List UInt8}{w w':World}(h:iH w0 B b acc w)(k:bL B b w w')(hr:gr 196 B b r w'):iH w0 B b r w':=⟨k.since h.s h.lo,h.lo,ay h.hB k.size,hr⟩
theorem bI(w:World)(o:Obj):w.Since w.heap.size (w.alloc o):=(ah _ _).alloc (ai _) _
structure sZ(w0:World)(K:Nat)(G:Option Addr)(subs:List Tz):Prop where
 us:∃us,rH w0 G us∧cY w0 subs us
 wt:dH subs≤K
 len:subs.length≤1000000
theorem sY.five{b bb tb:Nat}{v0 v1 v2 v3:Value}{w:World}(h:sY b bb tb [v0,v1,v2,v3] w):w.cell? ⟨bb,0,none⟩=some (.pointer (some ⟨b,0,none⟩))∧w.cell? ⟨tb,0,none⟩=some v0∧w.cell? ⟨tb,1,none⟩=some v1∧w.cell? ⟨tb,2,none⟩=some v2∧w.cell? ⟨tb,3,none⟩=some v3:=by obtain⟨t0,t1,t2,t3,-⟩:=ba h.t1;exact⟨lv h.b1,t0,t1,t2,t3⟩
theorem oc(B b bb tb K k c:Nat)(op x:BA)(n:Int)(G:Option Addr)(subs:List Tz)(acc:List UInt8)(w0 w:World)(IH:fh B b w0 K)(hT:sZ w0 K G subs)(ho:op.size≤1000000)(hb:sY b bb tb [.int .u8 (k:Nat),.string x,.int .i64 n,.slice G subs.length c] w)(hA:iH w0 B b acc w):Calls prog 186 #[.string op,.pointer (some ⟨bb,0,none⟩),.pointer (some ⟨tb,0,none⟩)] w (fg B b acc (dk 0 subs 0++((32::(an op++[32]))++dk 0 subs 1)) w):=by
 obtain⟨us,hr,hs⟩:=hT.us;have hwt:=hT.wt;have hlen:=hT.len;have KS:=aa (fun(i:Nat)W(hi:i≤10)(h0:w0.Since w0.heap.size W)=>n_ subs us G c k x n i w0 W h0 hr hs hi hlen);have KT:=aa (fun(i:Nat)ds acc W(hd:iZ w0 subs i ds)(h:iH w0 B b acc W)=>oa IH hwt hd acc W h.s h.hB h.is);have KP:=aa (fun acc W(h:iH w0 B b acc W)=>ep B b 3 acc [⟨#[32]⟩,op,⟨#[32]⟩] (32::(an op++[32])) W (by show an ⟨#[32]⟩++(an op++(an ⟨#[32]⟩++[]))=_;rfl) rfl h.is h.hB (by simp) (by
  intro s hs;simp only[List.mem_cons,aS,or_false]at hs;rcases hs with rfl|rfl|rfl;·exact(by decide:1≤10000000)
  ·omega
  ·exact(by decide:1≤10000000)));have HA:=aa (hA.up (w':=w.drew) (ah _ _).drew);have HK:=aa ((bL.refl B b w).drew);have HX:=aa (hb.since (w':=w.drew) (ah _ _).drew);have H0:=aa HX.o.five;have KS0:=aa (KS.o 0 w.drew (by omega) HA.o.s);clear hr hs hwt hlen hT hb hA IH ho;go_enter func186,ntmps186;go_wp2_with fail;go_region_held3(fun w'=>w'.cell? ⟨bb,0,none⟩=some (.pointer (some ⟨b,0,none⟩))∧w'.cell? ⟨tb,0,none⟩=some (.int .u8 (k:Nat))∧w'.cell? ⟨tb,1,none⟩=some (.string x)∧w'.cell? ⟨tb,2,none⟩=some (.int .i64 n)∧w'.cell? ⟨tb,3,none⟩=some (.slice G subs.length c))(first
 |exact H0.o
 |exact H1.o
 |exact H2.o)(first
 |(go_at_call 187;refine(KS0.o).mono ?_;rintro r0 w2⟨ds,rfl,hd,hs⟩;have A2:=aa (HA.o.up hs);have K2:=aa (HK.o.trans (bL.of hs HA.o.hB));have X2:=aa (HX.o.since hs);have H1:=aa X2.o.five;have KT2:=aa (KT.o 0 ds acc w2 hd A2.o);clear hd hs)
 |(go_at_call 105;refine(KT2.o).mono ?_;rintro r0 w3⟨rfl,r1,g1,g2,g3⟩;have R3:=aa g1;have A3:=aa (A2.o.next g3 g2);have K3:=aa (K2.o.trans g3);have X3:=aa (X2.o.up g3);have H2:=aa X3.o.five;clear g1 g2 g3));go_wp2_with fail;have KP3:=aa (KP.o r1 w3 A3.o);refine KP3.o.mono ?_;rintro r0 w4⟨rfl,r2,g1,g2,g3⟩;have R4:=aa (R3.o.app g1);have A4:=aa (A3.o.next g3 g2);have K4:=aa (K3.o.trans g3);have X4:=aa (X3.o.up g3);clear g1 g2 g3 KP3 KT2;go_wp2_with fail;have A5:=aa (A4.o.up (w':=w4.drew) (ah _ _).drew);have K5:=aa K4.o.drew;have X5:=aa (X4.o.since (w':=w4.drew) (ah _ _).drew);have H5:=aa X5.o.five;have KS1:=aa (KS.o 1 w4.drew (by omega) A5.o.s);go_region_held3(fun w'=>w'.cell? ⟨bb,0,none⟩=some (.pointer (some ⟨b,0,none⟩))∧w'.cell? ⟨tb,0,none⟩=some (.int .u8 (k:Nat))∧w'.cell? ⟨tb,1,none⟩=some (.string x)∧w'.cell? ⟨tb,2,none⟩=some (.int .i64 n)∧w'.cell? ⟨tb,3,none⟩=some (.slice G subs.length c))(first
 |exact H5.o
 |exact H6.o
 |exact H7.o)(first
 |(go_at_call 187;refine(KS1.o).mono ?_;rintro r0 w6⟨ds,rfl,hd,hs⟩;have A6:=aa (A5.o.up hs);have K6:=aa (K5.o.trans (bL.of hs A5.o.hB));have X6:=aa (X5.o.since hs);have H6:=aa X6.o.five;have KT6:=aa (KT.o 1 ds r2 w6 hd A6.o);clear hd hs)
 |(go_at_call 105;refine(KT6.o).mono ?_;rintro r0 w7⟨rfl,r3,g1,g2,g3⟩;have H:=aa (aF (R4.o.app g1) (aF g2 (K6.o.trans g3)));have H7:=aa (X6.o.up g3).five;clear g1 g2 g3));go_wp2_with fail;go_end0;exact⟨rfl,r3,by have h:=H.o.1;rw[List.append_assoc]at h;exact h,H.o.2.1,H.o.2.2⟩
theorem sn(b:Nat)(sep:List UInt8)(ts:List Tz):∀k i:Nat,i+k=ts.length→∃y,cO b sep ts=f_ b sep ts i++y
 |0,i,h=>⟨[],by rw[show i=ts.length from h,sk,List.append_nil]⟩
 |k+1,i,h=>by obtain⟨y,e⟩:=sn b sep ts k (i+1) (by omega);rw[pZ b sep (show i<ts.length by omega),List.append_assoc]at e;exact⟨_,e⟩
theorem WR.cut{acc x r:List UInt8}(h:WR acc x r)(hr:1000<r.length)(y:List UInt8):WR acc (x++y) r:=h.app (.full hr y)
theorem L9{P:Prop}(h:P:=by
 obtain⟨us,hr,hs⟩:=hT.us;have hlen:=hT.len;have HG:=aa (fun i h=>fJ hr hs i h);have HN:=aa (fun i(h:i<subs.length)=>pZ q (an sep) h);have HP:=aa (fun i(h:i≤subs.length)=>sn q (an sep) subs (subs.length-i) i (by omega));have HE:=aa (sk q (an sep) subs);have H0:Hid (f_ q (an sep) subs 0=[]):=aa (by unfold f_;rw[List.take_zero,cO]);have HKE:=aa KE;have HA:=aa hA;have HSE:=aa hse;have KP:=aa (fun acc W(h:iH w0 B b acc W)=>ep B b 1 acc [sep] (an sep) W (by show an sep++[]=_;rw[List.append_nil]) rfl h.is h.hB (by simp) (by intro s hs;rw[aK.1 hs];omega));clear hr hs hT KE hA hse;go_enter func192,ntmps192;go_wp2_with fail;go_loopg[8,9,12]subs.length(fun gg o8 o9 o12 wr=>∃(i:Nat)(r:List UInt8),gg=subs.length-i∧i≤subs.length∧o12=.int .i64 (i:Nat)∧Hid (WR acc (f_ q (an sep) subs i) r)∧Hid (iH w0 B b r wr)∧Hid (bL B b w wr));case atStart=>
  exact⟨0,acc,rfl,by omega,rfl,aa (by rw[H0.o];exact .nil _),HA,aa (bL.refl _ _ _)⟩
 case round=>
  obtain⟨i,r,rfl,hi,rfl,hR,hA,hK⟩:=hrel;by_cases h1:i<subs.length;·
   have i1:(i:Int)<(subs.length:Int):=by omega
   have z5:IntKind.i64.wrap ((i:Int)+1)=(i:Int)+1:=ax _ (by omega);obtain⟨a,k1,x1,n1,G1,m1,c1,hG1,ha,ht1,g0,g1,g2,g3⟩:=HG.o i h1;obtain⟨cc,cd⟩:=cI hA.o.s ha (i*4);have d0:=cc _ g0;have d1:=cd _ _ g1;have d2:=cd _ _ g2;have d3:=cd _ _ g3;have HX:=aa (HN.o i h1);have HY:=aa (HP.o (i+1) h1);have KX:=aa (fun acc W(h:iH w0 B b acc W)(hk:bL B b w W)=>HKE.o i h1 k1 (.string x1) (.int .i64 n1) (.slice G1 m1 c1) acc W ht1 h hk);generalize cL q (eK subs[i]) (fz subs[i])=X at*;subst hG1;clear g0 g1 g2 g3 cc cd ht1;have T1:=aa (aq wr (.cells #[.int .u8 (k1:Nat),.string x1,.int .i64 n1,.slice G1 m1 c1] 39));have A1:=aa (hA.o.up (bI wr (.cells #[.int .u8 (k1:Nat),.string x1,.int .i64 n1,.slice G1 m1 c1] 39)));have K1:=aa (hK.o.alloc hA.o.hB (.cells #[.int .u8 (k1:Nat),.string x1,.int .i64 n1,.slice G1 m1 c1] 39));obtain⟨W1,hW1⟩:∃W1,wr.alloc (.cells #[.int .u8 (k1:Nat),.string x1,.int .i64 n1,.slice G1 m1 c1] 39)=W1:=⟨_,rfl⟩;rw[hW1]at T1 A1 K1;have HNt:Hid (wr.heap.size≠b):=aa (Nat.ne_of_gt hA.o.is.lt);obtain⟨t0,t1,t2,t3,-⟩:=ba T1.o;by_cases h2:i=0;·
    have i2:¬(i:Int)>0:=by omega
    have HX2:Hid (f_ q (an sep) subs (i+1)=f_ q (an sep) subs i++X):=aa (by rw[HX.o,if_pos h2];rfl);have KL:=aa (Ny B b _ _ A1.o.is);clear h2;by_cases h3:1000<r.length;·
     have f3:((r.length:Nat):Int)>1000:=by omega
     obtain⟨y,hy⟩:=HY.o;have HZ:Hid (WR acc (cO q (an sep) subs) r):=aa (by rw[hy,HX2.o,List.append_assoc];exact hR.o.cut h3 _);clear hy h3;go_wp2_with fail;refine KL.o.mono ?_;rintro r0 w3⟨rfl,rfl⟩;go_wp2_with fail;go_end0;exact⟨rfl,r,HZ.o,A1.o.is,K1.o⟩
    ·
     have f3:¬((r.length:Nat):Int)>1000:=by omega
     have KX1:=aa (KX.o r _ A1.o K1.o);clear h3;go_wp2_with fail;refine KL.o.mono ?_;rintro r0 w3⟨rfl,rfl⟩;go_wp2_with fail;refine KX1.o.mono ?_;rintro r0 w4⟨rfl,r4,q1,q2,q3⟩;have R4:=aa (hR.o.app q1);have A4:=aa (A1.o.next q3 q2);have K4:=aa (K1.o.trans q3);exact L_
   ·
    have i2:(i:Int)>0:=by omega
    have HX2:Hid (f_ q (an sep) subs (i+1)=(f_ q (an sep) subs i++an sep)++X):=aa (by rw[HX.o,if_neg h2,List.append_assoc]);have KP1:=aa (KP.o r _ A1.o);clear h2;go_wp2_with fail;refine KP1.o.mono ?_;rintro r0 w2⟨rfl,r2,q1,q2,q3⟩;have R2:=aa (hR.o.app q1);have A2:=aa (A1.o.next q3 q2);have K2:=aa (K1.o.trans q3);have T2:=aa (q3.at T1.o (by decide) HNt.o);obtain⟨t0,t1,t2,t3,-⟩:=ba T2.o;have KL:=aa (Ny B b _ _ A2.o.is);clear q1 q2 q3;by_cases h3:1000<r2.length;·
     have f3:((r2.length:Nat):Int)>1000:=by omega
     obtain⟨y,hy⟩:=HY.o;have HZ:Hid (WR acc (cO q (an sep) subs) r2):=aa (by rw[hy,HX2.o,List.append_assoc];exact R2.o.cut h3 _);clear hy h3;go_wp2_with fail;refine KL.o.mono ?_;rintro r0 w3⟨rfl,rfl⟩;go_wp2_with fail;go_end0;exact⟨rfl,r2,HZ.o,A2.o.is,K2.o⟩
    ·
     have f3:¬((r2.length:Nat):Int)>1000:=by omega
     have KX1:=aa (KX.o r2 _ A2.o K2.o);clear h3;go_wp2_with fail;refine KL.o.mono ?_;rintro r0 w3⟨rfl,rfl⟩;go_wp2_with fail;refine KX1.o.mono ?_;rintro r0 w4⟨rfl,r4,q1,q2,q3⟩;have R4:=aa (R2.o.app q1);have A4:=aa (A2.o.next q3 q2);have K4:=aa (K2.o.trans q3);exact L_
  ·
   have i1:¬(i:Int)<(subs.length:Int):=by omega
   have HZ:Hid (WR acc (cO q (an sep) subs) r):=aa (by rw[←HE.o,show subs.length=i by omega];exact hR.o);go_wp2_with fail;go_end0;exact⟨rfl,r,HZ.o,hA.o.is,hK.o⟩):P:=h
theorem L_{P:Prop}(h:P:=by
 clear q1 q2 q3;go_wp2_with fail;go_roundg(subs.length-(i+1));case measure=>omega
 case rel=>
  exact⟨i+1,r4,rfl,by omega,by simp,aa (by rw[HX2.o];exact R4.o),A4,K4⟩):P:=h
theorem DM(B b q c K:Nat)(sep:BA)(G:Option Addr)(subs:List Tz)(acc:List UInt8)(w0 w:World)(hT:sZ w0 K G subs)(hse:sep.size≤1000)(hA:iH w0 B b acc w)(KE:∀(i:Nat)(h:i<subs.length)(k:Nat)(v1 v2 v3:Value)(acc:List UInt8)(W:World),TzAt w0 subs[i] [.int .u8 (k:Nat),v1,v2,v3]→iH w0 B b acc W→bL B b w W→Calls prog 105 #[.pointer (some ⟨b,0,none⟩),.agg #[.int .u8 (k:Nat),v1,v2,v3]] W (fg B b acc (cL q (eK subs[i]) (fz subs[i])) W)):Calls prog 192 #[.pointer (some ⟨b,0,none⟩),.slice G subs.length c,.string sep,.func (.func 105) #[.pointer (some ⟨b,0,none⟩)] #[]] w (fg B b acc (cO q (an sep) subs) w):=by exact L9
theorem Cj(B b q c K:Nat)(kb bb:Nat)(sep:BA)(G:Option Addr)(subs:List Tz)(acc:List UInt8)(w0 w:World)(hT:sZ w0 K G subs)(hse:sep.size≤1000)(hA:iH w0 B b acc w)(KE:∀(i:Nat)(h:i<subs.length)(k:Nat)(v1 v2 v3:Value)(acc:List UInt8)(W:World),TzAt w0 subs[i] [.int .u8 (k:Nat),v1,v2,v3]→iH w0 B b acc W→bL B b w W→Calls prog 244 #[.agg #[.int .u8 (k:Nat),v1,v2,v3],.pointer (some ⟨kb,0,none⟩),.pointer (some ⟨bb,0,none⟩)] W (fg B b acc (cL q (eK subs[i]) (fz subs[i])) W)):Calls prog 192 #[.pointer (some ⟨b,0,none⟩),.slice G subs.length c,.string sep,.func (.func 244) #[] #[.pointer (some ⟨kb,0,none⟩),.pointer (some ⟨bb,0,none⟩)]] w (fg B b acc (cO q (an sep) subs) w):=by exact L9
structure jj(b kb kr bb c:Nat)(ks:List Nat)(w:World):Prop where
 k1:w.heap[kb]?=some (.cells #[.slice (some ⟨kr,0,none⟩) ks.length c] 324)
 r1:w.heap[kr]?=some (bH ks)
 b1:w.heap[bb]?=some (.cells #[.pointer (some ⟨b,0,none⟩)] 247)
 n1:kb≠b
 n2:kr≠b
 n3:bb≠b
theorem jj.up{B b kb kr bb c:Nat}{ks:List Nat}{w w':World}(h:jj b kb kr bb c ks w)(k:bL B b w w'):jj b kb kr bb c ks w':=⟨k.at h.k1 (by decide) h.n1,k.at h.r1 (by decide) h.n2,k.at h.b1 (by decide) h.n3,h.n1,h.n2,h.n3⟩
theorem jj.since{b kb kr bb c:Nat}{ks:List Nat}{w w':World}(h:jj b kb kr bb c ks w)(k:w.Since w.heap.size w'):jj b kb kr bb c ks w':=⟨(k.block _ (aV h.k1)).trans h.k1,(k.block _ (aV h.r1)).trans h.r1,(k.block _ (aV h.b1)).trans h.b1,h.n1,h.n2,h.n3⟩
theorem lT(b kr n:Nat)(ks:List Nat)(w:World)(hn:ks.length=n)(hr:w.heap[kr]?=some (bH ks))(n2:kr≠b)(hb:b<w.heap.size):Calls prog 193 #[.pointer (some ⟨b,0,none⟩),.slice (some ⟨kr,0,none⟩) n n] w fun e w'=>∃kb bb,e=.returned (.func (.func 244) #[] #[.pointer (some ⟨kb,0,none⟩),.pointer (some ⟨bb,0,none⟩)])∧jj b kb kr bb n ks w'∧w.Since w.heap.size w':=by
 subst hn;have H:Hid (jj b (w.heap.size+1) kr w.heap.size ks.length ks ((w.alloc (.cells #[.pointer (some ⟨b,0,none⟩)] 247)).alloc (.cells #[.slice (some ⟨kr,0,none⟩) ks.length ks.length] 324))∧w.Since w.heap.size ((w.alloc (.cells #[.pointer (some ⟨b,0,none⟩)] 247)).alloc (.cells #[.slice (some ⟨kr,0,none⟩) ks.length ks.length] 324))):=aa (by have hs:w.Since w.heap.size ((w.alloc (.cells #[.pointer (some ⟨b,0,none⟩)] 247)).alloc (.cells #[.slice (some ⟨kr,0,none⟩) ks.length ks.length] 324)):=((ah _ _).alloc (ai _) _).alloc (by simp) _;refine⟨⟨?_,(hs.block kr (aV hr)).trans hr,(aj _ _ _ (by simp)).trans (aq w _),by omega,n2,by omega⟩,hs⟩;have:=aq (w.alloc (.cells #[.pointer (some ⟨b,0,none⟩)] 247)) (.cells #[.slice (some ⟨kr,0,none⟩) ks.length ks.length] 324);rw[World.size_alloc]at this;exact this);clear hr n2 hb;go_enter func193,ntmps193;go_wp2_with fail;go_ret;exact⟨_,_,rfl,H.o.1,H.o.2⟩
theorem lU(B b q k c kb kr bb:Nat)(ks:List Nat)(v1 v2 v3:Value)(X acc:List UInt8)(w0 w:World)(KT:∀acc W,w0.Since w0.heap.size W→B≤W.heap.size→gr 196 B b acc W→Calls prog 105 #[.pointer (some ⟨b,0,none⟩),.agg #[.int .u8 (k:Nat),v1,v2,v3]] W (fg B b acc X W))(hq:ks.any (fun a=>decide (k=a))=gW q k)(hkl:ks.length≤1000)(hI:jj b kb kr bb c ks w)(hA:iH w0 B b acc w):Calls prog 244 #[.agg #[.int .u8 (k:Nat),v1,v2,v3],.pointer (some ⟨kb,0,none⟩),.pointer (some ⟨bb,0,none⟩)] w (fg B b acc (cL q k X) w):=yl B b q k c kb kr bb ks.length ks v1 v2 v3 X acc w0 w KT hq hkl rfl hI.k1 hI.r1 hI.b1 hI.n3 hA.s hA.lo hA.hB hA.is
theorem DN(q:Nat):gW q 0=false:=by unfold gW;simp
theorem mX{B b q n c kb kr bb K:Nat}{ks:List Nat}{w0:World}{subs:List Tz}{ds:List Value}(IH:fh B b w0 K)(hK:dH subs≤K)(hd:iZ w0 subs n ds)(hq:∀k,ks.any (fun a=>decide (k=a))=gW q k)(hkl:ks.length≤1000)(acc:List UInt8)(w:World)(hI:jj b kb kr bb c ks w)(hA:iH w0 B b acc w):Calls prog 244 #[.agg ds.toArray,.pointer (some ⟨kb,0,none⟩),.pointer (some ⟨bb,0,none⟩)] w (fg B b acc (dk q subs n) w):=by
 rcases hd with⟨h1,h2⟩|⟨h1,rfl⟩;·
  obtain⟨k,x,nn,G,m,c',rfl⟩:=qh h2;have hkz:eK subs[n]=k:=by
   cases hs:subs[n]with
   |mk k0 x0 n0 s0=>rw[hs]at h2;unfold TzAt at h2;obtain⟨_,_,_,e,_⟩:=h2;injection e with e _;injection e with _ e;show k0=k;omega
  rw[sl q subs n h1,hkz];exact lU B b q k c kb kr bb ks _ _ _ (fz subs[n]) acc w0 w (fun acc W a1 a2 a3=>IH _ _ acc W (ay (gp subs n h1) hK) h2 a1 a2 a3) (hq k) hkl hI hA
 ·rw[oW q subs n h1];have h:=lU B b q 0 c kb kr bb ks (.string ⟨#[]⟩) (.int .i64 0) (.slice none 0 0) [] acc w0 w (fun acc W _ a2 a3=>uu B b acc W a2 a3) (hq 0) hkl hI hA;unfold cL at h;rw[DN]at h;exact h
theorem cz(B b:Nat)(acc:List UInt8)(v0 v1 v2 v3:Value)(w0 w:World)(hA:iH w0 B b acc w):∃W,(w.alloc (.cells #[.pointer (some ⟨b,0,none⟩)] 247)).alloc (.cells #[v0,v1,v2,v3] 39)=W∧Hid (iH w0 B b acc W)∧Hid (sY b w.heap.size (w.heap.size+1) [v0,v1,v2,v3] W)∧Hid (bL B b w W):=by have hs:w.Since w.heap.size ((w.alloc (.cells #[.pointer (some ⟨b,0,none⟩)] 247)).alloc (.cells #[v0,v1,v2,v3] 39)):=((ah _ _).alloc (ai _) _).alloc (by simp) _;have hb:=hA.is.lt;refine⟨_,rfl,aa (hA.up hs),aa ⟨(aj _ _ _ (by simp)).trans (aq w _),?_,by omega,by omega⟩,aa (.of hs hA.hB)⟩;have:=aq (w.alloc (.cells #[.pointer (some ⟨b,0,none⟩)] 247)) (.cells #[v0,v1,v2,v3] 39);rw[World.size_alloc]at this;exact this
def Tryz.laysM173_ren:Go.Shelf.Ren:=⟨fun|173=>189|246=>241|283=>288|284=>289|285=>290|286=>291|129=>317|317=>322|318=>323|319=>324|320=>325|337=>346|338=>347|n=>n,fun|2=>2|3=>3|9=>9|4=>4|171=>357|0=>0|53=>291|37=>190|5=>5|173=>360|212=>383|51=>310|20=>20|213=>384|46=>262|232=>426|233=>427|n=>n,fun|17=>5|18=>6|19=>7|n=>n⟩
theorem Tryz.laysM173 : Go.Proofs.LaysM.n173 prog Tryz.laysM173_ren := {
  mixed := by kernel_rfl
  f129 := func317.trans (congrArg some (by kernel_rfl))
  f173 := func189.trans (congrArg some (by kernel_rfl))
  f246 := func241.trans (congrArg some (by kernel_rfl))
  f283 := func288.trans (congrArg some (by kernel_rfl))
  f284 := func289.trans (congrArg some (by kernel_rfl))
  f285 := func290.trans (congrArg some (by kernel_rfl))
  f286 := func291.trans (congrArg some (by kernel_rfl))
  f317 := func322.trans (congrArg some (by kernel_rfl))
  f318 := func323.trans (congrArg some (by kernel_rfl))
  f319 := func324.trans (congrArg some (by kernel_rfl))
  f320 := func325.trans (congrArg some (by kernel_rfl))
  f337 := func346.trans (congrArg some (by kernel_rfl))
  f338 := func347.trans (congrArg some (by kernel_rfl))
  t0 := underlying0
  a0 := isAgg0
  z0 := sizeOf0
  v0 := zeroValue0
  t2 := underlying2
  a2 := isAgg2
  z2 := sizeOf2
  v2 := zeroValue2
  t3 := underlying3
  a3 := isAgg3
  z3 := sizeOf3
  v3 := zeroValue3
  t4 := underlying4
  a4 := isAgg4
  z4 := sizeOf4
  v4 := zeroValue4
  t5 := underlying5
  a5 := isAgg5
  z5 := sizeOf5
  v5 := zeroValue5
  t9 := underlying9
  a9 := isAgg9
  z9 := sizeOf9
  v9 := zeroValue9
  t20 := underlying20
  a20 := isAgg20
  z20 := sizeOf20
  v20 := zeroValue20
  t37 := underlying190
  a37 := isAgg190
  z37 := sizeOf190
  v37 := zeroValue190
  t46 := underlying262
  a46 := isAgg262
  z46 := sizeOf262
  v46 := zeroValue262
  t51 := underlying310
  a51 := isAgg310
  z51 := sizeOf310
  v51 := zeroValue310
  t53 := underlying291
  a53 := isAgg291
  z53 := sizeOf291
  v53 := zeroValue291
  t171 := underlying357
  a171 := isAgg357
  z171 := sizeOf357
  v171 := zeroValue357
  t173 := underlying360
  a173 := isAgg360
  z173 := sizeOf360
  v173 := zeroValue360
  t212 := underlying383
  a212 := isAgg383
  z212 := sizeOf383
  v212 := zeroValue383
  t213 := underlying384
  a213 := isAgg384
  z213 := sizeOf384
  t232 := underlying426
  a232 := isAgg426
  z232 := sizeOf426
  v232 := zeroValue426
  t233 := underlying427
  a233 := isAgg427
  z233 := sizeOf427
  v233 := zeroValue427
  g17 := by kernel_rfl
  g18 := by kernel_rfl
  g19 := by kernel_rfl
  i0 := by kernel_rfl
  i2 := by kernel_rfl
  i3 := by kernel_rfl
  i4 := by kernel_rfl
  i5 := by kernel_rfl
  i9 := by kernel_rfl
  i20 := by kernel_rfl
  i37 := by kernel_rfl
  i46 := by kernel_rfl
  i51 := by kernel_rfl
  i53 := by kernel_rfl
  i171 := by kernel_rfl
  i173 := by kernel_rfl
  i212 := by kernel_rfl
  i232 := by kernel_rfl
  i233 := by kernel_rfl
  m17 := by kernel_rfl
  m18 := by kernel_rfl
  m19 := by kernel_rfl }
def PowV(w:World):Prop:=Lib.TabIs prog w "internal/strconv.uint64pow10" .u64 Lib.pow10Tab
theorem PowV.up{w w':World}(h:PowV w)(hs:w.Since w.heap.size w'):PowV w':=by
 unfold PowV Lib.TabIs World.var? at h⊢;rw[Tryz.laysM173.m17]at h⊢;rw[Option.bind_some]at h⊢;have hg:(w.heap[Tryz.laysM173_ren.g 17]?)≠none:=fun e=>by rw[e]at h;cases h
 rw[hs.block _ (by
  rcases Nat.lt_or_ge (Tryz.laysM173_ren.g 17) w.heap.size with h1|h1;·exact h1
  ·exact absurd (aT h1) hg)];exact h
theorem Av(w:World)(k:Nat)(os:Array Obj):w.Since w.heap.size (Sort.grow (w.drewN k) os):=by
 refine⟨rfl,rfl,rfl,?_,fun q hq=>?_⟩;·show w.heap.size≤(w.heap++os).size;simp
 ·show(w.heap++os)[q]?=w.heap[q]?;rw[Array.getElem?_append_left hq]
theorem Gg(n:Int)(hn:n64 n)(w:World)(hP:PowV w):Calls prog 189 #[.int .i64 n,.int .i64 10] w fun e w'=>e=.returned (.string (ofBytes (Lib.itoa n)))∧w.Since w.heap.size w':=by refine(Any.strconv_FormatInt_10 Tryz.laysM173 n hn.1 hn.2 w hP).mono ?_;rintro e w'⟨h1,k,os,rfl⟩;exact⟨h1,Av w k os⟩
