/- The parser of formulas: read walked whole. -/
import Derived.Test.YthbdlnflmfchjaaGreatDoorZJ
namespace Go.Proofs.YthbdlnflmfchjaaGreatDoor
open Go.Proofs.Tryz
open Go.RowKit Go.Proofs.Fm Go.Proofs.MapEnt
set_option maxHeartbeats 3200000
set_option maxRecDepth 1000000
structure Rd(w W:World):Prop where
 z:W.heap[w.heap.size]?=some cH
 c1:W.cell? ⟨w.heap.size+1,0,none⟩=some (.int .i64 0)
 c2:W.cell? ⟨w.heap.size+1+1,0,none⟩=some (.bool false)
 f1:W.frozen? ⟨w.heap.size+1,0,none⟩=false
 f2:W.frozen? ⟨w.heap.size+1+1,0,none⟩=false
 lt:w.heap.size+1+1<W.heap.size
 since:w.Since w.heap.size W
theorem Rd.adv{w W W':World}(h:Rd w W)(ha:bE W (w.heap.size+1+1+1) W'):Rd w W':=by
 have hlt:=h.lt;have hb:∀k,k<w.heap.size+1+1+1→W'.heap[k]?=W.heap[k]?:=fun k hk=>ha.block k (by omega) (by omega);exact⟨(hb _ (by omega)).trans h.z,(az (hb _ (by dsimp only;omega))).trans h.c1,(az (hb _ (by dsimp only;omega))).trans h.c2,(aL (hb _ (by dsimp only;omega))).trans h.f1,(aL (hb _ (by dsimp only;omega))).trans h.f2,aw hlt ha.size,⟨ha.os.trans h.since.os,ha.tape.trans h.since.tape,ha.output.trans h.since.output,ay h.since.size ha.size,fun k hk=>(hb k (by omega)).trans (h.since.block k hk)⟩⟩
theorem rN(w:World)(G:Option Addr)(c e:Nat)(l:List Wd)(hw:vj w G l)(hG:∀g,G=some ⟨g,0,none⟩→g<w.heap.size):Rd w ((((w.alloc cH).alloc (.cells #[.int .i64 0] 3)).alloc (.cells #[.bool false] 4)).alloc (.cells #[.slice G l.length c,.int .i64 0,.int .i64 (e:Nat)] 177))∧PsAt ((((w.alloc cH).alloc (.cells #[.int .i64 0] 3)).alloc (.cells #[.bool false] 4)).alloc (.cells #[.slice G l.length c,.int .i64 0,.int .i64 (e:Nat)] 177)) (w.heap.size+1+1+1) G c l e 0:=by
 have e1:(w.alloc cH).heap.size=w.heap.size+1:=by simp
 have e2:((w.alloc cH).alloc (.cells #[.int .i64 0] 3)).heap.size=w.heap.size+1+1:=by simp
 have e3:(((w.alloc cH).alloc (.cells #[.int .i64 0] 3)).alloc (.cells #[.bool false] 4)).heap.size=w.heap.size+1+1+1:=by simp
 have s1:w.Since w.heap.size (w.alloc cH):=(ah _ _).alloc (ai _) _;have s2:=s1.alloc s1.size (.cells #[.int .i64 0] 3);have s3:=s2.alloc s2.size (.cells #[.bool false] 4);have s4:=s3.alloc s3.size (.cells #[.slice G l.length c,.int .i64 0,.int .i64 (e:Nat)] 177);have b0:(w.alloc cH).heap[w.heap.size]?=some cH:=aq w _;have b1:=aq (w.alloc cH) (.cells #[.int .i64 0] 3);rw[e1]at b1;have b2:=aq ((w.alloc cH).alloc (.cells #[.int .i64 0] 3)) (.cells #[.bool false] 4);rw[e2]at b2;have b3:=aq (((w.alloc cH).alloc (.cells #[.int .i64 0] 3)).alloc (.cells #[.bool false] 4)) (.cells #[.slice G l.length c,.int .i64 0,.int .i64 (e:Nat)] 177);rw[e3]at b3;have b0':=((aj _ (.cells #[.slice G l.length c,.int .i64 0,.int .i64 (e:Nat)] 177) _ (by rw[e3];omega)).trans ((aj _ (.cells #[.bool false] 4) _ (by rw[e2];omega)).trans ((aj _ (.cells #[.int .i64 0] 3) _ (by rw[e1];omega)).trans b0)));have b1':=((aj _ (.cells #[.slice G l.length c,.int .i64 0,.int .i64 (e:Nat)] 177) _ (by rw[e3];omega)).trans ((aj _ (.cells #[.bool false] 4) _ (by rw[e2];omega)).trans b1));have b2':=((aj _ (.cells #[.slice G l.length c,.int .i64 0,.int .i64 (e:Nat)] 177) _ (by rw[e3];omega)).trans b2);have e4:((((w.alloc cH).alloc (.cells #[.int .i64 0] 3)).alloc (.cells #[.bool false] 4)).alloc (.cells #[.slice G l.length c,.int .i64 0,.int .i64 (e:Nat)] 177)).heap.size=w.heap.size+1+1+1+1:=by simp
 refine⟨⟨b0',?_,?_,?_,?_,by rw[e4];omega,s4⟩,⟨by rw[e4];omega,?_,?_,?_,?_,hw.same s4.size (fun g hg hlt=>s4.block g hlt),fun g hg=>by have:=hG g hg;omega⟩⟩;·unfold World.cell?;rw[b1'];rfl
 ·unfold World.cell?;rw[b2'];rfl
 ·unfold World.frozen?;rw[b1'];simp
 ·unfold World.frozen?;rw[b2'];simp
 ·unfold World.cell?;rw[b3];rfl
 ·unfold World.cell?;rw[b3];rfl
 ·unfold World.cell?;rw[b3];rfl
 ·unfold World.frozen?;rw[b3];simp
theorem ig{W:World}{B:Nat}{a b c d:Value}(hb:W.heap[B]?=some (.cells #[a,b,c,d] 39))(v0 v1 v2 v3:Value):∃V,(((W.setCell ⟨B,0,none⟩ v0).setCell ⟨B,1,none⟩ v1).setCell ⟨B,2,none⟩ v2).setCell ⟨B,3,none⟩ v3=V∧V.heap[B]?=some (.cells #[v0,v1,v2,v3] 39)∧(∀k,k≠B→V.heap[k]?=W.heap[k]?)∧V.heap.size=W.heap.size∧V.os=W.os∧V.tape=W.tape∧V.output=W.output:=⟨_,rfl,iE hb v0 v1 v2 v3,fun _ hk=>eL hk v0 v1 v2 v3,fZ W B v0 v1 v2 v3,rfl,rfl,rfl⟩
theorem tY{W:World}{B:Nat}{a:Value}(hb:W.cell? ⟨B,0,none⟩=some a)(v:Value):∃V,W.setCell ⟨B,0,none⟩ v=V∧V.cell? ⟨B,0,none⟩=some v∧(∀k,k≠B→V.heap[k]?=W.heap[k]?)∧V.heap.size=W.heap.size∧V.os=W.os∧V.tape=W.tape∧V.output=W.output:=⟨_,rfl,World.cell?_setCell_same _ _ _ hb,fun _ hk=>ak _ _ _ _ hk,by simp,rfl,rfl,rfl⟩
theorem Nk{w W:World}(h:Rd w W){pb lo:Nat}{t:Tm}{v0 v1 v2 v3:Value}(ht:aY W (bQ pb) lo t [v0,v1,v2,v3])(hlo:w.heap.size+1+1<lo):∃V,((((((((((W.setCell ⟨w.heap.size,0,none⟩ v0).setCell ⟨w.heap.size,1,none⟩ v1).setCell ⟨w.heap.size,2,none⟩ v2).setCell ⟨w.heap.size,3,none⟩ v3).setCell ⟨w.heap.size,0,none⟩ v0).setCell ⟨w.heap.size,1,none⟩ v1).setCell ⟨w.heap.size,2,none⟩ v2).setCell ⟨w.heap.size,3,none⟩ v3).setCell ⟨w.heap.size+1,0,none⟩ (.int .i64 0)).setCell ⟨w.heap.size+1+1,0,none⟩ (.bool true))=V∧V.cell? ⟨w.heap.size,0,none⟩=some v0∧V.cell? ⟨w.heap.size,1,none⟩=some v1∧V.cell? ⟨w.heap.size,2,none⟩=some v2∧V.cell? ⟨w.heap.size,3,none⟩=some v3∧V.cell? ⟨w.heap.size+1,0,none⟩=some (.int .i64 0)∧V.cell? ⟨w.heap.size+1+1,0,none⟩=some (.bool true)∧Hid (aY V (bQ pb) lo t [v0,v1,v2,v3])∧Hid (w.Since w.heap.size V):=by
 have hz:=h.z;rw[bA]at hz;obtain⟨V1,e1,a1,b1,s1,o1,t1,u1⟩:=ig hz v0 v1 v2 v3;rw[e1];obtain⟨V2,e2,a2,b2,s2,o2,t2,u2⟩:=ig a1 v0 v1 v2 v3;rw[e2];have d5:=(az (a:=⟨w.heap.size+1,0,none⟩) ((b2 (w.heap.size+1) (by omega)).trans (b1 (w.heap.size+1) (by omega)))).trans h.c1;have d6:=(az (a:=⟨w.heap.size+1+1,0,none⟩) ((b2 (w.heap.size+1+1) (by omega)).trans (b1 (w.heap.size+1+1) (by omega)))).trans h.c2;obtain⟨V3,e3,a3,b3,s3,o3,t3,u3⟩:=tY d5 (.int .i64 0);rw[e3];obtain⟨V4,e4,a4,b4,s4,o4,t4,u4⟩:=tY ((az (a:=⟨w.heap.size+1+1,0,none⟩) (b3 (w.heap.size+1+1) (by omega))).trans d6) (.bool true);rw[e4];obtain⟨c0,c1,c2,c3,-⟩:=ba a2;have hb0:V4.heap[w.heap.size]?=V2.heap[w.heap.size]?:=(b4 _ (by omega)).trans (b3 _ (by omega));have hall:∀k,k≠w.heap.size→k≠w.heap.size+1→k≠w.heap.size+1+1→V4.heap[k]?=W.heap[k]?:=fun k h1 h2 h3=>((b4 k h3).trans (b3 k h2)).trans ((b2 k h1).trans (b1 k h1));refine⟨V4,rfl,(az hb0).trans c0,(az hb0).trans c1,(az hb0).trans c2,(az hb0).trans c3,(az (b4 _ (by dsimp only;omega))).trans a3,a4,aa ?_,aa ?_⟩;·exact aY.up ⟨by omega,fun k hk _ _=>hall k (by omega) (by omega) (by omega)⟩ _ _ ht
 ·exact⟨by rw[o4,o3,o2,o1];exact h.since.os,by rw[t4,t3,t2,t1];exact h.since.tape,by rw[u4,u3,u2,u1];exact h.since.output,by have:=h.since.size;omega,fun k hk=>(hall k (by omega) (by omega) (by omega)).trans (h.since.block k hk)⟩
theorem Ih(w:World)(G:Option Addr)(c e f m:Nat)(l:List Wd)(t:Tm)(hw:vj w G l)(hG:∀g,G=some ⟨g,0,none⟩→g<w.heap.size)(hl:WsOk l)(hr:parse lang l e f (.several true) 0=some (.ok [t] m))(hm:¬m<l.length):Calls prog 39 #[.slice G l.length c,.int .i64 (e:Nat)] w fun E w'=>∃v,E=.returned (.tuple #[v,.int .i64 0,.bool true])∧TermOf w' (fun _=>False) w.heap.size [t] v∧w.Since w.heap.size w':=by
 have hmf:∀(fn:Fn)(first cap:Array Value)(w:World),(Instr.makeFunc fn first cap).run prog w=.ok (.func fn first cap) w:=fun _ _ _ _=>rfl;obtain⟨R0,P0⟩:=rN w G c e l hw hG;have KF:=aa (kZ _ c e G l hl _ 0 f _ P0 hr);have R0:=aa R0;have hmI:¬(m:Int)<(l.length:Int):=by omega
 rw[bA]at KF R0;clear hw hG hl hr P0 hm;go_enter_defers func39,ntmps39;go_wp2_with fail;refine KF.o.mono ?_;rintro r0 w5⟨v,rfl,⟨t',cs,ht1,rfl,ht⟩,ha,hp⟩;injection ht1 with ht1;subst ht1;obtain⟨k1,x1,n1,G1,m1,c1,rfl⟩:=dy ht;have R5:=R0.o.adv ha;have HT:=aa ht;obtain⟨q0,q1,q2,q3,q4⟩:=cv R5.z;have g1:=R5.c1;have g2:=R5.c2;have g3:=R5.f1;have g4:=R5.f2;have g5:=hp.c1;have R5:=aa R5;obtain⟨V,hV,y0,y1,y2,y3,y4,y5,Y6,Y7⟩:=Nk R5.o ht (by simp);clear ha hp ht KF;go_wp2_with fail;refine leaves_cons (f:=90) (args:=#[.pointer (some ⟨w.heap.size,0,none⟩),.pointer (some ⟨w.heap.size+1,0,none⟩),.pointer (some ⟨w.heap.size+1+1,0,none⟩)]) (by simp) (by simp[go_sem]) ?_;refine(zB w.heap.size V).mono ?_;rintro e u' w''⟨rfl,rfl,rfl⟩;simp[Leaves,settle,results,results39,go_sem,y0,y1,y2,y3,y4,y5];exact⟨⟨t,_,rfl,rfl,aY.mono (by simp;omega) _ _ (aY.turn (fun _ _ _ h=>h.elim) _ _ Y6.o)⟩,Y7.o⟩
def OC(w w':World)(p:Nat):Prop:=w'.cell? ⟨w.heap.size,0,none⟩=some (.int .u8 0)∧w'.cell? ⟨w.heap.size,1,none⟩=some (.string ⟨#[]⟩)∧w'.cell? ⟨w.heap.size,2,none⟩=some (.int .i64 0)∧w'.cell? ⟨w.heap.size,3,none⟩=some (.slice none 0 0)∧w'.cell? ⟨w.heap.size+1,0,none⟩=some (.int .i64 (p:Nat))∧w'.cell? ⟨w.heap.size+1+1,0,none⟩=some (.bool false)∧w.Since w.heap.size w'
theorem xO{w W:World}(p:Nat){a0 a1 a2 a3:Value}(h0:W.heap[w.heap.size]?=some (.cells #[a0,a1,a2,a3] 39))(c1:W.cell? ⟨w.heap.size+1,0,none⟩=some (.int .i64 0))(c2:W.cell? ⟨w.heap.size+1+1,0,none⟩=some (.bool false))(f1:W.frozen? ⟨w.heap.size+1,0,none⟩=false)(f2:W.frozen? ⟨w.heap.size+1+1,0,none⟩=false)(hlt:w.heap.size+1+1<W.heap.size)(hsi:w.Since w.heap.size W):CallsD prog 90 #[.pointer (some ⟨w.heap.size,0,none⟩),.pointer (some ⟨w.heap.size+1,0,none⟩),.pointer (some ⟨w.heap.size+1+1,0,none⟩)] (.panicking [{v:=.iface 173 (.agg #[.int .i64 (p:Nat)]),recovered:=false}]) W fun e u' w'=>e=.returned (.tuple #[])∧u'=.panicking [{v:=.iface 173 (.agg #[.int .i64 (p:Nat)]),recovered:=true}]∧OC w w' p:=by refine(Dj w.heap.size p W _ _ _ _ h0 c1 c2 f1 f2 hlt).mono fun e u' w' hh=>?_;obtain⟨h1,h2,h3,h4,h5,h6⟩:=hh;obtain⟨c0,c1,c2,c3,-⟩:=cv h3;exact⟨h1,h2,c0,c1,c2,c3,h4,h5,⟨h6.os.trans hsi.os,h6.tape.trans hsi.tape,h6.output.trans hsi.output,ay hsi.size h6.size,fun k hk=>(h6.block k hk).trans (hsi.block k hk)⟩⟩
theorem Kn{P:Prop}(h:P:=by simp[Leaves,settle,results,results39,go_sem,y0,y1,y2,y3,y4,y5];exact hs):P:=h
theorem Fh(w:World)(G:Option Addr)(c e f p:Nat)(l:List Wd)(hw:vj w G l)(hG:∀g,G=some ⟨g,0,none⟩→g<w.heap.size)(hl:WsOk l)(hr:parse lang l e f (.several true) 0=some (.bad p)):Calls prog 39 #[.slice G l.length c,.int .i64 (e:Nat)] w fun E w'=>E=.returned (.tuple #[.agg #[.int .u8 0,.string ⟨#[]⟩,.int .i64 0,.slice none 0 0],.int .i64 (p:Nat),.bool false])∧w.Since w.heap.size w':=by have hmf:∀(fn:Fn)(first cap:Array Value)(w:World),(Instr.makeFunc fn first cap).run prog w=.ok (.func fn first cap) w:=fun _ _ _ _=>rfl;obtain⟨R0,P0⟩:=rN w G c e l hw hG;have KF:Hid (Calls prog 91 #[.pointer (some ⟨w.heap.size+1+1+1,0,none⟩)] ((((w.alloc cH).alloc (.cells #[.int .i64 0] 3)).alloc (.cells #[.bool false] 4)).alloc (.cells #[.slice G l.length c,.int .i64 0,.int .i64 (e:Nat)] 177)) fun E w'=>E=.panicked [{v:=.iface 173 (.agg #[.int .i64 (p:Nat)]),recovered:=false}]∧bE ((((w.alloc cH).alloc (.cells #[.int .i64 0] 3)).alloc (.cells #[.bool false] 4)).alloc (.cells #[.slice G l.length c,.int .i64 0,.int .i64 (e:Nat)] 177)) (w.heap.size+1+1+1) w'):=aa (kZ _ c e G l hl _ 0 f _ P0 hr);have R0:=aa R0;rw[bA]at KF R0;clear hw hG hl hr P0;go_enter_defers func39,ntmps39;go_wp2_with fail;refine KF.o.mono ?_;rintro r0 w5⟨rfl,ha⟩;have R5:=aa (R0.o.adv ha);clear ha KF;go_wp2_with fail;refine leaves_cons (f:=90) (args:=#[.pointer (some ⟨w.heap.size,0,none⟩),.pointer (some ⟨w.heap.size+1,0,none⟩),.pointer (some ⟨w.heap.size+1+1,0,none⟩)]) (by simp) (by simp[go_sem]) ?_;have hz:=R5.o.z;rw[bA]at hz;refine(xO p hz R5.o.c1 R5.o.c2 R5.o.f1 R5.o.f2 R5.o.lt R5.o.since).mono ?_;rintro e u' w''⟨rfl,rfl,y0,y1,y2,y3,y4,y5,hs⟩;exact Kn
theorem Dk(w:World)(G:Option Addr)(c e f m:Nat)(l:List Wd)(t:Tm)(hw:vj w G l)(hG:∀g,G=some ⟨g,0,none⟩→g<w.heap.size)(hl:WsOk l)(hr:parse lang l e f (.several true) 0=some (.ok [t] m))(hm:m<l.length):Calls prog 39 #[.slice G l.length c,.int .i64 (e:Nat)] w fun E w'=>E=.returned (.tuple #[.agg #[.int .u8 0,.string ⟨#[]⟩,.int .i64 0,.slice none 0 0],.int .i64 (aW l e m:Nat),.bool false])∧w.Since w.heap.size w':=by
 have hmf:∀(fn:Fn)(first cap:Array Value)(w:World),(Instr.makeFunc fn first cap).run prog w=.ok (.func fn first cap) w:=fun _ _ _ _=>rfl;obtain⟨R0,P0⟩:=rN w G c e l hw hG;have KF:=aa (kZ _ c e G l hl _ 0 f _ P0 hr);have R0:=aa R0;have hmI:(m:Int)<(l.length:Int):=by omega
 have HW:=aa hw;have HG:=aa hG;rw[bA]at KF R0;clear hw hG hl hr P0 hm;go_enter_defers func39,ntmps39;go_wp2_with fail;refine KF.o.mono ?_;rintro r0 w5⟨v,rfl,⟨t',cs,ht1,rfl,ht⟩,ha,hp⟩;injection ht1 with ht1;subst ht1;obtain⟨k1,x1,n1,G1,m1,c1,rfl⟩:=dy ht;have R5:=R0.o.adv ha;obtain⟨q0,q1,q2,q3,q4⟩:=cv R5.z;have g5:=hp.c1;have hz:=R5.z;rw[bA]at hz;obtain⟨V,hV,a1,b1,s1,o1,t1,u1⟩:=ig hz (.int .u8 (k1:Nat)) (.string x1) (.int .i64 (n1:Nat)) (.slice G1 m1 c1);have hblk:∀k,k≠w.heap.size→V.heap[k]?=w5.heap[k]?:=b1;have hpV:PsAt V (w.heap.size+1+1+1) G c l e m:=by
  have hc:∀j,V.cell? ⟨w.heap.size+1+1+1,j,none⟩=w5.cell? ⟨w.heap.size+1+1+1,j,none⟩:=fun j=>az (b1 _ (by dsimp only;omega));exact⟨by rw[s1];exact hp.lt,(hc _).trans hp.c0,(hc _).trans hp.c1,(hc _).trans hp.c2,(aL (b1 _ (by dsimp only;omega))).trans hp.fz,hp.at_.same (by omega) (fun g hg _=>b1 g (by have:=HG.o g hg;omega)),hp.apart⟩
 have HK:=aa (Fi hpV);have g6:=hpV.c1;have A1:=aa a1;have B1:=aa b1;have S1:=aa (aF s1 (aF o1 (aF t1 u1)));have R5:=aa R5;clear ha hp ht KF hz a1 b1 s1 o1 t1 u1 hblk hpV;go_wp2_with fail;refine HK.o.mono ?_;rintro r0 w6⟨rfl,ha⟩;have A6:=aa ha;clear ha;go_wp2_with fail;have hb6:∀k,k<w.heap.size+1+1+1→w6.heap[k]?=V.heap[k]?:=fun k hk=>A6.o.block k (by have:=R5.o.lt;have:=S1.o.1;omega) (by omega);have hb5:∀k,k<w.heap.size+1+1+1→k≠w.heap.size→w6.heap[k]?=w5.heap[k]?:=fun k hk hne=>(hb6 k hk).trans (B1.o k hne);have hlt:w.heap.size+1+1<w6.heap.size:=aw R5.o.lt (by have:=A6.o.size;have:=S1.o.1;omega);have hsi:w.Since w.heap.size w6:=⟨A6.o.os.trans (S1.o.2.1.trans R5.o.since.os),A6.o.tape.trans (S1.o.2.2.1.trans R5.o.since.tape),A6.o.output.trans (S1.o.2.2.2.trans R5.o.since.output),by omega,fun k hk=>(hb5 k (by omega) (by omega)).trans (R5.o.since.block k hk)⟩;refine leaves_cons (f:=90) (args:=#[.pointer (some ⟨w.heap.size,0,none⟩),.pointer (some ⟨w.heap.size+1,0,none⟩),.pointer (some ⟨w.heap.size+1+1,0,none⟩)]) (by simp) (by simp[go_sem]) ?_;refine(xO (aW l e m) ((hb6 _ (by omega)).trans A1.o) ((az (hb5 _ (by dsimp only;omega) (by dsimp only;omega))).trans R5.o.c1) ((az (hb5 _ (by dsimp only;omega) (by dsimp only;omega))).trans R5.o.c2) ((aL (hb5 _ (by dsimp only;omega) (by dsimp only;omega))).trans R5.o.f1) ((aL (hb5 _ (by dsimp only;omega) (by dsimp only;omega))).trans R5.o.f2) hlt hsi).mono ?_;rintro e u' w''⟨rfl,rfl,y0,y1,y2,y3,y4,y5,hs⟩;exact Kn
def rK(x:Wd):Nat:=match x.kind with|.letters=>108|.sign=>111|.number=>110|.string=>115
def bZ(l:List Wd)(n:Nat):Nat:=match l[n]? with|some x=>rK x|none=>101
def cJ(l:List Wd)(n:Nat):BA:=match l[n]? with|some x=>x.text|none=>ByteArray.empty
def JD(w:World)(g:Nat)(l:List Wd)(e:Nat):Prop:=g<w.heap.size∧∀i,i≤l.length→w.cell? ⟨g,i*3,none⟩=some (.int .u8 (bZ l i:Nat))∧w.cell? ⟨g,i*3+1,none⟩=some (.string (cJ l i))∧w.cell? ⟨g,i*3+2,none⟩=some (.int .i64 (aW l e i:Nat))
structure Rs(w:World)(pb g c:Nat)(l:List Wd)(e n:Nat)(b:Int):Prop where
 lt:pb<w.heap.size
 c0:w.cell? ⟨pb,0,none⟩=some (.slice (some ⟨g,0,none⟩) (l.length+1) c)
 c1:w.cell? ⟨pb,1,none⟩=some (.int .i64 (n:Nat))
 c2:w.cell? ⟨pb,2,none⟩=some (.int .i64 b)
 fz:∀j,w.frozen? ⟨pb,j,none⟩=false
 ws:JD w g l e
 ne:g≠pb
 le:n≤l.length
section
variable{w w':World}{pb g c e n:Nat}{l:List Wd}{b:Int}
theorem JD.same{w w':World}{g:Nat}{l:List Wd}{e:Nat}(h:JD w g l e)(hs:w.heap.size≤w'.heap.size)(hb:w'.heap[g]?=w.heap[g]?):JD w' g l e:=⟨aw h.1 hs,fun i hi=>by have hc:∀j,w'.cell? ⟨g,j,none⟩=w.cell? ⟨g,j,none⟩:=fun j=>az hb;obtain⟨h0,h1,h2⟩:=h.2 i hi;exact⟨(hc _).trans h0,(hc _).trans h1,(hc _).trans h2⟩⟩
theorem Rs.up(h:Rs w pb g c l e n b)(hs:w.Since w.heap.size w'):Rs w' pb g c l e n b:=⟨aw h.lt hs.size,(hs.cell (a:=⟨pb,0,none⟩) h.lt).trans h.c0,(hs.cell (a:=⟨pb,1,none⟩) h.lt).trans h.c1,(hs.cell (a:=⟨pb,2,none⟩) h.lt).trans h.c2,fun j=>(hs.frozen (a:=⟨pb,j,none⟩) h.lt).trans (h.fz j),h.ws.same hs.size (hs.block g h.ws.1),h.ne,h.le⟩
theorem Rs.set(h:Rs w pb g c l e n b)(m:Nat)(hm:m≤l.length):Rs (w.setCell ⟨pb,1,none⟩ (.int .i64 (m:Nat))) pb g c l e m b:=⟨by simp;exact h.lt,(aM _ _ _ _ (by simp)).trans h.c0,World.cell?_setCell_same _ _ _ h.c1,(aM _ _ _ _ (by simp)).trans h.c2,fun j=>by simp[h.fz],h.ws.same (by simp) (ak _ _ _ _ h.ne),h.ne,hm⟩
theorem Rs.bad(h:Rs w pb g c l e n b)(b':Int):Rs (w.setCell ⟨pb,2,none⟩ (.int .i64 b')) pb g c l e n b':=⟨by simp;exact h.lt,(aM _ _ _ _ (by simp)).trans h.c0,(aM _ _ _ _ (by simp)).trans h.c1,World.cell?_setCell_same _ _ _ h.c2,fun j=>by simp[h.fz],h.ws.same (by simp) (ak _ _ _ _ h.ne),h.ne,h.le⟩
end
theorem eI(w:World)(pb g c e n:Nat)(l:List Wd)(b:Int)(h:Rs w pb g c l e n b):Calls prog 44 #[.pointer (some ⟨pb,0,none⟩)] w fun E w'=>E=.returned (.agg #[.int .u8 (bZ l n:Nat),.string (cJ l n),.int .i64 (aW l e n:Nat)])∧w.Since w.heap.size w':=by
 have hpb:=h.lt;have k0:∀o,(w.alloc o).cell? ⟨pb,0,none⟩=_:=fun o=>(av w o _ hpb).trans h.c0;have k1:∀o,(w.alloc o).cell? ⟨pb,1,none⟩=_:=fun o=>(av w o _ hpb).trans h.c1;obtain⟨a0,a1,a2⟩:=h.ws.2 n h.le;have b0:∀o,(w.alloc o).cell? ⟨g,n*3,none⟩=_:=fun o=>(av w o _ h.ws.1).trans a0;have b1:∀o,(w.alloc o).cell? ⟨g,n*3+1,none⟩=_:=fun o=>(av w o _ h.ws.1).trans a1;have b2:∀o,(w.alloc o).cell? ⟨g,n*3+2,none⟩=_:=fun o=>(av w o _ h.ws.1).trans a2;have hlt:(n:Int)<((l.length:Nat):Int)+1:=by have:=h.le;omega
 have hlt2:n<l.length+1:=by have:=h.le;omega
 generalize bZ l n=K at*;generalize cJ l n=T at*;generalize aW l e n=p at*;clear h a0 a1 a2;go_enter func44,ntmps44;go_wp2_with fail;go_region;go_wp2_with fail;exact au (v:=.agg #[.int .u8 (K:Nat),.string T,.int .i64 (p:Nat)]) (by simp[results,results44,go_sem]) rfl ⟨rfl,((ah w.heap.size w).alloc (ai _) _).drew⟩
theorem vk(k p:Nat)(t:BA)(W:World):(Instr.field 115 (.agg #[.int .u8 (k:Nat),.string t,.int .i64 (p:Nat)]) 0).run prog W=.ok (.int .u8 (k:Nat)) W∧(Instr.field 115 (.agg #[.int .u8 (k:Nat),.string t,.int .i64 (p:Nat)]) 1).run prog W=.ok (.string t) W∧(Instr.field 115 (.agg #[.int .u8 (k:Nat),.string t,.int .i64 (p:Nat)]) 2).run prog W=.ok (.int .i64 (p:Nat)) W:=⟨by kernel_rfl,by kernel_rfl,by kernel_rfl⟩
def zT:Value:=.agg #[.int .u8 0,.string ⟨#[]⟩,.int .i64 0,.slice none 0 0]
theorem Ii{w:World}{B:Nat}(v0 v1 v2 v3:Value)(pb:Nat)(hB:w.heap.size≤B)(W:World)(ha:bE w pb W):bE w pb ((((W.setCell ⟨B,0,none⟩ v0).setCell ⟨B,1,none⟩ v1).setCell ⟨B,2,none⟩ v2).setCell ⟨B,3,none⟩ v3):=(((ha.new hB 0 v0).new hB 1 v1).new hB 2 v2).new hB 3 v3
theorem Rs.via{w w' wm:World}{pb g c e n m:Nat}{l:List Wd}{b b':Int}(h:Rs w pb g c l e n b)(ha:bE w pb w')(hm:Rs wm pb g c l e m b')(hb:w'.heap[pb]?=wm.heap[pb]?):Rs w' pb g c l e m b':=⟨aw h.lt ha.size,(az hb).trans hm.c0,(az hb).trans hm.c1,(az hb).trans hm.c2,fun j=>(aL hb).trans (hm.fz j),h.ws.same ha.size (ha.block g h.ws.1 h.ne),h.ne,hm.le⟩
theorem Qb{w W:World}{pb g c e n m B:Nat}{l:List Wd}{b b':Int}(h:Rs w pb g c l e n b)(hA:bE w pb W)(hW:Rs W pb g c l e m b')(hB:w.heap.size≤B)(v0 v1 v2 v3:Value):bE w pb ((((W.setCell ⟨B,0,none⟩ v0).setCell ⟨B,1,none⟩ v1).setCell ⟨B,2,none⟩ v2).setCell ⟨B,3,none⟩ v3)∧Rs ((((W.setCell ⟨B,0,none⟩ v0).setCell ⟨B,1,none⟩ v1).setCell ⟨B,2,none⟩ v2).setCell ⟨B,3,none⟩ v3) pb g c l e m b':=by have hlt:=h.lt;have ha:=Ii v0 v1 v2 v3 pb hB W hA;exact⟨ha,h.via ha hW (eL (by omega) _ _ _ _)⟩
theorem eC(w:World)(pb g c e n:Nat)(l:List Wd)(h:Rs w pb g c l e n (-1)):Calls prog 45 #[.pointer (some ⟨pb,0,none⟩)] w fun E w'=>E=.returned zT∧bE w pb w'∧Rs w' pb g c l e n (aW l e n:Nat):=by
 unfold zT;have hs0:w.Since w.heap.size (w.alloc cH):=(ah _ _).alloc (ai _) _;have H1:=h.up hs0;have KN:=aa (eI _ pb g c e n l _ H1);have hz:Hid ((w.alloc cH).heap[w.heap.size]?=some cH):=aa (aq w _);have hf:=fun W=>vk (bZ l n) (aW l e n) (cJ l n) W;have hf2:=fun W=>(hf W).2.2;have k2:=H1.c2;have H0:=aa h;have H1:=aa H1;have S0:=aa hs0;rw[bA]at KN H1 k2 hz S0;generalize hK:bZ l n=K at*;generalize hT:cJ l n=T at*;generalize hP:aW l e n=p at*;clear h hf hs0 hK hT hP;go_enter func45,ntmps45;go_wp2_with fail;refine KN.o.mono ?_;rintro r0 w1⟨rfl,hs⟩;have H2:=H1.o.up hs;have hpb:pb<w.heap.size:=H0.o.lt;have H3:=aa (H2.bad (p:Nat));have g2:=H2.c2;have g3:=H2.fz 2;have A3:=aa ((((bE.refl w pb).since S0.o).since hs).trans (bE.set w1 pb 2 (.int .i64 (p:Nat))));have hz1:(w1.setCell ⟨pb,2,none⟩ (.int .i64 (p:Nat))).heap[w.heap.size]?=some cH:=by
  rw[ak _ _ _ _ (by dsimp only;omega),bA];exact(hs.block _ (by simp)).trans hz.o
 obtain⟨q0,q1,q2,q3,q4⟩:=cv hz1;clear hs KN H2;go_wp2_with fail;have hf:=Qb H0.o A3.o H3.o (ai w.heap.size) (.int .u8 0) (.string ⟨#[]⟩) (.int .i64 0) (.slice none 0 0);exact au (v:=.agg #[.int .u8 0,.string ⟨#[]⟩,.int .i64 0,.slice none 0 0]) (by simp[results,results45,go_sem,q0,q1,q2,q3]) rfl ⟨rfl,hf⟩
theorem Dl(w:World)(pb g c e n:Nat)(l:List Wd)(b:Nat)(h:Rs w pb g c l e n (b:Nat)):Calls prog 45 #[.pointer (some ⟨pb,0,none⟩)] w fun E w'=>E=.returned zT∧bE w pb w'∧Rs w' pb g c l e n (b:Nat):=by
 unfold zT;have hs0:w.Since w.heap.size (w.alloc cH):=(ah _ _).alloc (ai _) _;have H1:=h.up hs0;have k2:=H1.c2;have H1:=aa H1;have A1:=aa ((bE.refl w pb).since hs0);have hb:¬((b:Nat):Int)<0:=by omega
 rw[bA]at H1 k2 A1;clear h hs0;go_enter func45,ntmps45;go_wp2_with fail;exact au (v:=.agg #[.int .u8 0,.string ⟨#[]⟩,.int .i64 0,.slice none 0 0]) (by simp[results,results45,go_sem]) rfl ⟨rfl,A1.o,H1.o⟩
theorem bJ(T s:BA):(T.toList==s.toList)=decide (T=s):=by
 rw[Lib.toList_data,Lib.toList_data];by_cases h:T=s;·subst h;rw[aB rfl];exact beq_self_eq_true _
 ·rw[aA h];exact ae (fun e=>h (Go.WideShapes.bytes_inj e))
theorem zD{l:List Wd}(n:Nat)(s:BA):isW l n s=((decide (bZ l n=111)||decide (bZ l n=108))&&decide (cJ l n=s)):=by
 unfold isW bZ cJ;cases l[n]? with
 |none=>rfl
 |some x=>obtain⟨k,t,p⟩:=x;cases k<;>rfl
theorem Ko{P:Prop}(h:P:=by
 go_enter func103,ntmps103;go_wp2_with fail;refine KN.o.mono ?_;rintro r0 w1⟨rfl,hs⟩;have S1:=aa hs;clear hs KN;go_wp2_with fail;go_ret;exact⟨by rw[hR.o,←bJ];rfl,S1.o.alloc S1.o.size _⟩):P:=h
theorem Bw(w:World)(pb g c e n:Nat)(l:List Wd)(b:Int)(h:Rs w pb g c l e n b)(s:BA):Calls prog 103 #[.pointer (some ⟨pb,0,none⟩),.string s] w fun E w'=>E=.returned (.bool (isW l n s))∧w.Since w.heap.size w':=by
 have KN:=aa (eI _ pb g c e n l _ h);have HW:=aa (zD (l:=l) n s);generalize isW l n s=R at*;generalize hK:bZ l n=K at*;generalize hT:cJ l n=T at*;generalize hP:aW l e n=p at*;clear h hK hT hP;by_cases h1:K=111;·
  have hR:Hid (R=decide (T=s)):=aa (by rw[HW.o,aB h1];simp);subst h1;exact Ko
 ·
  have i1:¬(K:Int)=111:=by omega
  by_cases h2:K=108;·
   have hR:Hid (R=decide (T=s)):=aa (by rw[HW.o,aB h2];simp);subst h2;exact Ko
  ·
   have i2:¬(K:Int)=108:=by omega
   have hR:Hid (R=false):=aa (by rw[HW.o,aA h1,aA h2];rfl);clear h1 h2;go_enter func103,ntmps103;go_wp2_with fail;refine KN.o.mono ?_;rintro r0 w1⟨rfl,hs⟩;have S1:=aa hs;clear hs KN;go_wp2_with fail;go_ret;exact⟨by rw[hR.o];rfl,S1.o.alloc S1.o.size _⟩
theorem zE(w:World)(pb g c e n:Nat)(l:List Wd)(b:Nat)(h:Rs w pb g c l e n (b:Nat))(s:BA):Calls prog 178 #[.pointer (some ⟨pb,0,none⟩),.string s] w fun E w'=>E=.returned (.tuple #[])∧w'=w:=by
 have k2:=h.c2;have hb:(0:Int)≤((b:Nat):Int):=by omega
 clear h;go_enter func178,ntmps178;go_wp2_with fail;refine au (results_none rfl _ _ _) rfl ?_;exact⟨rfl,rfl⟩
theorem Ij(w:World)(pb g c e n:Nat)(l:List Wd)(h:Rs w pb g c l e n (-1))(hl:l.length≤100000)(s:BA)(hy:isW l n s=true):Calls prog 178 #[.pointer (some ⟨pb,0,none⟩),.string s] w fun E w'=>E=.returned (.tuple #[])∧bE w pb w'∧Rs w' pb g c l e (n+1) (-1):=by have KI:=aa (Bw w pb g c e n l _ h s);rw[hy]at KI;have k2:=h.c2;have hn:=du hy;have H0:=aa h;have z1:IntKind.i64.wrap ((n:Int)+1)=(n:Int)+1:=ax _ (by omega);clear h hy;go_enter func178,ntmps178;go_wp2_with fail;refine KI.o.mono ?_;rintro r0 w1⟨rfl,hs⟩;have H1:=H0.o.up hs;have g1:=H1.c1;have g2:=H1.fz 1;have S1:=aa hs;have H2:=aa (H1.set (n+1) (by omega));clear hs KI H1;go_wp2_with fail;go_end0;exact⟨rfl,((bE.refl w pb).since S1.o).trans (bE.set w1 pb 1 _),H2.o⟩
theorem Ik(w:World)(pb g c e n:Nat)(l:List Wd)(h:Rs w pb g c l e n (-1))(s:BA)(hy:isW l n s=false):Calls prog 178 #[.pointer (some ⟨pb,0,none⟩),.string s] w fun E w'=>E=.returned (.tuple #[])∧bE w pb w'∧Rs w' pb g c l e n (aW l e n:Nat):=by have KI:=aa (Bw w pb g c e n l _ h s);rw[hy]at KI;have k2:=h.c2;have KF:=aa (fun W(hW:Rs W pb g c l e n (-1))=>eC W pb g c e n l hW);have H0:=aa h;unfold zT at KF;clear h hy;go_enter func178,ntmps178;go_wp2_with fail;refine KI.o.mono ?_;rintro r0 w1⟨rfl,hs⟩;have H1:=aa (H0.o.up hs);have S1:=aa hs;clear hs KI;go_wp2_with fail;refine(KF.o _ H1.o).mono ?_;rintro r0 w2⟨rfl,ha,hr⟩;have A2:=aa ha;have R2:=aa hr;clear ha hr;go_wp2_with fail;refine au (results_none rfl _ _ _) rfl ?_;exact⟨rfl,((bE.refl w pb).since S1.o).trans A2.o,R2.o⟩
theorem Oj(ss:List BA)(x:BA)(b c:Nat)(w:World)(hn:ss.length≤1000)(hc:∀j(h:j<ss.length),w.cell? ⟨b,j,none⟩=some (.string ss[j])):Calls prog 158 #[.slice (some ⟨b,0,none⟩) ss.length c,.string x] w fun e w'=>e=.returned (.bool (ss.any fun s=>decide (s=x)))∧w'=w:=by
 have HC:=aa hc;have HS:=aa (fun(r:Bool)(h:r=ss.any fun s=>decide (s=x))=>h);clear hc;go_enter func158,ntmps158;go_wp2_with fail;go_loopg[5]ss.length(fun g o wr=>∃n:Nat,g=ss.length-n∧n≤ss.length∧o=.int .i64 (n:Nat)∧Hid ((ss.drop n).any (fun s=>decide (s=x))=ss.any fun s=>decide (s=x))∧wr=w);case atStart=>exact⟨0,by omega,by omega,rfl,aa rfl,rfl⟩
 case round=>
  obtain⟨n,rfl,hn2,rfl,hR,rfl⟩:=hrel;by_cases h1:n<ss.length;·
   have hd:Hid ((ss.drop n).any (fun s=>decide (s=x))=(decide (ss[n]=x)||(ss.drop (n+1)).any fun s=>decide (s=x))):=aa (by rw[aO h1,List.any_cons]);have k0:=HC.o n h1;have i1:(n:Int)<(ss.length:Int):=by omega
   have z1:IntKind.i64.wrap ((n:Int)+1)=(n:Int)+1:=ax _ (by omega);have hb:=bJ ss[n] x;by_cases h2:ss[n]=x;·
    have hr:Hid ((ss.any fun s=>decide (s=x))=true):=aa (by rw[←hR.o,hd.o,aB h2];rfl);rw[aB h2]at hb;generalize ss[n]=y at*;clear h2;go_wp2_with fail;go_ret;exact⟨by rw[hr.o];rfl,rfl⟩
   ·
    have hE:Hid ((ss.drop (n+1)).any (fun s=>decide (s=x))=ss.any fun s=>decide (s=x)):=aa (by rw[←hR.o,hd.o,aA h2];rfl);rw[aA h2]at hb;generalize ss[n]=y at*;clear h2;go_wp2_with fail;go_roundg(ss.length-(n+1));case measure=>omega
    case rel=>exact⟨n+1,rfl,by omega,by simp,hE,rfl⟩
  ·
   have hr:Hid ((ss.any fun s=>decide (s=x))=false):=aa (by rw[←hR.o,List.drop_eq_nil_of_le (by omega)];rfl);have i1:¬(n:Int)<(ss.length:Int):=by omega
   go_wp2_with fail;go_ret;exact⟨by rw[hr.o];rfl,rfl⟩
def gH:List BA:=[⟨#[104,97,115]⟩,⟨#[115,116,97,114,116,115]⟩,⟨#[101,110,100,115]⟩,⟨#[104,111,108,100,115]⟩]
def fV:List BA:=[⟨#[119,111,114,100,115]⟩,⟨#[116,97,103,115]⟩,⟨#[104,111,108,101,115]⟩,⟨#[110,117,109,98,101,114,115]⟩,⟨#[116,101,120,116]⟩,⟨#[108,101,110,103,116,104]⟩,⟨#[115,105,122,101]⟩,⟨#[102,105,114,115,116]⟩,⟨#[108,97,115,116]⟩,⟨#[99,111,117,110,116]⟩,⟨#[108,111,119,101,114]⟩]
def fK:List BA:=[⟨#[61,61]⟩,⟨#[33,61]⟩,⟨#[60]⟩,⟨#[60,61]⟩,⟨#[62]⟩,⟨#[62,61]⟩,⟨#[105,110]⟩,⟨#[126]⟩]
def dp:List BA:=[⟨#[61,61]⟩,⟨#[33,61]⟩,⟨#[60,61]⟩,⟨#[62,61]⟩,⟨#[60]⟩,⟨#[62]⟩,⟨#[126]⟩,⟨#[40]⟩,⟨#[41]⟩,⟨#[44]⟩,⟨#[58]⟩,⟨#[43]⟩,⟨#[45]⟩,⟨#[42]⟩]
theorem vl(w:World):Calls prog 180 #[] w fun r w'=>r=.returned (.slice (some ⟨w.heap.size,0,none⟩) 4 4)∧w'=w.alloc (.cells (gH.map Value.string).toArray 9):=by go_enter func180,ntmps180;go_wp2_with fail;go_ret;exact⟨rfl,rfl⟩
theorem rO(w:World):Calls prog 238 #[] w fun r w'=>r=.returned (.slice (some ⟨w.heap.size,0,none⟩) 11 11)∧w'=w.alloc (.cells (fV.map Value.string).toArray 9):=by go_enter func238,ntmps238;go_wp2_with fail;go_ret;exact⟨rfl,rfl⟩
theorem vm(w:World):Calls prog 182 #[] w fun r w'=>r=.returned (.slice (some ⟨w.heap.size,0,none⟩) 8 8)∧w'=w.alloc (.cells (fK.map Value.string).toArray 9):=by go_enter func182,ntmps182;go_wp2_with fail;go_ret;exact⟨rfl,rfl⟩
theorem M6(w:World):Calls prog 177 #[] w fun r w'=>r=.returned (.slice (some ⟨w.heap.size,0,none⟩) 14 14)∧w'=w.alloc (.cells (dp.map Value.string).toArray 9):=by go_enter func177,ntmps177;go_wp2_with fail;go_ret;exact⟨rfl,rfl⟩
def kA(ss:List BA)(x:BA):Bool:=ss.any fun s=>decide (s=x)
theorem nL{ss:List BA}{x:BA}:kA ss x=true↔x∈ss:=by
 unfold kA;rw[List.any_eq_true];exact⟨fun⟨y,hy,e⟩=>by rw[←of_decide_eq_true e];exact hy,fun h=>⟨x,h,aB rfl⟩⟩
theorem oO(s:BA):lang.test s=kA gH s:=by
 rw[Bool.eq_iff_iff];unfold lang;dsimp only;constructor;·
  intro h;cases hx:dx s with
  |none=>rw[hx]at h;cases h
  |some x=>rw[hx]at h;obtain⟨h1,rfl⟩:=eM hx;exact(by decide+kernel:∀x∈fW,decide (x.gives=5)=true→kA gH x.name=true) x h1 h
 ·intro h;exact(by decide+kernel:∀s∈gH,(match dx s with|some x=>decide (x.gives=5)|none=>false)=true) s (nL.1 h)
theorem tZ(s:BA):lang.func s=kA fV s:=by
 rw[Bool.eq_iff_iff];unfold lang;dsimp only;constructor;·
  intro h;cases hx:dx s with
  |none=>rw[hx]at h;cases h
  |some x=>rw[hx]at h;obtain⟨h1,rfl⟩:=eM hx;exact(by decide+kernel:∀x∈fW,(!decide (x.gives=5))=true→kA fV x.name=true) x h1 h
 ·intro h;exact(by decide+kernel:∀s∈fV,(match dx s with|some x=>!decide (x.gives=5)|none=>false)=true) s (nL.1 h)
theorem Dm(s:BA):lang.kept s=(kA k_ s||(kA gH s||kA fV s)):=by
 rw[←oO,←tZ];unfold lang;dsimp only;cases hx:dx s with
 |none=>simp[kA]
 |some x=>dsimp only;cases decide (x.gives=5)<;>simp
theorem Dn(s:BA):lang.oper s=kA fK s:=by rw[Bool.eq_iff_iff];have h:lang.oper s=kA eU s:=rfl;rw[h];exact⟨fun h=>(by decide+kernel:∀s∈eU,kA fK s=true) s (nL.1 h),fun h=>(by decide+kernel:∀s∈fK,kA eU s=true) s (nL.1 h)⟩
theorem vn(ss:List BA)(x:BA)(b:Nat)(W:World)(hb:b=W.heap.size)(hn:ss.length≤1000):Calls prog 158 #[.slice (some ⟨b,0,none⟩) ss.length ss.length,.string x] (W.alloc (.cells (ss.map Value.string).toArray 9)) fun e w'=>e=.returned (.bool (kA ss x))∧w'=W.alloc (.cells (ss.map Value.string).toArray 9):=by subst hb;exact Oj ss x W.heap.size ss.length _ hn (dc.made W ss).2
theorem vW(s:BA)(w:World):Calls prog 175 #[.string s] w fun e w'=>e=.returned (.bool (lang.kept s))∧w.Since w.heap.size w':=by
 have HL:=aa (Dm s);have K1:=aa (vn k_ s w.heap.size w rfl (by decide));have s1:w.Since w.heap.size (w.alloc (.cells (k_.map Value.string).toArray 9)):=(ah _ _).alloc (ai _) _;have K2:=aa (vn gH s (w.heap.size+1) (w.alloc (.cells (k_.map Value.string).toArray 9)) (by simp) (by decide));have s2:=s1.alloc s1.size (.cells (gH.map Value.string).toArray 9);have K3:=aa (vn fV s (w.heap.size+1+1) ((w.alloc (.cells (k_.map Value.string).toArray 9)).alloc (.cells (gH.map Value.string).toArray 9)) (by simp) (by decide));have s3:=s2.alloc s2.size (.cells (fV.map Value.string).toArray 9);have S:=aa (aF s1 (aF s2 s3));clear s1 s2 s3;generalize lang.kept s=R at*;generalize kA k_ s=a at*;generalize kA gH s=b at*;generalize kA fV s=c at*;cases a with
 |true=>have hR:Hid (R=true):=aa HL.o;go_enter func175,ntmps175;go_wp2_with fail;refine K1.o.mono ?_;rintro r0 w1⟨rfl,rfl⟩;go_wp2_with fail;go_ret;exact⟨by rw[hR.o];rfl,S.o.1⟩
 |false=>cases b with
          |true=>have hR:Hid (R=true):=aa HL.o;go_enter func175,ntmps175;go_wp2_with fail;refine K1.o.mono ?_;rintro r0 w1⟨rfl,rfl⟩;go_wp2_with fail;refine(vl _).mono ?_;rintro r0 w2⟨rfl,rfl⟩;go_wp2_with fail;refine K2.o.mono ?_;rintro r0 w3⟨rfl,rfl⟩;go_wp2_with fail;go_ret;exact⟨by rw[hR.o];rfl,S.o.2.1⟩
          |false=>
           have hR:Hid (R=c):=aa HL.o;go_enter func175,ntmps175;go_wp2_with fail;refine K1.o.mono ?_;rintro r0 w1⟨rfl,rfl⟩;go_wp2_with fail;refine(vl _).mono ?_;rintro r0 w2⟨rfl,rfl⟩;go_wp2_with fail;refine K2.o.mono ?_;rintro r0 w3⟨rfl,rfl⟩;go_wp2_with fail;refine(rO _).mono ?_;rintro r0 w4⟨rfl,rfl⟩;go_wp2_with fail;refine K3.o.mono ?_;rintro r0 w5⟨rfl,rfl⟩;go_wp2_with fail;go_ret;exact⟨by rw[hR.o];rfl,S.o.2.2⟩
structure bY(w:World)(pb g c e:Nat)(l:List Wd)(n:Nat)(b:Int)(wc:World):Prop where
 p0:∃n0 b0,Rs w pb g c l e n0 b0
 ad:bE w pb wc
 rs:Rs wc pb g c l e n b
 z:wc.heap[w.heap.size]?=some cH
section
variable{w wc w':World}{pb g c e n m:Nat}{l:List Wd}{b b':Int}
theorem bY.start(h:Rs w pb g c l e n b):bY w pb g c e l n b (w.alloc cH):=⟨⟨n,b,h⟩,(bE.refl w pb).since ((ah _ _).alloc (ai _) _),h.up ((ah _ _).alloc (ai _) _),aq w _⟩
theorem bY.lt(h:bY w pb g c e l n b wc):w.heap.size<wc.heap.size:=aV h.z
theorem bY.pbl(h:bY w pb g c e l n b wc):pb<w.heap.size:=by obtain⟨_,_,h⟩:=h.p0;exact h.lt
theorem bY.since(h:bY w pb g c e l n b wc)(hs:wc.Since wc.heap.size w'):bY w pb g c e l n b w':=⟨h.p0,h.ad.since hs,h.rs.up hs,(hs.block _ h.lt).trans h.z⟩
theorem bY.alloc(h:bY w pb g c e l n b wc)(o:Obj):bY w pb g c e l n b (wc.alloc o):=h.since ((ah _ _).alloc (ai _) _)
theorem bY.drew(h:bY w pb g c e l n b wc):bY w pb g c e l n b wc.drew:=h.since (ah _ _).drew
theorem bY.adv(h:bY w pb g c e l n b wc)(ha:bE wc pb w')(hp:Rs w' pb g c l e m b'):bY w pb g c e l m b' w':=⟨h.p0,h.ad.trans ha,hp,(ha.block _ h.lt (by have:=h.pbl;omega)).trans h.z⟩
theorem bY.next(h:bY w pb g c e l n b wc)(m:Nat)(hm:m≤l.length):bY w pb g c e l m b (wc.setCell ⟨pb,1,none⟩ (.int .i64 (m:Nat))):=h.adv (bE.set wc pb 1 _) (h.rs.set m hm)
theorem bY.facts(h:bY w pb g c e l n b wc):wc.cell? ⟨w.heap.size,0,none⟩=some (.int .u8 0)∧wc.cell? ⟨w.heap.size,1,none⟩=some (.string ByteArray.empty)∧wc.cell? ⟨w.heap.size,2,none⟩=some (.int .i64 0)∧wc.cell? ⟨w.heap.size,3,none⟩=some (.slice none 0 0)∧∀j,wc.frozen? ⟨w.heap.size,j,none⟩=false:=cv h.z
theorem bY.fin(h:bY w pb g c e l m b wc)(v0 v1 v2 v3:Value):Kept wc (bQ pb) (w.heap.size+1) ((((wc.setCell ⟨w.heap.size,0,none⟩ v0).setCell ⟨w.heap.size,1,none⟩ v1).setCell ⟨w.heap.size,2,none⟩ v2).setCell ⟨w.heap.size,3,none⟩ v3)∧bE w pb ((((wc.setCell ⟨w.heap.size,0,none⟩ v0).setCell ⟨w.heap.size,1,none⟩ v1).setCell ⟨w.heap.size,2,none⟩ v2).setCell ⟨w.heap.size,3,none⟩ v3)∧Rs ((((wc.setCell ⟨w.heap.size,0,none⟩ v0).setCell ⟨w.heap.size,1,none⟩ v1).setCell ⟨w.heap.size,2,none⟩ v2).setCell ⟨w.heap.size,3,none⟩ v3) pb g c l e m b:=by obtain⟨n0,b0,h0⟩:=h.p0;exact⟨t_ (aG _) _ _ _ _,Qb h0 h.ad h.rs (ai _) _ _ _ _⟩
end
def cP(v:Value):Prop:=∃(k:Nat)(x:BA)(n:Nat)(G:Option Addr)(m c:Nat),v=.agg #[.int .u8 (k:Nat),.string x,.int .i64 (n:Nat),.slice G m c]
def dt(O:World→(Nat→Prop)→Nat→List Tm→Value→Prop)(J:Value→Prop)(w:World)(pb g c:Nat)(l:List Wd)(e:Nat)(r:Re)(E:Ending)(w':World):Prop:=match r with
 |.ok ts m=>∃v,E=.returned v∧O w' (bQ pb) w.heap.size ts v∧bE w pb w'∧Rs w' pb g c l e m (-1)
 |.bad p=>∃v,E=.returned v∧J v∧bE w pb w'∧∃n',Rs w' pb g c l e n' (p:Nat)
theorem zF(w:World)(pb g c e n:Nat)(l:List Wd)(b:Nat)(h:Rs w pb g c l e n (b:Nat)):Calls prog 287 #[.pointer (some ⟨pb,0,none⟩)] w fun E w'=>E=.returned zT∧bE w pb w'∧Rs w' pb g c l e n (b:Nat):=by
 unfold zT;have I0:=bY.start h;have K1:=aa (eI _ pb g c e n l _ I0.rs);have hb:(0:Int)≤((b:Nat):Int):=by omega
 have I0:=aa I0;rw[bA]at I0 K1;clear h;go_enter func287,ntmps287;go_wp2_with fail;refine K1.o.mono ?_;rintro r0 w1⟨rfl,hs⟩;have I1:=aa ((I0.o.since hs).alloc (.cells #[.int .u8 (bZ l n:Nat),.string (cJ l n),.int .i64 (aW l e n:Nat)] 115));have g2:=I1.o.rs.c2;obtain⟨q0,q1,q2,q3,q4⟩:=I1.o.facts;clear hs K1;go_wp2_with fail;have hf:=I1.o.fin (.int .u8 0) (.string ⟨#[]⟩) (.int .i64 0) (.slice none 0 0);exact au (v:=.agg #[.int .u8 0,.string ⟨#[]⟩,.int .i64 0,.slice none 0 0]) (by simp[results,results287,go_sem,q0,q1,q2,q3]) rfl ⟨rfl,hf.2⟩
theorem bp{W:World}{B:Nat}{a b c:Value}{t:Nat}(hb:W.heap[B]?=some (.cells #[a,b,c] t)):W.cell? ⟨B,0,none⟩=some a∧W.cell? ⟨B,1,none⟩=some b∧W.cell? ⟨B,2,none⟩=some c:=by
 refine⟨?_,?_,?_⟩;·unfold World.cell?;rw[hb];rfl
 ·unfold World.cell?;rw[hb];rfl
 ·unfold World.cell?;rw[hb];rfl
theorem mO(s:BA)(e:Nat):∀(k i v:Nat),e-i≤k→v≤bh s i e v
 |0,i,v,h=>by rw[bh,dif_neg (by omega)];exact ai _
 |k+1,i,v,h=>by
  rw[bh];split;·have:=mO s e k (i+1) (10*v+(bc s i-48)) (by omega);omega
  ·exact ai _
theorem Dp(w:World)(pb g c e n:Nat)(l:List Wd)(h:Rs w pb g c l e n (-1))(hl:l.length≤100000)(x:Wd)(hx:l[n]?=some x)(hk:x.kind=.number)(hd:∀i(h:i<x.text.size),48≤x.text[i].toNat)(hv:bh x.text 0 x.text.size 0≤1000000)(hsz:x.text.size≤100000):Calls prog 287 #[.pointer (some ⟨pb,0,none⟩)] w fun E w'=>E=.returned (.agg #[.int .u8 1,.string ⟨#[]⟩,.int .i64 (bh x.text 0 x.text.size 0:Nat),.slice none 0 0])∧bE w pb w'∧Rs w' pb g c l e (n+1) (-1):=by
 have I0:=bY.start h;have K1:=aa (eI _ pb g c e n l _ I0.rs);have hK:bZ l n=110:=by unfold bZ;rw[hx];show rK x=110;unfold rK;rw[hk]
 have hT:cJ l n=x.text:=by unfold cJ;rw[hx]
 rw[hK,hT,show((110:Nat):Int)=110 from rfl]at K1;have hn:n<l.length:=(aQ.1 hx).1;have z1:IntKind.i64.wrap ((n:Int)+1)=(n:Int)+1:=ax _ (by omega);have I0:=aa I0;rw[bA]at I0 K1;have HD:=aa hd;have HV:=aa hv;generalize x.text=T at*;generalize aW l e n=p at*;clear h hx hk hK hT hd hv;go_enter func287,ntmps287;go_wp2_with fail;refine K1.o.mono ?_;rintro r0 w1⟨rfl,hs⟩;have I1:=aa ((I0.o.since hs).alloc (.cells #[.int .u8 110,.string T,.int .i64 (p:Nat)] 115));have I2:=aa (I1.o.next (n+1) (by omega));have e1:((n+1:Nat):Int)=(n:Int)+1:=by omega
 rw[e1]at I2;have HL:=aa (I0.o.since hs).lt;have g1:=I1.o.rs.c1;have g2:=I1.o.rs.c2;have g3:=I1.o.rs.fz;obtain⟨y0,y1,y2⟩:=bp ((ak (w1.alloc (.cells #[.int .u8 110,.string T,.int .i64 (p:Nat)] 115)) ⟨pb,1,none⟩ (.int .i64 ((n:Int)+1)) w1.heap.size (by have:=I1.o.pbl;have:=(I0.o.since hs).lt;dsimp only;omega)).trans (aq w1 _));clear hs K1 e1;go_wp2_with fail;go_loopg[4,5]T.size(fun gg o4 o5 wr=>∃(i v:Nat),gg=T.size-i∧i≤T.size∧o4=.int .i64 (v:Nat)∧o5=.int .i64 (i:Nat)∧Hid (bh T i T.size v=bh T 0 T.size 0)∧Hid (bY w pb g c e l (n+1) (-1) wr)∧Hid (wr.heap[w1.heap.size]?=some (.cells #[.int .u8 110,.string T,.int .i64 (p:Nat)] 115)));case atStart=>
  exact⟨0,0,by omega,by omega,rfl,rfl,aa rfl,I2,aa ((ak _ _ _ _ (by have:=I1.o.pbl;have:=HL.o;dsimp only;omega)).trans (aq w1 _))⟩
 case round=>
  obtain⟨i,v,rfl,hi,rfl,rfl,hE,hI,hB⟩:=hrel;obtain⟨y0,y1,y2⟩:=bp hB.o;by_cases h1:i<T.size;·
   have h2:48≤T[i].toNat:=HD.o i h1;have hE2:Hid (bh T (i+1) T.size (10*v+(T[i].toNat-48))=bh T 0 T.size 0):=aa (by
    rw[←hE.o];conv=>rhs;rw[bh,dif_pos h1,bm h1]);have hle:10*v+(T[i].toNat-48)≤1000000:=ay (mO T T.size _ (i+1) _ (ai _)) (by rw[hE2.o];exact HV.o);have hb8:T[i].toNat<256:=T[i].toNat_lt;have i1:(i:Int)<(T.size:Int):=by omega
   have z2:IntKind.u8.wrap ((T[i].toNat:Int)-48)=(T[i].toNat:Int)-48:=IntWalk.u8_in _ (by omega);have z3:IntKind.i64.wrap (10*(v:Int))=10*(v:Int):=ax _ (by omega);have z4:IntKind.i64.wrap (10*(v:Int)+((T[i].toNat:Int)-48))=10*(v:Int)+((T[i].toNat:Int)-48):=ax _ (by omega);have z5:IntKind.i64.wrap ((i:Int)+1)=(i:Int)+1:=ax _ (by omega);have HLE:=aa (aF hle h2);clear h2 hle;go_wp2_with fail;go_roundg(T.size-(i+1));case measure=>omega
   case rel=>
    exact⟨i+1,10*v+(T[i].toNat-48),rfl,by omega,by have:=HLE.o.2;congr 1;omega,by simp,hE2,hI,hB⟩
  ·
   have hv:Hid (v=bh T 0 T.size 0):=aa (by rw[←hE.o,bh,dif_neg h1]);have i1:¬(i:Int)<(T.size:Int):=by omega
   obtain⟨q0,q1,q2,q3,q4⟩:=hI.o.facts;go_wp2_with fail;have hf:=hI.o.fin (.int .u8 1) (.string ⟨#[]⟩) (.int .i64 (v:Nat)) (.slice none 0 0);exact au (v:=.agg #[.int .u8 1,.string ⟨#[]⟩,.int .i64 (v:Nat),.slice none 0 0]) (by simp[results,results287,go_sem,q0,q1,q2,q3]) rfl ⟨by rw[←hv.o],hf.2⟩
