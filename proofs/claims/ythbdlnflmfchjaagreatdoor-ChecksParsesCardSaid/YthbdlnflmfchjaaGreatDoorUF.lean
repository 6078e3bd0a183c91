/- The program's Parse: its loop over the words. -/
import Derived.Test.YthbdlnflmfchjaaGreatDoorUE
import Derived.RangeFuncBox
import Derived.RangeFuncWrites
set_option linter.unusedVariables false
set_option linter.unusedSimpArgs false
namespace Go.Proofs.YthbdlnflmfchjaaGreatDoor
open Go.Proofs.Tryz
open Go.RowKit Go.Proofs.Fm Go.Proofs.MapEnt
set_option maxHeartbeats 3200000
set_option maxRecDepth 1000000
attribute[local go_sem]Oper.semAt_some
theorem DB(s:BA)(w:World):Calls prog 38 #[.string s] w fun E w'=>E=.returned (.func (.func 84) #[] #[.pointer (some ⟨w.heap.size,0,none⟩)])∧w'=w.alloc (.cells #[.string s] 9):=by go_enter func38,ntmps38;go_wp2_with fail;go_ret;exact⟨rfl,rfl⟩
theorem OU{m0 tb B:Nat}{X Y Z:World}(h:Nu m0 tb B X Y)(k:Nu m0 tb B Y Z):Nu m0 tb B X Z:=by
 refine⟨h.below.trans k.below,fun q cs t fr hq hx hp=>?_,?_⟩;·
  have hq2:q<X.heap.size:=aV hx;refine k.keep q cs t fr hq (h.keep q cs t fr hq hx hp) ?_;rcases h.ptr with e|⟨j,e,h1,_⟩;·rw[e];exact hp
  ·rw[e];exact fun h=>by injection h;omega
 ·
  rcases k.ptr with e|⟨j,e,h1,h2⟩;·
   rw[e];rcases h.ptr with e|⟨j,e,h1,h2⟩;·exact .inl e
   ·exact .inr ⟨j,e,h1,aw h2 k.below.size⟩
  ·exact .inr ⟨j,e,ay h.below.size h1,h2⟩
theorem OV{w:World}{m0 tb B:Nat}(hm:m0≤w.heap.size)(hB:B<w.heap.size)(W:World)(l:Nat)(o o':Obj)(hl:w.heap.size≤l)(h:W.heap[l]?=some o)(ho:o.isCells=false)(hw:o.isWalk=false):Nu m0 tb B W (W.putObj l o'):=by
 have hg:=grownBy_putObj' W l o';have hll:l<W.heap.size:=aV h;refine⟨belowK_b hm W l o o' hl h ho hw,fun q cs t fr _ hx _=>?_,.inl ?_⟩;·refine(hg.block q (aV hx) ?_).trans hx;intro e;injection e with e;subst e;rw[hx]at h;injection h with h;subst h;cases ho
 ·unfold gM;rw[az (a:=⟨B,0,none⟩) (w:=W) (hg.block B (by omega) (by intro e;injection e;omega))]
theorem Ai(s:BA)(hs:s.size≤100000)(n m0 tb B:Nat)(w:World)(hB:B<tb)(hm:m0≤tb)(hbt:w.heap[tb]?=some (.cells #[.string s] 9))(hptr:gM B w=none)(hT:∀wr,Below m0 w wr→Tabs wr)(hE:∀wr,Below m0 w wr→ErrV wr):SeqStopsK Fence.wide n prog 84 #[.pointer (some ⟨tb,0,none⟩)] (fun x:Tok=>#[Value.agg (fy x)]) (Nu m0 tb B) (Iu s) (Ca s) s.size w:=fun l J Jx W hW hJ hJx hY h0=>by have htl:=aV hbt;have hb0:Below m0 w W:=hW.mono (by omega);refine callsIn_wide.2 (Ah s hs m0 tb B l (n-1) J Jx W hB hm ((hW.block tb htl).trans hbt) ?_ (fun wr h=>hT wr (hb0.trans h)) (fun wr h=>hE wr (hb0.trans h)) hJ hY h0);unfold gM at hptr⊢;rw[hW.cell (p:=⟨B,0,none⟩) (show B<w.heap.size by omega)];exact hptr
theorem Iv:(prog.info? 100).map (fun i=>(i.zero,i.size,i.bytes))=some (some (.agg #[.int .i64 0,.string ByteArray.empty,.bool false,.int .i64 0,.bool false,.string ByteArray.empty,.bool false]),7,72):=by kernel_rfl
def ki(pre:List Tok):List Value:=pre.flatMap fun x=>(fy x).toList
theorem Aj(pre:List Tok)(x:Tok):ki (pre++[x])=ki pre++(fy x).toList:=by unfold ki;rw[List.flatMap_append];simp
theorem Iw{W:World}{base n cp:Nat}{G:Option Addr}{us:List Value}(x:Tok)(hO:W.ownsRow base 100 7 (.slice G n cp) n us)(hbase:base≤W.heap.size)(hn:n≤100000):∃W' g' cp',(Builtin.append_ #[95,95] 95 #[.slice G n cp,.slice (some ⟨W.heap.size,0,none⟩) 1 1]).run prog (W.alloc (.cells (fy x) 100))=.ok (.slice (some ⟨g',0,none⟩) (n+1) cp') W'∧Hid (W'.ownsRow base 100 7 (.slice (some ⟨g',0,none⟩) (n+1) cp') (n+1) (us++(fy x).toList))∧Hid (W.Since base W')∧Hid (∀k,k<W.heap.size→G.map (·.block)≠some k→W'.heap[k]?=W.heap[k]?)∧Hid (G.map (·.block)=some g'∨W.heap.size≤g')∧Hid (g'<W'.heap.size):=by
 obtain⟨i0,hi,hz0,hz1,hz2⟩:=info_parts Iv;have hO4:=cZ (w':=W.alloc (.cells (fy x) 100)) hO (fun q _ hq=>aj W _ q hq);obtain⟨v',w',r1,r2,r3,_,r4⟩:=run_append_own_at (P:=prog) (w:=W.alloc (.cells (fy x) 100)) base 95 95 100 i0 _ 7 72 underlying95 hi hz0 hz1 hz2 rfl (by decide) _ n us hO4 ⟨W.heap.size,0,none⟩ 1 1 (fy x).toList rfl (fun j u hu=>by
  have e1:((⟨W.heap.size,0,none⟩:Addr).add j)=⟨W.heap.size,j,none⟩:=by unfold Addr.add;split<;>simp_all
  rw[e1];unfold World.cell?;rw[aq];simpa using hu) (fun u hu=>by simp only[fy,List.mem_cons,aS,or_false]at hu;rcases hu with rfl|rfl|rfl|rfl|rfl|rfl|rfl<;>rfl) (by simp only[maxLen];omega) (by omega) (by simp;omega);have hG:(Value.slice G n cp).ownBlock=G.map (·.block):=by
  rcases hO.2 with⟨e2,_⟩|⟨g,cp0,cur,e2,_⟩;·injection e2 with e2;subst e2;rfl
  ·injection e2 with e2;subst e2;rfl
 obtain⟨g',cp',rfl,hg'⟩:∃g' cp',v'=.slice (some ⟨g',0,none⟩) (n+1) cp'∧g'<w'.heap.size:=by
  rcases r2.2 with⟨_,e2⟩|⟨g',cp,cur,e,_,h3,_⟩;·omega
  ·exact⟨g',cp,e,aV h3⟩
 refine⟨w',g',cp',r1,aa r2,aa (((ah base W).alloc hbase _).grown r3 (by simp;omega) (fun q hq=>oo hO q hq)),aa (fun k hk hne=>?_),aa ?_,aa hg'⟩;·
  refine(r3.block k (by simp;omega) (fun h=>hne ?_)).trans (aj W _ k hk);rw[←hG];exact h.symm
 ·
  rcases r4 with e|e;·
   exact .inl (by rw[←hG,←e];rfl)
  ·have e:some g'=some (W.alloc (.cells (fy x) 100)).heap.size:=e;injection e with e;exact .inr (by rw[e];simp)
theorem l_{F:Fence}{n:Nat}{P:Program}{w w':World}{ops:Array Oper}{rest:List Oper}{o:Oper}{a:Act}{Q:Exit→Act→World→Prop}{ts:TypeId}(hg:o.guard=none)(s x:Operand)(hop:o.op=Op.call {callee:=Callee.builtin Builtin.append,args:=#[s,x],argTypes:=#[ts,ts]})(ht:o.type=ts){v v' xv:Value}(hr:(Builtin.append_ #[ts,ts] ts #[v,xv]).run P w=.ok v' w')(hs:a.eval s=v)(hx:a.eval x=xv)(hK:wpListIn F n P ops Q rest (a.put o.dst v') w'):wpListIn F n P ops Q (o::rest) a w:=by
 refine wpListIn_plain hg fun K hK'=>?_;unfold Oper.wpIn;refine⟨?_,?_⟩;·simp[Oper.about,hop,resolve,Target.leads,Sem.run_pure]
 ·rw[Oper.semAt_plain F _ _ (by rw[hop];intro c hc';cases hc')];simp[execOp,hop,ht,resolve,invoke,builtin,hs,hx,hr,Result.andThen];exact hK' _ _ hK
theorem Nv{W:World}{n:Nat}{a b c d u1 u2:Value}(h0:W.heap[n]?=some (.cells #[a,b,c,d] 39))(h1:Boxed W (n+1) 3 u1)(h2:Boxed W (n+1+1) 28 u2)(v0 v1 v2 v3 p q:Value):∃V,((((((W.setCell ⟨n,0,none⟩ v0).setCell ⟨n,1,none⟩ v1).setCell ⟨n,2,none⟩ v2).setCell ⟨n,3,none⟩ v3).setCell ⟨n+1,0,none⟩ p).setCell ⟨n+1+1,0,none⟩ q)=V∧V.heap[n]?=some (.cells #[v0,v1,v2,v3] 39)∧Boxed V (n+1) 3 p∧Boxed V (n+1+1) 28 q∧(∀k,k≠n→k≠n+1→k≠n+1+1→V.heap[k]?=W.heap[k]?)∧V.heap.size=W.heap.size∧V.os=W.os∧V.tape=W.tape∧V.output=W.output:=by
 obtain⟨V1,e1,a1,b1,s1,o1,t1,u1⟩:=ig h0 v0 v1 v2 v3;rw[e1];have h1':Boxed V1 (n+1) 3 _:=(b1 (n+1) (by omega)).trans h1;have h2':Boxed V1 (n+1+1) 28 _:=(b1 (n+1+1) (by omega)).trans h2;refine⟨_,rfl,?_,(h1'.set p).other (by omega) q,(h2'.other (by omega) p).set q,fun k k1 k2 k3=>?_,by simp[s1],o1,t1,u1⟩;·
  rw[ak _ _ _ _ (by dsimp only;omega),ak _ _ _ _ (by dsimp only;omega)];exact a1
 ·rw[ak _ _ _ _ (by dsimp only;omega),ak _ _ _ _ (by dsimp only;omega)];exact b1 k k1
structure QC(w:World)(pre:List Tok)(W:World):Prop where
 row:∃G cp,Boxed W (w.heap.size+1+1+1) 95 (.slice G pre.length cp)∧W.ownsRow w.heap.size 100 7 (.slice G pre.length cp) pre.length (ki pre)
 r0:W.heap[w.heap.size]?=some cH
 r1:Boxed W (w.heap.size+1) 3 (.int .i64 0)
 r2:Boxed W (w.heap.size+1+1) 28 (.int .u8 0)
 below:Below w.heap.size w W
 good:∀x∈pre,x.bad=false
 size:w.heap.size+1+1+1+1<W.heap.size
structure QT(w:World)(c:Code)(pre:List Tok)(W:World):Prop where
 ret:c=.ret
 last:∃x,pre.getLast?=some x∧x.bad=true∧Boxed W (w.heap.size+1) 3 (.int .i64 (x.place:Nat))
 r0:W.heap[w.heap.size]?=some cH
 r2:Boxed W (w.heap.size+1+1) 28 (.int .u8 4)
 below:Below w.heap.size w W
theorem Cc:∀(xs:List Tok)(i:Nat)(h:i<xs.length)(j:Nat)(v:Value),(fy xs[i])[j]?=some v→j<7→(ki xs)[i*7+j]?=some v
 |[],i,h,_,_,_,_=>absurd h (aH _)
 |x::xs,0,h,j,v,hv,hj=>by
  have e:ki (x::xs)=(fy x).toList++ki xs:=by unfold ki;rw[List.flatMap_cons]
  rw[e,Nat.zero_mul,Nat.zero_add,List.getElem?_append_left (by simp[fy];omega)];simpa using hv
 |x::xs,i+1,h,j,v,hv,hj=>by
  have e:ki (x::xs)=(fy x).toList++ki xs:=by unfold ki;rw[List.flatMap_cons]
  have hl:(fy x).toList.length=7:=by simp[fy]
  rw[e,List.getElem?_append_right (by rw[hl];omega),hl,show(i+1)*7+j-7=i*7+j by omega];exact Cc xs i (Nat.lt_of_succ_lt_succ h) j v hv hj
theorem OW{W:World}{base cp:Nat}{G:Option Addr}{l:List Wd}(h:W.ownsRow base 100 7 (.slice G (l.map fX).length cp) (l.map fX).length (ki (l.map fX))):vj W G l∧∀g,G=some ⟨g,0,none⟩→g<W.heap.size:=by
 have hG:∀g,G=some ⟨g,0,none⟩→g<W.heap.size:=fun g hg=>by
  rcases h.2 with⟨e,_⟩|⟨g',cp',cur,e,_,h3,_⟩;·injection e with e;subst e;cases hg
  ·injection e with e;subst e;injection hg with hg;injection hg with hg;subst hg;exact aV h3
 refine⟨fun i hi=>?_,hG⟩;have hi':i<(l.map fX).length:=by rw[List.length_map];exact hi
 rcases h.2 with⟨_,e⟩|⟨g,cp',cur,e,_,h3,_⟩;·omega
 ·
  injection e with e;subst e;have hc:∀j v,(fy (fX l[i]))[j]?=some v→j<7→W.cell? ⟨g,i*7+j,none⟩=some v:=fun j v hv hj=>by
   have h1:=h.cells (g:=g) rfl (i*7+j) v (Cc _ i hi' j v (by rw[List.getElem_map];exact hv) hj);have e1:((⟨g,0,none⟩:Addr).add (i*7+j))=⟨g,i*7+j,none⟩:=by unfold Addr.add;split<;>simp_all
   rw[e1]at h1;exact h1
  exact⟨g,rfl,aV h3,hc 0 _ rfl (by decide),hc 1 _ rfl (by decide),hc 2 _ rfl (by decide),hc 3 _ rfl (by decide),hc 4 _ rfl (by decide),hc 5 _ rfl (by decide),hc 6 _ rfl (by decide)⟩
structure PE(w:World)(D:Nat)(v0 v1 v2 v3 p q:Value)(W:World):Prop where
 r0:W.heap[w.heap.size]?=some (.cells #[v0,v1,v2,v3] 39)
 r1:Boxed W (w.heap.size+1) 3 p
 r2:Boxed W (w.heap.size+1+1) 28 q
 below:Below w.heap.size w W
 d:W.heap[D]?=some (.deferred (some []))
 hD:w.heap.size+1+1+1+1<D
theorem PE.up{w W W':World}{D:Nat}{v0 v1 v2 v3 p q:Value}(h:PE w D v0 v1 v2 v3 p q W)(hs:W.Since W.heap.size W'):PE w D v0 v1 v2 v3 p q W':=⟨(hs.block _ (aV h.r0)).trans h.r0,(hs.block _ h.r1.lt).trans h.r1,(hs.block _ h.r2.lt).trans h.r2,⟨hs.os.trans h.below.os,hs.tape.trans h.below.tape,hs.output.trans h.below.output,ay h.below.size hs.size,fun k hk=>(hs.block k (by have:=h.below.size;omega)).trans (h.below.block k hk)⟩,(hs.block _ (aV h.d)).trans h.d,h.hD⟩
theorem PE.facts{w W:World}{D:Nat}{v0 v1 v2 v3 p q:Value}(h:PE w D v0 v1 v2 v3 p q W):(W.cell? ⟨w.heap.size,0,none⟩=some v0∧W.cell? ⟨w.heap.size,1,none⟩=some v1∧W.cell? ⟨w.heap.size,2,none⟩=some v2∧W.cell? ⟨w.heap.size,3,none⟩=some v3∧∀j,W.frozen? ⟨w.heap.size,j,none⟩=false)∧W.cell? ⟨w.heap.size+1,0,none⟩=some p∧W.frozen? ⟨w.heap.size+1,0,none⟩=false∧W.cell? ⟨w.heap.size+1+1,0,none⟩=some q∧W.frozen? ⟨w.heap.size+1+1,0,none⟩=false:=⟨ba h.r0,h.r1.cell,h.r1.frozen,h.r2.cell,h.r2.frozen⟩
theorem PE.set{w W:World}{D:Nat}{v0 v1 v2 v3 p q:Value}(h:PE w D v0 v1 v2 v3 p q W)(u0 u1 u2 u3 p' q':Value):∃V,((((((W.setCell ⟨w.heap.size,0,none⟩ u0).setCell ⟨w.heap.size,1,none⟩ u1).setCell ⟨w.heap.size,2,none⟩ u2).setCell ⟨w.heap.size,3,none⟩ u3).setCell ⟨w.heap.size+1,0,none⟩ p').setCell ⟨w.heap.size+1+1,0,none⟩ q')=V∧Hid (PE w D u0 u1 u2 u3 p' q' V)∧Hid (∀k,w.heap.size+1+1<k→V.heap[k]?=W.heap[k]?)∧Hid (V.heap.size=W.heap.size):=by
 obtain⟨V,e,a0,a1,a2,o,s,x,y,z⟩:=Nv h.r0 h.r1 h.r2 u0 u1 u2 u3 p' q';exact⟨V,e,aa ⟨a0,a1,a2,⟨x.trans h.below.os,y.trans h.below.tape,z.trans h.below.output,by rw[s];exact h.below.size,fun k hk=>(o k (by omega) (by omega) (by omega)).trans (h.below.block k hk)⟩,(o D (by have:=h.hD;omega) (by have:=h.hD;omega) (by have:=h.hD;omega)).trans h.d,h.hD⟩,aa (fun k hk=>o k (by omega) (by omega) (by omega)),aa s⟩
theorem PE.set5{w W:World}{D:Nat}{v0 v1 v2 v3 p q:Value}(h:PE w D v0 v1 v2 v3 p q W)(u0 u1 u2 u3 p':Value):∃V,(((((W.setCell ⟨w.heap.size,0,none⟩ u0).setCell ⟨w.heap.size,1,none⟩ u1).setCell ⟨w.heap.size,2,none⟩ u2).setCell ⟨w.heap.size,3,none⟩ u3).setCell ⟨w.heap.size+1,0,none⟩ p')=V∧Hid (PE w D u0 u1 u2 u3 p' q V)∧Hid (∀k,w.heap.size+1+1<k→V.heap[k]?=W.heap[k]?)∧Hid (V.heap.size=W.heap.size):=by
 obtain⟨V1,e1,a1,b1,s1,o1,t1,u1'⟩:=ig h.r0 u0 u1 u2 u3;rw[e1];have h1':Boxed V1 (w.heap.size+1) 3 _:=(b1 (w.heap.size+1) (by omega)).trans h.r1;have h2':Boxed V1 (w.heap.size+1+1) 28 _:=(b1 (w.heap.size+1+1) (by omega)).trans h.r2;refine⟨_,rfl,aa ⟨?_,h1'.set p',h2'.other (by omega) p',⟨o1.trans h.below.os,t1.trans h.below.tape,u1'.trans h.below.output,by simp[s1];exact h.below.size,fun k hk=>?_⟩,?_,h.hD⟩,aa (fun k hk=>?_),aa (by simp[s1])⟩;·
  rw[ak _ _ _ _ (by dsimp only;omega)];exact a1
 ·rw[ak _ _ _ _ (by dsimp only;omega)];exact(b1 k (by omega)).trans (h.below.block k hk)
 ·rw[ak _ _ _ _ (by have:=h.hD;dsimp only;omega)];exact(b1 D (by have:=h.hD;omega)).trans h.d
 ·rw[ak _ _ _ _ (by dsimp only;omega)];exact b1 k (by omega)
theorem PE.shut{w W:World}{D:Nat}{v0 v1 v2 v3 p q:Value}(h:PE w D v0 v1 v2 v3 p q W):∃V,W.putObj D (.deferred none)=V∧V.cell? ⟨w.heap.size,0,none⟩=some v0∧V.cell? ⟨w.heap.size,1,none⟩=some v1∧V.cell? ⟨w.heap.size,2,none⟩=some v2∧V.cell? ⟨w.heap.size,3,none⟩=some v3∧V.cell? ⟨w.heap.size+1,0,none⟩=some p∧V.cell? ⟨w.heap.size+1+1,0,none⟩=some q∧Hid (w.Since w.heap.size V)∧Hid (∀k,k<W.heap.size→k≠D→V.heap[k]?=W.heap[k]?)∧Hid (V.heap.size=W.heap.size):=by
 have hg:=grownBy_putObj' W D (.deferred none);have hD:=h.hD;have hb:∀k,k<W.heap.size→k≠D→(W.putObj D (.deferred none)).heap[k]?=W.heap[k]?:=fun k hk hne=>hg.block k hk (fun e=>by injection e with e;exact hne e);have x0:(W.putObj D (.deferred none)).heap[w.heap.size]?=_:=(hb _ (aV h.r0) (by omega)).trans h.r0;have x1:Boxed (W.putObj D (.deferred none)) (w.heap.size+1) 3 p:=(hb _ h.r1.lt (by omega)).trans h.r1;have x2:Boxed (W.putObj D (.deferred none)) (w.heap.size+1+1) 28 q:=(hb _ h.r2.lt (by omega)).trans h.r2;obtain⟨c0,c1,c2,c3,-⟩:=ba x0;exact⟨_,rfl,c0,c1,c2,c3,x1.cell,x2.cell,aa ⟨hg.os.trans h.below.os,hg.tape.trans h.below.tape,hg.output.trans h.below.output,ay h.below.size hg.size,fun k hk=>(hb k (by have:=h.below.size;have:=aV h.r0;omega) (by omega)).trans (h.below.block k hk)⟩,aa hb,aa (by unfold World.putObj;simp)⟩
theorem LJ{P:Prop}(h:P:=by
 exact hs.below.trans ⟨hg.os,hg.tape,hg.output,hg.size,fun k hk2=>hg.block k (by have:=hs.below.size;omega) (fun e=>by have:=(hr k e.symm).1;omega)⟩):P:=h
theorem LK{P:Prop}(h:P:=by
 rw[hpl]at KR hR;clear hpl hws hwg hok hp ha;go_wp2_with fail;refine KR.o.mono ?_;rintro r0 w3⟨rfl,hs3⟩;have P1:=aa (P0.o.up hs3);obtain⟨⟨c0,c1,c2,c3,c4⟩,c5,c6,c7,c8⟩:=P1.o.facts;obtain⟨V,hV,P2,o2,z2⟩:=P1.o.set5 (.int .u8 0) (.string ⟨#[]⟩) (.int .i64 0) (.slice none 0 0) (.int .i64 (pl:Nat));obtain⟨⟨d0,d1,d2,d3,d4⟩,d5,d6,d7,d8⟩:=P2.o.facts;clear hs3;go_wp2_with fail;obtain⟨V4,hV4,P4,o4,z4⟩:=P2.o.set (.int .u8 0) (.string ⟨#[]⟩) (.int .i64 0) (.slice none 0 0) (.int .i64 (pl:Nat)) (.int .u8 4);have P5:Hid (PE w D (.int .u8 0) (.string ⟨#[]⟩) (.int .i64 0) (.slice none 0 0) (.int .i64 (pl:Nat)) (.int .u8 4) V4.drew):=aa (P4.o.up (ah _ _).drew);go_region;all_goals
  go_wp2_with fail;refine⟨by simp,.inl ⟨_,_,rfl,run_takeDeferred P5.o.d,?_⟩⟩;obtain⟨X,hX,x0,x1,x2,x3,x4,x5,hsx,ox,zx⟩:=P5.o.shut;rw[hX];exact⟨.tuple #[.agg #[.int .u8 0,.string ⟨#[]⟩,.int .i64 0,.slice none 0 0],.int .i64 (pl:Nat),.int .u8 4],by simp[results,f17,go_sem,x0,x1,x2,x3,x4,x5],by rw[hR.o];rfl,hsx.o⟩):P:=h
theorem F0(s:BA)(w:World)(r:Except (Nat×Nat) Tm)(hs:s.size≤1000)(hr:rF s r)(hT:Tabs w)(hE:ErrV w)(KT:lq 5000):Calls prog 17 #[.string s] w fun E w'=>Bo r E w'∧w.Since w.heap.size w':=by
 have f0:¬(1000:Int)<(s.size:Int):=by omega
 refine(callsIn_wide (n:=4)).1 ?_;refine callsIn_of_wp_marks func17 rfl trivial ?_ rfl;simp only[ntmps17,List.size_toArray,List.length_cons,List.length_nil,Nat.reduceAdd,Nat.reduceSub,Array.replicate_succ,Array.replicate_zero,List.push_toArray,List.append_toArray,List.nil_append,List.cons_append];refine wpIn_wide.2 ?_;go_wp2_with(go_at_call 38;refine(DB s _).mono ?_;rintro e w'⟨rfl,rfl⟩);refine(wpIn_wide (n:=4)).1 ?_;obtain⟨W0,hW0⟩:∃W0,(((((w.alloc cH).alloc (.cells #[.int .i64 0] 3)).alloc (.cells #[.int .u8 0] 28)).alloc (.cells #[.slice none 0 0] 95)).alloc (.cells #[.string s] 9))=W0:=⟨_,rfl⟩;have hsz:W0.heap.size=w.heap.size+1+1+1+1+1:=by rw[←hW0];simp
 have a0:=aq w cH;have a1:=Boxed.new (w.alloc cH) 3 (.int .i64 0);have a2:=Boxed.new ((w.alloc cH).alloc (.cells #[.int .i64 0] 3)) 28 (.int .u8 0);have a3:=Boxed.new (((w.alloc cH).alloc (.cells #[.int .i64 0] 3)).alloc (.cells #[.int .u8 0] 28)) 95 (.slice none 0 0);have a4:=aq ((((w.alloc cH).alloc (.cells #[.int .i64 0] 3)).alloc (.cells #[.int .u8 0] 28)).alloc (.cells #[.slice none 0 0] 95)) (.cells #[.string s] 9);simp only[World.size_alloc]at a1 a2 a3 a4;have hI0:QC w [] W0:=by
  rw[←hW0];refine⟨⟨none,0,a3.alloc _,rfl,.inl ⟨rfl,rfl⟩⟩,?_,((a1.alloc _).alloc _).alloc _,(a2.alloc _).alloc _,?_,fun x hx=>by(cases hx),by simp⟩;·
   refine(aj _ _ _ (by simp;omega)).trans ((aj _ _ _ (by simp;omega)).trans ((aj _ _ _ (by simp;omega)).trans ((aj _ _ _ (by simp)).trans a0)))
  ·exact(((((Below.refl _ w).alloc (ai _) _).alloc (by simp) _).alloc (by simp;omega) _).alloc (by simp;omega) _).alloc (by simp;omega) _
 have hbt:W0.heap[w.heap.size+1+1+1+1]?=some (.cells #[.string s] 9):=by rw[←hW0];exact a4
 have hptr:gM (w.heap.size+1+1+1) W0=none:=by rw[←hW0];unfold gM;rw[(a3.alloc (.cells #[.string s] 9)).cell];rfl
 clear a0 a1 a2 a3 a4;rw[bA]at hW0;rw[hW0];clear hW0;refine wpIn_rangeFunc_ownH rfl (by omega) (gf:=84) (lb:=#[.pointer (some ⟨w.heap.size+1+1+1+1,0,none⟩)]) rfl trivial (enters_of func84 (by kernel_rfl) rfl) (Ai s (by omega) (4-1) w.heap.size (w.heap.size+1+1+1+1) (w.heap.size+1+1+1) W0 (by omega) (by omega) hbt hptr (fun wr h=>hT.up ⟨(hI0.below.trans h).os,(hI0.below.trans h).tape,(hI0.below.trans h).output,(hI0.below.trans h).size,(hI0.below.trans h).block⟩) (fun wr h=>hE.up ⟨(hI0.below.trans h).os,(hI0.below.trans h).tape,(hI0.below.trans h).output,(hI0.below.trans h).size,(hI0.below.trans h).block⟩)) OU (OV (by omega) (by omega)) (Below.refl _ _) (fun _=>rfl) (QC w) (QT w) ?own ?ownx hI0 (fun x a' W=>∃Bx,w.heap.size+1+1+1+1<Bx∧W.heap[Bx]?=some (fq x)∧a'={tmps:=#[.string s,undef,.pointer (some ⟨w.heap.size,0,none⟩),.pointer (some ⟨w.heap.size+1,0,none⟩),.pointer (some ⟨w.heap.size+1+1,0,none⟩),.pointer (some ⟨w.heap.size+1+1+1,0,none⟩),.pointer (some ⟨Bx,0,none⟩),undef,undef,undef,.string s,.int .i64 (s.size:Nat),.bool false,undef,.string s,.func (.func 84) #[] #[.pointer (some ⟨w.heap.size+1+1+1+1,0,none⟩)],.agg (fy x),undef,undef,undef,undef,undef,undef,undef,undef,undef,undef,undef,undef,undef,undef,undef,undef,undef,undef,undef,undef,undef,undef,undef,undef,undef,undef,undef,undef,undef,undef,undef,undef,undef,undef,undef],defers:=[]}) ?ownax ?assign ?body ?done ?stop;case own=>
  intro pre X Y row hs hg hr;have hk:∀(k:Nat)(o:Obj),X.heap[k]?=some o→o.isCells=true→Y.heap[k]?=some o:=fun k o h1 h2=>(grownBy_keeps_cells hg (fun r e=>(hr r e).2) h1 h2).trans h1;obtain⟨G,cp,b1,b2⟩:=hs.row;refine⟨⟨G,cp,hk _ _ b1 rfl,cZ b2 (fun q hq hlt=>?_)⟩,hk _ _ hs.r0 rfl,hk _ _ hs.r1 rfl,hk _ _ hs.r2 rfl,?_,hs.good,aw hs.size hg.size⟩;·
   refine hg.block q hlt (fun e=>?_);obtain⟨o,h1,h2⟩:=(hr q e.symm).2;rcases b2.2 with⟨e2,_⟩|⟨g,cp0,cur,e2,_,h3,_⟩;·rw[e2]at hq;cases hq
   ·
    rw[e2]at hq;have:g=q:=by injection hq
    subst this;rw[h3]at h1;injection h1 with h1;subst h1;cases h2
  · exact LJ
 case ownx=>intro c pre X Y row hs hg hr;have hk:∀(k:Nat)(o:Obj),X.heap[k]?=some o→o.isCells=true→Y.heap[k]?=some o:=fun k o h1 h2=>(grownBy_keeps_cells hg (fun r e=>(hr r e).2) h1 h2).trans h1;obtain⟨x,b1,b2,b3⟩:=hs.last;refine⟨hs.ret,⟨x,b1,b2,hk _ _ b3 rfl⟩,hk _ _ hs.r0 rfl,hk _ _ hs.r2 rfl,?_⟩;exact LJ
 case ownax=>rintro x a' _ X Y row⟨Bx,h1,h2,h4⟩hg hr;exact⟨Bx,h1,(grownBy_keeps_cells hg (fun r e=>(hr r e).2) h2 rfl).trans h2,h4⟩
 case assign=>
  rintro l pre x W K hI hK;unfold fy;gi_wp2;have hlt0:=hI.below.size;obtain⟨G,cp,b1,b2⟩:=hI.row;have b5:=b1.lt;have hal:∀k(o:Obj),W.heap[k]?=some o→(W.alloc (.cells (fy x) 100)).heap[k]?=some o:=fun k o h=>(aj _ _ _ (aV h)).trans h;have hp0:gM (w.heap.size+1+1+1) (W.alloc (.cells (fy x) 100))=gM (w.heap.size+1+1+1) W:=by unfold gM;rw[av W _ _ b5]
  have hptrW:gM (w.heap.size+1+1+1) W=(Value.slice G pre.length cp).ownBlock:=by unfold gM;rw[b1.cell];rfl
  refine hK _ _ ((KeepsOthers.alloc _ _).from _) ⟨(Below.refl _ W).alloc hlt0 _,fun k cs t fr hk hx hp=>hal _ _ hx,.inl hp0⟩ ⟨⟨G,cp,b1.alloc _,cZ b2 (fun q _ hq=>aj W _ q hq)⟩,hal _ _ hI.r0,hI.r1.alloc _,hI.r2.alloc _,hI.below.trans ((Below.refl _ W).alloc hlt0 _),hI.good,by rw[World.size_alloc];exact Nat.lt_succ_of_lt hI.size⟩ ⟨W.heap.size,hI.size,aq W _,rfl⟩
 case body=>
  rintro l pre x a' W hl⟨r,hr⟩hI⟨Bx,hBx,hbx,rfl⟩hlt;obtain⟨d0,d1,d2,d3,d4,d5,d6⟩:=eT hbx;obtain⟨G,cp,b1,b2⟩:=hI.row;have b1c:=b1.cell;have b1f:=b1.frozen;cases hbad:x.bad with
  |true=>
   rw[hbad]at d6;obtain⟨e0,e1,e2,e3,e4⟩:=cv hI.r0;have g1:=hI.r1.cell;have g2:=hI.r2.cell;have g3:=hI.r1.frozen;have g4:=hI.r2.frozen;have mixed:=F2;gi_wp2;gi_region_o;all_goals gi_wp2
   all_goals
    (have h0:=hI.r0;rw[bA]at h0;obtain⟨V,hV,v0,v1,v2,v3,v4,v5,v6,v7⟩:=Nv h0 hI.r1 hI.r2 (.int .u8 0) (.string ⟨#[]⟩) (.int .i64 0) (.slice none 0 0) (.int .i64 (x.place:Nat)) (.int .u8 4);rw[hV];refine⟨⟨by show W.heap.size≤V.heap.size;omega,fun k o hk ho _=>(v3 k (by omega) (by omega) (by omega)).trans ho⟩,⟨rfl,⟨x,by rw[List.getLast?_concat],hbad,v1⟩,by rw[bA];exact v0,v2,?_⟩⟩;exact hI.below.trans ⟨v5,v6,v7,by show W.heap.size≤V.heap.size;omega,fun k hk=>v3 k (by omega) (by omega) (by omega)⟩)
  |false=>
   have hbw:=hI.below.size;obtain⟨w6,g',cp',r1,O6,S6,K6,P6,G6⟩:=Iw x b2 hbw (by omega);have hne:∀t(cs:Array Value)q,W.heap[q]?=some (.cells cs t)→t≠100→G.map (·.block)≠some q:=fun t v q hq ht e=>by
    rcases b2.2 with⟨e2,_⟩|⟨g,cp0,cur,e2,_,h3,_⟩;·injection e2 with e2;subst e2;cases e
    ·injection e2 with e2;subst e2;injection e with e;have e:g=q:=e;subst e;rw[h3]at hq;injection hq with hq;injection hq with _ hq;exact ht hq.symm
   have B5:Boxed w6 (w.heap.size+1+1+1) 95 (.slice G pre.length cp):=(K6.o _ b1.lt (hne _ _ _ b1 (by decide))).trans b1;have b5c:=B5.cell;have b5f:=B5.frozen;unfold fy at r1;rw[hbad]at d6 r1;gi_wp2_with(gi_at_builtin;refine l_ rfl (.tmp 22) (.tmp 24) rfl rfl r1 rfl rfl ?_);have hB5:w6.heap.size=(w6.setCell ⟨w.heap.size+1+1+1,0,none⟩ (.slice (some ⟨g',0,none⟩) (pre.length+1) cp')).heap.size:=by simp
   have hoth:∀k,k≠w.heap.size+1+1+1→(w6.setCell ⟨w.heap.size+1+1+1,0,none⟩ (.slice (some ⟨g',0,none⟩) (pre.length+1) cp')).heap[k]?=w6.heap[k]?:=fun k hk=>ak _ _ _ _ hk;have hgne:g'≠w.heap.size+1+1+1:=fun e=>by
    rcases O6.o.2 with⟨e2,_⟩|⟨g,cp0,cur,e2,_,h3,_⟩;·cases e2
    ·injection e2 with e2;injection e2 with e2;injection e2 with e2;have hq:w6.heap[w.heap.size+1+1+1]?=_:=B5;rw[←e,e2,h3]at hq;injection hq with hq;injection hq with _ hq;exact absurd hq (by decide)
   have hs6:=S6.o;have hbelow:Below w.heap.size W (w6.setCell ⟨w.heap.size+1+1+1,0,none⟩ (.slice (some ⟨g',0,none⟩) (pre.length+1) cp')):=⟨hs6.os,hs6.tape,hs6.output,by rw[←hB5];exact hs6.size,fun k hk=>(hoth k (by omega)).trans (hs6.block k hk)⟩;have hkeep:∀k(o:Obj),W.heap[k]?=some o→k≠w.heap.size+1+1+1→G.map (·.block)≠some k→(w6.setCell ⟨w.heap.size+1+1+1,0,none⟩ (.slice (some ⟨g',0,none⟩) (pre.length+1) cp')).heap[k]?=some o:=fun k o h1 h2 h3=>(hoth k h2).trans ((K6.o k (aV h1) h3).trans h1);have hptrW:gM (w.heap.size+1+1+1) W=(Value.slice G pre.length cp).ownBlock:=by unfold gM;rw[b1c];rfl
   have hGo:(Value.slice G pre.length cp).ownBlock=G.map (·.block):=by
    rcases b2.2 with⟨e2,_⟩|⟨g,cp0,cur,e2,_⟩;·injection e2 with e2;subst e2;rfl
    ·injection e2 with e2;subst e2;rfl
   have hptr':gM (w.heap.size+1+1+1) (w6.setCell ⟨w.heap.size+1+1+1,0,none⟩ (.slice (some ⟨g',0,none⟩) (pre.length+1) cp'))=some g':=by unfold gM;rw[(B5.set _).cell];rfl
   refine⟨⟨by rw[←hB5];exact hs6.size,fun k o hk ho hc=>hkeep k o ho (by omega) (fun e=>?_)⟩,⟨hbelow,fun k cs t fr hk hx hp=>hkeep k _ hx (by omega) (by rw[hptrW,hGo]at hp;exact hp),?_⟩,⟨⟨some ⟨g',0,none⟩,cp',?_,?_⟩,?_,?_,?_,hI.below.trans hbelow,?_,aw hI.size hbelow.size⟩⟩;·
    rcases b2.2 with⟨e2,_⟩|⟨g,cp0,cur,e2,_,h3,_⟩;·injection e2 with e2;subst e2;cases e
    ·injection e2 with e2;subst e2;injection e with e;have e:g=k:=e;subst e;rw[h3]at ho;injection ho with ho;subst ho;cases hc
   ·
    rw[hptr',hptrW,hGo];rcases P6.o with e|e;·exact .inl e.symm
    ·exact .inr ⟨g',rfl,e,by rw[←hB5];exact G6.o⟩
   ·rw[List.length_append];exact B5.set _
   ·rw[List.length_append,Aj];exact cZ O6.o (fun q hq _=>hoth q (by
      have:g'=q:=by injection hq
      omega))
   ·exact hkeep _ _ hI.r0 (by omega) (hne 39 _ _ (bA▸hI.r0) (by decide))
   ·exact hkeep _ _ hI.r1 (by omega) (hne _ _ _ hI.r1 (by decide))
   ·exact hkeep _ _ hI.r2 (by omega) (hne _ _ _ hI.r2 (by decide))
   ·
    intro y hy;rcases List.mem_append.1 hy with hy|hy;·exact hI.good y hy
    ·rw[aK.1 hy];exact hbad
 case done=>
  rintro D xs W hD hS hI hK;have hDD:w.heap.size+1+1+1+1<D:=by omega
  obtain⟨l,hl,hxs⟩:=hS hI.good;obtain⟨G,cp,b1,b2⟩:=hI.row;have b3:=hI.r0;have b4:=hI.r1;have b5:=hI.r2;have b6:=hI.below;rw[bA]at b3;have P0:=aa (⟨b3,b4,b5,b6,hK,hDD⟩:PE w D _ _ _ _ _ _ W);subst hxs;obtain⟨hws,hwg⟩:=OW b2;obtain⟨hok,-⟩:=mz (by omega) hl;have hbx:=b1.cell;rw[List.length_map]at hbx;have hTW:=aa (hT.up ⟨b6.os,b6.tape,b6.output,b6.size,b6.block⟩);obtain⟨f,r0,hp,ha⟩:=(jt (by omega) hl r).1 hr;clear b1 b2 b3 b4 b5 b6 hI hr;cases r0 with
  |bad p=>have KR:=aa (Fh W G cp s.size f p l hws hwg hok hp);have hR:Hid (r=.error (p,4)):=aa ha;obtain⟨pl,hpl⟩:∃pl,p=pl:=⟨_,rfl⟩;exact LK
  |ok ts m=>
    obtain⟨t,rfl,h3,h4,h5,h6,h7,h8⟩:=jO (by omega) hl hp;have ha:=ha t rfl;by_cases hm:m<l.length;·rw[if_pos hm]at ha;have KR:=aa (Dk W G cp s.size f m l t hws hwg hok hp hm);have hR:Hid (r=.error (aW l s.size m,4)):=aa ha;obtain⟨pl,hpl⟩:∃pl,aW l s.size m=pl:=⟨_,rfl⟩;exact LK
    ·
     rw[if_neg hm]at ha;have KR:=aa (Ih W G cp s.size f m l t hws hwg hok hp hm);have KD:=aa (fun W' A lo cs(h:aY W' A lo t cs)=>tp 5000 t W' A lo cs h6 (by decide) h);have KY:=aa (fun W' A lo cs(hd:iO t≤24)(h:aY W' A lo t cs)(hT:Tabs W')=>KT t [] W' A lo cs none 0 h6 h8 (by simp;omega) h (.inl ⟨rfl,rfl⟩) (fun _=>rfl) hT);have HA:=aa ha;clear hws hwg hok hp ha h3 h4 h5 h6 h7 h8 hm;go_wp2_with fail;refine KR.o.mono ?_;rintro r0 w3⟨v,rfl,⟨t',cs,e1,rfl,ht⟩,hs3⟩;injection e1 with e1;subst e1;obtain⟨tk,tx,tn,tG,tm,tc,rfl⟩:∃(tk:Nat)(tx:BA)(tn:Nat)(tG:Option Addr)(tm tc:Nat),cs=[.int .u8 (tk:Nat),.string tx,.int .i64 (tn:Nat),.slice tG tm tc]:=by
      cases t with
      |mk k x n subs=>unfold aY at ht;obtain⟨G,c,us,e,_⟩:=ht;exact⟨k,x,n,G,_,c,e⟩
     have P1:=aa (P0.o.up hs3);have HDW:=aa (aV P0.o.d);have hlo:Hid (w.heap.size+1+1<W.heap.size):=aa (by have:=P0.o.hD;have:=aV P0.o.d;omega);have L1:=aa (show W.heap.size≤w3.heap.size from hs3.size);obtain⟨⟨c0,c1,c2,c3,c4⟩,c5,c6,c7,c8⟩:=P1.o.facts;obtain⟨V,hV,P2,o2,z2⟩:=P1.o.set5 (.int .u8 (tk:Nat)) (.string tx) (.int .i64 (tn:Nat)) (.slice tG tm tc) (.int .i64 0);obtain⟨⟨d0,d1,d2,d3,d4⟩,d5,d6,d7,d8⟩:=P2.o.facts;have T2:=aa (aY.up (w':=V) ⟨Nat.le_of_eq z2.o.symm,fun q hq _ _=>o2.o q (by have:=hlo.o;omega)⟩ _ _ ht);have KD2:=aa (KD.o V _ _ _ T2.o);clear hs3 ht;by_cases hd:24<iO t;·
      have hR:Hid (r=.error (0,3)):=aa (by rw[HA.o,if_pos hd]);have f1:((iO t:Nat):Int)>24:=by omega
      clear hd;go_wp2_with fail;refine KD2.o.mono ?_;rintro r0 w4⟨rfl,hs4⟩;have P3:=aa (P2.o.up hs4);obtain⟨⟨d0,d1,d2,d3,d4⟩,d5,d6,d7,d8⟩:=P3.o.facts;obtain⟨V4,hV4,P4,o4,z4⟩:=P3.o.set (.int .u8 0) (.string ⟨#[]⟩) (.int .i64 0) (.slice none 0 0) (.int .i64 0) (.int .u8 3);clear hs4;go_wp2_with fail;refine⟨by simp,.inl ⟨_,_,rfl,run_takeDeferred P4.o.d,?_⟩⟩;obtain⟨X,hX,x0,x1,x2,x3,x4,x5,hsx,ox,zx⟩:=P4.o.shut;rw[hX];exact⟨.tuple #[.agg #[.int .u8 0,.string ⟨#[]⟩,.int .i64 0,.slice none 0 0],.int .i64 0,.int .u8 3],by simp[results,f17,go_sem,x0,x1,x2,x3,x4,x5],by rw[hR.o];rfl,hsx.o⟩
     ·
      have hR:Hid (r=oK t (fQ t [])):=aa (by rw[HA.o,if_neg hd]);have f1:¬((iO t:Nat):Int)>24:=by omega
      have HDD:=aa hd;clear hd;have HER:=aa (jz t []);generalize fQ t []=ty at*;go_wp2_with fail;refine KD2.o.mono ?_;rintro r0 w4⟨rfl,hs4⟩;have P3:=aa (P2.o.up hs4);obtain⟨⟨d0,d1,d2,d3,d4⟩,d5,d6,d7,d8⟩:=P3.o.facts;have T3:=aa (aY.up (w':=w4) ⟨hs4.size,fun q _ hq _=>hs4.block q hq⟩ _ _ T2.o);have L3:=aa (show w3.heap.size≤w4.heap.size from ay (Nat.le_of_eq z2.o.symm) hs4.size);have KY3:=aa (KY.o w4 _ _ _ (by have:=HDD.o;omega) T3.o (hT.up ⟨P3.o.below.os,P3.o.below.tape,P3.o.below.output,P3.o.below.size,P3.o.below.block⟩));clear hs4;go_wp2_with fail;refine KY3.o.mono ?_;rintro r0 w5⟨rfl,hs5⟩;have P4:=aa (P3.o.up hs5);obtain⟨⟨d0,d1,d2,d3,d4⟩,d5,d6,d7,d8⟩:=P4.o.facts;have T4:=aa (aY.up (w':=w5) ⟨hs5.size,fun q _ hq _=>hs5.block q hq⟩ _ _ T3.o);have L4:=aa (show w3.heap.size≤w5.heap.size from ay L3.o hs5.size);clear hs5;cases ty with
      |error c=>
       have hR2:Hid (r=.error (0,c)):=aa hR.o;have he:=HER.o c rfl;have fc:((c:Int)!=0)=true:=bne_iff_ne.2 (by omega);clear he;obtain⟨V6,hV6,P6,o6,z6⟩:=P4.o.set (.int .u8 0) (.string ⟨#[]⟩) (.int .i64 0) (.slice none 0 0) (.int .i64 0) (.int .u8 (c:Nat));unfold lO;go_wp2_with fail;refine⟨by simp,.inl ⟨_,_,rfl,run_takeDeferred P6.o.d,?_⟩⟩;obtain⟨X,hX,x0,x1,x2,x3,x4,x5,hsx,ox,zx⟩:=P6.o.shut;rw[hX];exact⟨.tuple #[.agg #[.int .u8 0,.string ⟨#[]⟩,.int .i64 0,.slice none 0 0],.int .i64 0,.int .u8 (c:Nat)],by simp[results,f17,go_sem,x0,x1,x2,x3,x4,x5],by rw[hR2.o];rfl,hsx.o⟩
      |ok a=>have hR2:Hid (r=.ok t):=aa hR.o;obtain⟨V6,hV6,P6,o6,z6⟩:=P4.o.set (.int .u8 (tk:Nat)) (.string tx) (.int .i64 (tn:Nat)) (.slice tG tm tc) (.int .i64 0) (.int .u8 0);have T6:=aa (aY.up (w':=V6) ⟨Nat.le_of_eq z6.o.symm,fun q hq _ _=>o6.o q (by have:=hlo.o;omega)⟩ _ _ T4.o);have L6:=aa (show w3.heap.size≤V6.heap.size from ay L4.o (Nat.le_of_eq z6.o.symm));unfold lO;go_wp2_with fail;refine⟨by simp,.inl ⟨_,_,rfl,run_takeDeferred P6.o.d,?_⟩⟩;obtain⟨X,hX,x0,x1,x2,x3,x4,x5,hsx,ox,zx⟩:=P6.o.shut;rw[hX];exact⟨.tuple #[.agg #[.int .u8 (tk:Nat),.string tx,.int .i64 (tn:Nat),.slice tG tm tc],.int .i64 0,.int .u8 0],by simp[results,f17,go_sem,x0,x1,x2,x3,x4,x5],by
               rw[hR2.o];exact⟨[.int .u8 (tk:Nat),.string tx,.int .i64 (tn:Nat),.slice tG tm tc],(fun _=>False),W.heap.size,rfl,aY.up ⟨Nat.le_of_eq zx.o.symm,fun q hq hq2 _=>ox.o q hq2 (fun e=>by have:=HDW.o;omega)⟩ _ _ T6.o⟩,hsx.o⟩
 case stop=>
  rintro D c pre W hD hS⟨rfl,⟨x,x1,x2,x3⟩,x4,x5,x6⟩hK;have hDD:w.heap.size+1+1+1+1<D:=by omega
  rw[bA]at x4;have hR:r=.error (x.place,4):=(js (by omega) (hS x x1 x2) r).1 hr;obtain⟨V,hV,c0,c1,c2,c3,c4,c5,hs5,-,-⟩:=PE.shut ⟨x4,x3,x5,x6,hK,hDD⟩;gi_wp2;refine⟨by simp,.inl ⟨_,_,rfl,run_takeDeferred hK,?_⟩⟩;rw[hV];exact⟨.tuple #[.agg #[.int .u8 0,.string ⟨#[]⟩,.int .i64 0,.slice none 0 0],.int .i64 (x.place:Nat),.int .u8 4],by simp[results,f17,go_sem,c0,c1,c2,c3,c4,c5],by rw[hR];rfl,hs5.o⟩
