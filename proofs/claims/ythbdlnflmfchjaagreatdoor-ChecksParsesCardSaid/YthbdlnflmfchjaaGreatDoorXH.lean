/- The law ChecksBack walked. -/
import Derived.Test.YthbdlnflmfchjaaGreatDoorXG
import Derived.Test.YthbdlnflmfchjaaGreatDoorUM
import Derived.ProofKit
import Derived.OpenShut
import Derived.JoinedCond
import Derived.Deep.Fields
import Derived.ChangeSame
import Derived.Below
import Derived.Carry
import Derived.Test.YthbdlnflmfchjaaGreatDoorRows
import Derived.Lib.LaidU8T
import Derived.Lib.LaidTab
import Derived.MakeChecks
set_option linter.unusedVariables false
set_option linter.unusedSimpArgs false
namespace Go.Proofs.YthbdlnflmfchjaaGreatDoor
open Go.Proofs.Tryz
open Go.RowKit Go.Proofs.Fm Go.ChangeShapes Go.WideShapes Go.ChangeAt Go.Deep
set_option maxHeartbeats 6400000
set_option maxRecDepth 1000000
structure Tb(w:World)(b:Nat)(t:Tz)(k:Nat)(x:BA)(n:Int)(G:Option Addr)(m c:Nat):Prop where
 blk:w.heap[b]?=some (.cells #[.int .u8 (k:Nat),.string x,.int .i64 n,.slice G m c] 39)
 is:TzAt w t [.int .u8 (k:Nat),.string x,.int .i64 n,.slice G m c]
theorem Tb.up{w w':World}{b:Nat}{t:Tz}{k:Nat}{x:BA}{n:Int}{G:Option Addr}{m c:Nat}(h:Tb w b t k x n G m c)(hs:w.Since w.heap.size w'):Tb w' b t k x n G m c:=⟨(hs.block _ (aV h.blk)).trans h.blk,h.is.up hs⟩
theorem Tb.new{w:World}{t:Tz}{k:Nat}{x:BA}{n:Int}{G:Option Addr}{m c:Nat}(h:TzAt w t [.int .u8 (k:Nat),.string x,.int .i64 n,.slice G m c]):Tb (w.alloc (.cells #[.int .u8 (k:Nat),.string x,.int .i64 n,.slice G m c] 39)) w.heap.size t k x n G m c:=⟨aq w _,h.up (bI w _)⟩
theorem Tb.cells{w:World}{b:Nat}{t:Tz}{k:Nat}{x:BA}{n:Int}{G:Option Addr}{m c:Nat}(h:Tb w b t k x n G m c):w.cell? ⟨b,0,none⟩=some (.int .u8 (k:Nat))∧w.cell? ⟨b,1,none⟩=some (.string x)∧w.cell? ⟨b,2,none⟩=some (.int .i64 n)∧w.cell? ⟨b,3,none⟩=some (.slice G m c):=by obtain⟨t0,t1,t2,t3,-⟩:=ba h.blk;exact⟨t0,t1,t2,t3⟩
theorem Jb(t:Tz)(w:World)(cs ds:List Value)(hK:wtZ t≤1000000)(h1:TzAt w t cs)(h2:TzAt w t ds):Calls prog 19 #[.agg cs.toArray,.agg ds.toArray] w fun E w'=>E=.returned (.bool true)∧w.Since w.heap.size w':=by have h:=jV 1000000 t t w cs ds hK (ai _) h1 h2;rw[(jP t t).2 rfl]at h;exact h
theorem sS{H:Type}{enc:TypeId×Value→H}{P:Program}{f:Func}{s:ChangeSpec}{apart fresh handsOn again:Bool}{W W':World}{args:Array Value}{v:Value}{ds gs:List (DataW H)}{before pa pv:List MemPlace}(hW:DataW.Whole enc P f.params.toList s.vars apart W args.toList ds gs before)(hres:∀(b:Nat)(sp:Nat→Bool)(hd:Bool),DataW.TrodAll enc P W' b sp hd f.resultTypes.toList (v.resultList f.resultTypes.size) (s.fn H (ds++gs)).results [])(hargs:∀sp:Nat→Bool,(∀p∈before,sp p.block=true)→DataW.TrodAll enc P W' 0 sp true f.params.toList args.toList (s.fn H (ds++gs)).args pa)(hvars:∀sp:Nat→Bool,(∀p∈before,sp p.block=true)→DataW.TrodVars enc P W' sp s.vars (s.fn H (ds++gs)).vars pv)(hps:before=pa++pv)(hb:Below W.heap.size W W')(hok:∀(j:Nat)(t:TypeId)(r:Value),f.resultTypes[j]?=some t→(v.resultList f.resultTypes.size)[j]?=some r→Value.okWide P W' .any 0 t r):s.post enc P f apart fresh handsOn again W args v W':=by
 have hlt:∀p∈before,p.block<W.heap.size:=fun p hp=>hW.lt p hp;have hold:∀p∈before,(fun b=>decide (b<W.heap.size)) p.block=true:=fun p hp=>by simpa using hlt p hp
 refine⟨ds,gs,before,[],pa,pv,hW,hres _ _ _,hargs _ hold,hvars _ hold,World.keptBut_mono (fun p hp=>⟨hp,?_⟩) (hb.frame (·∈before)),fun _=>?_⟩;·rw[hps,List.mem_append]at hp;exact Or.inr hp
 ·
  obtain⟨_,_,_,_,_,hz,hn⟩:=hW;refine⟨hok,_,_,([]++pa)++pv,⟨[]++pa,pv,trodAll_append (hargs _ (fun _ _=>rfl)) (hres _ _ _),hvars _ (fun _ _=>rfl),rfl,?_,?_⟩,?_⟩;·
   intro b off hp;have hin:MemPlace.cell b off∈before:=by rw[hps];simpa using hp
   rw[hb.frozen (hlt _ hin)];exact hz b off hin
  ·intro ha;have:=hn ha;rw[hps]at this;simpa using this
  ·intro p hp _;rw[hps];simpa using hp
theorem mn{H:Type}{enc:TypeId×Value→H}{P:Program}(hl:laidOutB P=true){W W':World}(hb:Below W.heap.size W W'){sp':Nat→Bool}:∀(ts:List TypeId)(vs:List Value)(ds:List (DataW H))(ps:List MemPlace),(∀t∈ts,P.readableRec t=true∧t<P.types.size)→DataW.TrodAll enc P W 0 (fun _=>true) true ts vs ds ps→(∀p∈ps,p.block<W.heap.size)→(∀p∈ps,sp' p.block=true)→DataW.TrodAll enc P W' 0 sp' true ts vs ds ps
 |[],[],[],_,_,h,_,_=>h
 |t::ts,v::vs,d::ds,_,ht,⟨p,q,h1,h2,e⟩,hlt,hsp=>by subst e;have h0:=ht t (by simp);exact⟨p,q,WideElems.Trod_stays hl h0.1 h0.2 h1 (fun x hx=>hb.same (hlt x (List.mem_append.2 (.inl hx)))) (fun x hx=>hsp x (List.mem_append.2 (.inl hx))),mn hl hb ts vs ds q (fun t h=>ht t (by simp[h])) h2 (fun x hx=>hlt x (List.mem_append.2 (.inr hx))) (fun x hx=>hsp x (List.mem_append.2 (.inr hx))),rfl⟩
 |[],[],_::_,_,_,h,_,_=>h.elim
 |[],_::_,_,_,_,h,_,_=>h.elim
 |_::_,[],_,_,_,h,_,_=>h.elim
 |_::_,_::_,[],_,_,h,_,_=>h.elim
theorem own:ownKnob prog.godebug=none:=by kernel_rfl
theorem Ig:laidOutB prog=true:=by kernel_rfl
theorem Ay{n:Int}(h:(Lit.int .i64 n).wf=true):-9223372036854775808≤n∧n≤9223372036854775807:=by have:=bounds_i64 h;omega
section
variable{H:Type}{enc:TypeId×Value→H}{P:Program}{w:World}{base:Nat}{spare:Nat→Bool}{held:Bool}
end
theorem nw(a:Addr)(m k:Nat):(a.add m).add k=a.add (m+k):=by
 unfold Addr.add;by_cases hm:m=0;·subst hm;simp
 ·
  by_cases hk:k=0;·subst hk;simp[hm]
  ·simp[hm,hk];omega
theorem cY.snoc{w:World}{t:Tz}{cs:List Value}(ht:TzAt w t cs):∀(ts:List Tz)(us:List Value),cY w ts us→cY w (ts++[t]) (us++cs)
 |[],us,h=>by unfold cY at h;subst h;rw[List.nil_append,List.nil_append,cY];exact⟨cs,[],by simp,ht,by rw[cY]⟩
 |u::ts,us,h=>by unfold cY at h;obtain⟨a,b,rfl,h1,h2⟩:=h;rw[List.cons_append,cY];exact⟨a,b++cs,by rw[List.append_assoc],h1,cY.snoc ht ts b h2⟩
section
variable{H:Type}{enc:TypeId×Value→H}{W:World}
theorem tX:∀(n:Nat)(cs:List Value)(x:DataW H×List MemPlace),DataW.trod enc prog W 0 (fun _=>true) true n 39 cs=some x→∃t:Tz,TzAt W t cs:=by
 intro n;induction n using Nat.strongRecOn with
 |ind n IH=>
   intro cs x h;obtain⟨ys,n1,hn,hy,hlen,hyl,hf⟩:=DataW.trod_struct underlying39 h;have hc39:prog.cellsOf 39=4:=by kernel_rfl
   rw[hc39]at hlen;obtain⟨c0,c1,c2,c3,rfl⟩:∃c0 c1 c2 c3,cs=[c0,c1,c2,c3]:=by
    rcases cs with _|⟨c0,_|⟨c1,_|⟨c2,_|⟨c3,_|⟨c4,l⟩⟩⟩⟩⟩;·simp at hlen
    ·simp at hlen
    ·simp at hlen
    ·simp at hlen
    ·exact⟨c0,c1,c2,c3,rfl⟩
    ·simp at hlen
   have h36:prog.cellsOf 36=1:=by kernel_rfl
   have h9:prog.cellsOf 9=1:=by kernel_rfl
   have h2:prog.cellsOf 2=1:=by kernel_rfl
   have h37:prog.cellsOf 37=1:=by kernel_rfl
   have f0:DataW.trod enc prog W 0 (fun _=>true) true n1 36 [c0]=ys[0]?:=by have h:DataW.trod enc prog W 0 (fun _=>true) true n1 36 (List.take (prog.cellsOf 36) (List.drop 0 [c0,c1,c2,c3]))=ys[0]?:=hf 0 _ rfl;rw[h36]at h;exact h
   have f1:DataW.trod enc prog W 0 (fun _=>true) true n1 9 [c1]=ys[1]?:=by have h:DataW.trod enc prog W 0 (fun _=>true) true n1 9 (List.take (prog.cellsOf 9) (List.drop 1 [c0,c1,c2,c3]))=ys[1]?:=hf 1 _ rfl;rw[h9]at h;exact h
   have f2:DataW.trod enc prog W 0 (fun _=>true) true n1 2 [c2]=ys[2]?:=by have h:DataW.trod enc prog W 0 (fun _=>true) true n1 2 (List.take (prog.cellsOf 2) (List.drop 2 [c0,c1,c2,c3]))=ys[2]?:=hf 2 _ rfl;rw[h2]at h;exact h
   have f3:DataW.trod enc prog W 0 (fun _=>true) true n1 37 [c3]=ys[3]?:=by have h:DataW.trod enc prog W 0 (fun _=>true) true n1 37 (List.take (prog.cellsOf 37) (List.drop 3 [c0,c1,c2,c3]))=ys[3]?:=hf 3 _ rfl;rw[h37]at h;exact h
   have hys:ys.length=4:=hyl;rw[aD (by omega)]at f0 f1 f2 f3;obtain⟨k,e0,_,b0⟩:=DataW.trod_int underlying36 f0;obtain⟨s,e1,_,b1⟩:=DataW.trod_string underlying9 f1;obtain⟨z,e2,_,b2⟩:=DataW.trod_int underlying2 f2;injection e0 with e0;injection e1 with e1;injection e2 with e2;subst e0 e1 e2;have hk:=bounds_u8 b0;obtain⟨kn,rfl⟩:=Int.eq_ofNat_of_zero_le (show 0≤k by omega);have hz:=Ay b2;rcases DataW.trod_slice underlying37 f3 with⟨h0,_⟩|⟨a,len,cap,elems,rest,n2,hn2,hcs,_,_,hlc,hcm,hel,hi,_,_⟩;·injection h0 with h0;subst h0;refine⟨.mk kn s z [],?_⟩;rw[TzAt];exact⟨none,0,[],rfl,⟨hz,b1,aI _⟩,.inl rfl,by rw[cY]⟩
   ·
    injection hcs with hcs;subst hcs;rw[hc39]at hi;have hall:∀j,j≤len→∃(ts:List Tz)(us:List Value),ts.length=j∧us.length=j*4∧cY W ts us∧∀i(h:i<us.length),W.cell? (a.add i)=some us[i]:=by
     intro j;induction j with
     |zero=>exact fun _=>⟨[],[],rfl,rfl,by rw[cY],fun i h=>absurd h (aH _)⟩
     |succ j ih=>
      intro hj;obtain⟨ts,us,t1,t2,t3,t4⟩:=ih (by omega);have h5:=hi j (by omega);rw[aD (by omega)]at h5;obtain⟨cs',h6,h7⟩:=Option.bind_eq_some_iff.1 h5;obtain⟨t,ht⟩:=IH n2 (by omega) cs' _ h7;obtain⟨_,hl4,hat⟩:=World.cells?_some h6;refine⟨ts++[t],us++cs',by simp[t1],by rw[List.length_append,t2,hl4];omega,cY.snoc ht ts us t3,fun i hi2=>?_⟩;rw[List.length_append]at hi2;by_cases h8:i<us.length;·rw[List.getElem_append_left h8];exact t4 i h8
      ·rw[List.getElem_append_right (by omega)];have h9:=hat (i-us.length) (by omega);rw[nw,show j*4+(i-us.length)=i by omega]at h9;rw[h9];exact aD (by omega)
    obtain⟨ts,us,t1,t2,t3,t4⟩:=hall len (ai _);refine⟨.mk kn s z ts,?_⟩;rw[TzAt];refine⟨some a,cap,us,by rw[t1],⟨hz,b1,by omega⟩,?_,t3⟩;rcases Nat.eq_zero_or_pos us.length with h0|h0;·exact .inl (List.length_eq_zero_iff.1 h0)
    ·refine .inr ⟨a,rfl,?_,t4⟩;have:=World.block_lt_of_cell? W (a.add 0) (t4 0 h0);rwa[block_add]at this
end
set_option maxRecDepth 1000000 in theorem tabs_of{w:World}(h:laidMet prog Rows.checksParsesRow.laid w):Tabs w:=utf8Tabs_of_readsT (U8Types.of196 Tryz.lays196) ⟨by kernel_rfl,by kernel_rfl,by kernel_rfl,by kernel_rfl,by kernel_rfl,by kernel_rfl,by kernel_rfl⟩ (Lib.laidMet.reads h (.tail _ (.tail _ (.tail _ (.tail _ (.tail _ (.tail _ (.head _)))))))) (Lib.laidMet.reads h (.tail _ (.tail _ (.tail _ (.head _)))))
set_option maxRecDepth 1000000 in theorem pow_of{w:World}(h:laidMet prog Rows.checksParsesRow.laid w):PowV w:=by obtain⟨g,t,cs,fuel,p,h1,h2,h3,h4⟩:=Lib.laidMet.reads h (.tail _ (.tail _ (.head _)));have hg:g=Tryz.laysM173_ren.g 17:=Option.some.inj (h1.symm.trans Tryz.laysM173.m17);subst hg;have ht:t=383:=Option.some.inj (h2.symm.trans (by kernel_rfl));subst ht;have hc:=Lib.cells_of_tab (k:=.u64) (zs:=Lib.pow10Tab) underlying383 underlying262 (by kernel_rfl) (by kernel_rfl) h4;unfold PowV Lib.TabIs;rw[h3,←hc]
set_option maxRecDepth 1000000 in theorem err_of{w:World}(h:laidMet prog Rows.checksParsesRow.laid w):ErrV w:=by
 obtain⟨g,t,cs,fuel,p,h1,h2,h3,h4⟩:=Lib.laidMet.reads h (.tail _ (.tail _ (.tail _ (.tail _ (.head _)))));have hg:g=Tryz.laysC174_ren.g 16:=Option.some.inj (h1.symm.trans Tryz.laysC174.m16);subst hg;have ht:t=166:=Option.some.inj (h2.symm.trans (by kernel_rfl));subst ht;have gO:∀v,cs.toList=[v]→w.cell? ⟨Tryz.laysC174_ren.g 16,0,none⟩=some v:=fun v hv=>by
  unfold World.var? at h3;rw[h1,Option.bind_some]at h3;unfold World.cell?;cases hb:w.heap[Tryz.laysC174_ren.g 16]? with
  |none=>rw[hb]at h3;cases h3
  |some o=>
    rw[hb]at h3;cases o with
    |cells c e fr=>injection h3 with h3;subst h3;have:c=#[v]:=Array.toList_inj.1 hv;rw[this];rfl
    |_=>cases h3
 cases fuel with
 |zero=>simp[DataW.trod]at h4
 |succ fuel=>
   unfold DataW.trod at h4;rw[underlying166]at h4;rcases hcs:cs.toList with _|⟨v,_|⟨v2,l⟩⟩;·rw[hcs]at h4;simp at h4
   ·rw[hcs]at h4;cases v with
     |nilIface=>exact⟨_,gO _ hcs,.inl rfl⟩
     |iface u v=>exact⟨_,gO _ hcs,.inr ⟨u,v,rfl⟩⟩
     |_=>simp at h4
   ·rw[hcs]at h4;simp at h4
theorem Nj{w:World}(h:laidMet prog Rows.checksParsesRow.laid w):Lay w:=⟨tabs_of h,err_of h,pow_of h⟩
def Mr(z:Tz)(p c:Nat)(w:World)(E:Ending)(w':World):Prop:=(∃(k:Nat)(x:BA)(n:Int)(G:Option Addr)(m cc:Nat),E=.returned (.tuple #[.agg #[.int .u8 (k:Nat),.string x,.int .i64 n,.slice G m cc],.int .i64 (p:Nat),.int .u8 (c:Nat)])∧TzAt w' z [.int .u8 (k:Nat),.string x,.int .i64 n,.slice G m cc])∧w.Since w.heap.size w'
theorem Cp(w:World):TzAt w (.mk 0 ByteArray.empty 0 []) [.int .u8 ((0:Nat):Int),.string ⟨#[]⟩,.int .i64 0,.slice none 0 0]:=by
 unfold TzAt;exact⟨none,0,[],rfl,⟨⟨by decide,by decide⟩,by decide,by decide⟩,.inl rfl,by unfold cY;rfl⟩
theorem Az(KT:lq 5000)(s:BA):∃(z:Tz)(p c:Nat),wtZ z≤1000000∧(∀w,Lay w→Calls prog 17 #[.string s] w (Mr z p c w))∧∀w,Calls prog 18 #[.string s] w (Mr z p c w):=by
 obtain⟨r,hr⟩:=rG s;cases r with
 |error pc=>
  obtain⟨p,c⟩:=pc;refine⟨.mk 0 ByteArray.empty 0 [],p,c,by decide,fun w hL=>(uw KT s w p c hr hL).mono fun E w' h=>?_,fun w=>(vJ s w _ hr).mono fun E w' h=>?_⟩;·exact⟨⟨0,⟨#[]⟩,0,none,0,0,h.1,Cp w'⟩,h.2⟩
  ·exact⟨⟨0,⟨#[]⟩,0,none,0,0,h.1,Cp w'⟩,h.2⟩
 |ok u=>have hg:=(gG hr).1;refine⟨iL u,0,0,by have:=hg.wt;omega,fun w hL=>(sw KT s w u hr hL).mono fun E w' h=>h,fun w=>(vJ s w _ hr).mono fun E w' h=>?_⟩;obtain⟨⟨cs,A,lo,h1,h2⟩,h3⟩:=h;have hz:=aY.z u cs hg.n64 h2;obtain⟨k,x,n,G,m,c,rfl⟩:=qh hz;exact⟨⟨k,x,n,G,m,c,h1,hz⟩,h3⟩
theorem AA(KT:lq 5000)(t:Tz)(hK:wtZ t≤600):∃(u:BA)(e:Nat),(∀w cs,TzAt w t cs→Lay w→Calls prog 21 #[.agg cs.toArray] w fun E w'=>E=.returned (.tuple #[.string u,.int .u8 (e:Nat)])∧w.Since w.heap.size w')∧∀w cs,TzAt w t cs→Calls prog 22 #[.agg cs.toArray] w fun E w'=>E=.returned (.tuple #[.string u,.int .u8 (e:Nat)])∧w.Since w.heap.size w':=by
 by_cases h:s_ t;·
  refine⟨ofBytes (fz t),0,fun w cs ht hL=>Gq KT t cs w (by omega) ht hL h,fun w cs ht=>(qa t cs w hK ht).mono fun E w' hh=>?_⟩;obtain⟨⟨v,rfl,hv⟩,h2⟩:=hh;exact⟨by rw[hv.1 h];rfl,h2⟩
 ·refine⟨⟨#[]⟩,1,fun w cs ht hL=>Gr KT t cs w (by omega) ht hL h,fun w cs ht=>(qa t cs w hK ht).mono fun E w' hh=>?_⟩;obtain⟨⟨v,rfl,hv⟩,h2⟩:=hh;exact⟨by rw[hv.2 h];rfl,h2⟩
theorem Ms{P:Prop}(h:P:=by have KY1:=aa (KY.o w2);clear h2 hr;go_wp2_with fail;refine KY1.o.mono ?_;rintro r0 w3⟨rfl,h3⟩;have S3:=aa (bf S2.o h3);clear h3;go_wp2_with fail;go_ret;exact⟨rfl,S3.o⟩):P:=h
theorem zA(KT:lq 5000)(s:BA)(t o:Tz)(cs ds:List Value)(w:World)(ht:TzAt w t cs)(ho:TzAt w o ds)(hL:Lay w):Calls prog 4 #[.string s,.agg cs.toArray,.agg ds.toArray] w fun E w'=>E=.returned (.bool true)∧w.Since w.heap.size w':=by
 obtain⟨kt,xt,nt,Gt,mt,ct,rfl⟩:=qh ht;obtain⟨ko,xo,no,Go,mo,co,rfl⟩:=qh ho;obtain⟨W,hW⟩:∃W,(w.alloc (.cells #[.int .u8 (kt:Nat),.string xt,.int .i64 nt,.slice Gt mt ct] 39)).alloc (.cells #[.int .u8 (ko:Nat),.string xo,.int .i64 no,.slice Go mo co] 39)=W:=⟨_,rfl⟩;have HS:Hid (w.Since w.heap.size W):=aa (by rw[←hW];exact((ah _ _).alloc (ai _) _).alloc (by simp) _);have HB:Hid (Tb W w.heap.size t kt xt nt Gt mt ct):=aa (by rw[←hW];exact(Tb.new ht).up (bI _ _));have HO:Hid (Tb W (w.heap.size+1) o ko xo no Go mo co):=aa (by rw[←hW];have h:=Tb.new (ho.up (bI w (.cells #[.int .u8 (kt:Nat),.string xt,.int .i64 nt,.slice Gt mt ct] 39)));rw[World.size_alloc]at h;exact h);have HL:=aa (hL.up HS.o);have KG:=aa (fun V t cs(h:TzAt V t cs)=>sv 601 600 (by decide) (by decide) t V cs h);have KY:=aa (fun V=>DQ V);obtain⟨t0,t1,t2,t3⟩:=HB.o.cells;obtain⟨o0,o1,o2,o3⟩:=HO.o.cells;clear ht hL ho;by_cases hs:1100<s.size;·
  have f1:(s.size:Int)>1100:=by omega
  have KY1:=aa (KY.o W);go_enter func4,ntmps4;go_wp2_with fail;refine KY1.o.mono ?_;rintro r0 w2⟨rfl,h2⟩;have S2:=aa (bf HS.o h2);clear h2;go_wp2_with fail;go_ret;exact⟨rfl,S2.o⟩
 have f1:¬(s.size:Int)>1100:=by omega
 clear hs;have KG1:=aa (KG.o W t _ HB.o.is);by_cases hw:600<wtZ t;·
  have HW:=aa hw;clear hw;go_enter func4,ntmps4;go_wp2_with fail;refine KG1.o.mono ?_;rintro r0 w2⟨⟨r,rfl,hr⟩,h2⟩;have f2:r<0:=hr.2 (by have:=HW.o;omega);have S2:=aa (bf HS.o h2);exact Ms
 have HW:Hid (wtZ t≤600):=aa (by omega);clear hw;go_enter func4,ntmps4;go_wp2_with fail;refine KG1.o.mono ?_;rintro r0 w1⟨⟨r,rfl,hr⟩,h2⟩;have f2:¬r<0:=by
  have h:=hr.1 (by have:=HW.o;omega);have:=HW.o;omega
 have S1:=aa (bf HS.o h2);have B1:=aa (HB.o.up h2);have O1:=aa (HO.o.up h2);have L1:=aa (HL.o.up h2);obtain⟨t0,t1,t2,t3⟩:=B1.o.cells;obtain⟨o0,o1,o2,o3⟩:=O1.o.cells;have KG2:=aa (KG.o w1 o _ O1.o.is);clear h2 hr KG1;by_cases hw:600<wtZ o;·
  have HW2:=aa hw;clear hw;go_wp2_with fail;refine KG2.o.mono ?_;rintro r0 w2⟨⟨r',rfl,hr⟩,h2⟩;have f3:r'<0:=hr.2 (by have:=HW2.o;omega);have S2:=aa (bf S1.o h2);exact Ms
 have HW2:Hid (wtZ o≤600):=aa (by omega);obtain⟨z,p,c,hz,hp1,hp2⟩:=Az KT s;obtain⟨u,e,hu1,hu2⟩:=AA KT t HW.o;have HZ:=aa hz;have HP1:=aa hp1;have HP2:=aa hp2;have HU1:=aa hu1;have HU2:=aa hu2;clear hw hz hp1 hp2 hu1 hu2;go_wp2_with fail;refine KG2.o.mono ?_;rintro r0 w2⟨⟨r',rfl,hr⟩,h2⟩;have f3:¬r'<0:=by
  have h:=hr.1 (by have:=HW2.o;omega);have:=HW2.o;omega
 have S2:=aa (bf S1.o h2);have B2:=aa (B1.o.up h2);have O2:=aa (O1.o.up h2);have L2:=aa (L1.o.up h2);have KP2:=aa (HP1.o w2 L2.o);clear h2 hr KG2 t0 t1 t2 t3 o0 o1 o2 o3;go_wp2_with fail;refine KP2.o.mono ?_;rintro r0 w3⟨⟨ka,xa,na,Ga,ma,ca,rfl,hz⟩,h3⟩;have S3:=aa (bf S2.o h3);have N4:=aa (Tb.new hz);have S4:=aa (bI w3 (.cells #[.int .u8 (ka:Nat),.string xa,.int .i64 na,.slice Ga ma ca] 39));obtain⟨W4,hW4⟩:∃W4,w3.alloc (.cells #[.int .u8 (ka:Nat),.string xa,.int .i64 na,.slice Ga ma ca] 39)=W4:=⟨_,rfl⟩;rw[hW4]at N4 S4;have S4':=aa (bf S3.o S4.o);have B4:=aa ((B2.o.up h3).up S4.o);have O4:=aa ((O2.o.up h3).up S4.o);have L4:=aa ((L2.o.up h3).up S4.o);have KP4:=aa (HP2.o W4);clear hz h3 KP2;go_wp2_with fail;refine KP4.o.mono ?_;rintro r0 w4⟨⟨kb,xb,nb,Gb,mb,cb,rfl,hz⟩,h4⟩;have S5:=aa (bf S4'.o h4);have N6:=aa (Tb.new hz);have S6:=aa (bI w4 (.cells #[.int .u8 (kb:Nat),.string xb,.int .i64 nb,.slice Gb mb cb] 39));obtain⟨W6,hW6⟩:∃W6,w4.alloc (.cells #[.int .u8 (kb:Nat),.string xb,.int .i64 nb,.slice Gb mb cb] 39)=W6:=⟨_,rfl⟩;rw[hW6]at N6 S6;have S6':=aa (bf S5.o S6.o);have B6:=aa ((B4.o.up h4).up S6.o);have O6:=aa ((O4.o.up h4).up S6.o);have A6:=aa ((N4.o.up h4).up S6.o);have L6:=aa ((L4.o.up h4).up S6.o);have g1:((c:Int)!=(c:Int))=false:=by simp
 have g2:((p:Int)!=(p:Int))=false:=by simp
 clear hz h4 KP4;have HD:Hid (W6.Since W6.heap.size W6.drew):=aa ((ah _ _).drew);have KAB:=aa (fun V(h:W6.Since W6.heap.size V)=>Jb z V _ _ HZ.o (A6.o.is.up h) (N6.o.is.up h));have KTR:=aa (fun V(h:W6.Since W6.heap.size V)=>jV 1000000 t o V _ _ (by have:=HW.o;omega) (ai _) (B6.o.is.up h) (O6.o.is.up h));have KTP:=aa (fun V(h:W6.Since W6.heap.size V)=>jC 1000000 (ai _) t o V _ _ (by have:=HW.o;omega) (B6.o.is.up h) (O6.o.is.up h));have KTT:=aa (fun V(h:W6.Since W6.heap.size V)=>jC 1000000 (ai _) t t V _ _ (by have:=HW.o;omega) (B6.o.is.up h) (B6.o.is.up h));rw[(jP t t).2 rfl]at KTT;generalize yB t o=q at*;have g3:(q !=q)=false:=by simp
 have HC:Hid (∀V,W6.Since W6.heap.size V→V.cell? ⟨w.heap.size,0,none⟩=some (.int .u8 (kt:Nat))∧V.cell? ⟨w.heap.size,1,none⟩=some (.string xt)∧V.cell? ⟨w.heap.size,2,none⟩=some (.int .i64 nt)∧V.cell? ⟨w.heap.size,3,none⟩=some (.slice Gt mt ct)∧V.cell? ⟨w.heap.size+1,0,none⟩=some (.int .u8 (ko:Nat))∧V.cell? ⟨w.heap.size+1,1,none⟩=some (.string xo)∧V.cell? ⟨w.heap.size+1,2,none⟩=some (.int .i64 no)∧V.cell? ⟨w.heap.size+1,3,none⟩=some (.slice Go mo co)∧V.cell? ⟨w3.heap.size,0,none⟩=some (.int .u8 (ka:Nat))∧V.cell? ⟨w3.heap.size,1,none⟩=some (.string xa)∧V.cell? ⟨w3.heap.size,2,none⟩=some (.int .i64 na)∧V.cell? ⟨w3.heap.size,3,none⟩=some (.slice Ga ma ca)∧V.cell? ⟨w4.heap.size,0,none⟩=some (.int .u8 (kb:Nat))∧V.cell? ⟨w4.heap.size,1,none⟩=some (.string xb)∧V.cell? ⟨w4.heap.size,2,none⟩=some (.int .i64 nb)∧V.cell? ⟨w4.heap.size,3,none⟩=some (.slice Gb mb cb)):=aa (fun V h=>by obtain⟨a0,a1,a2,a3⟩:=(B6.o.up h).cells;obtain⟨b0,b1,b2,b3⟩:=(O6.o.up h).cells;obtain⟨c0,c1,c2,c3⟩:=(A6.o.up h).cells;obtain⟨d0,d1,d2,d3⟩:=(N6.o.up h).cells;exact⟨a0,a1,a2,a3,b0,b1,b2,b3,c0,c1,c2,c3,d0,d1,d2,d3⟩);go_wp2_with fail;go_region_held3(fun w'=>w'.cell? ⟨w.heap.size,0,none⟩=some (.int .u8 (kt:Nat))∧w'.cell? ⟨w.heap.size,1,none⟩=some (.string xt)∧w'.cell? ⟨w.heap.size,2,none⟩=some (.int .i64 nt)∧w'.cell? ⟨w.heap.size,3,none⟩=some (.slice Gt mt ct)∧w'.cell? ⟨w.heap.size+1,0,none⟩=some (.int .u8 (ko:Nat))∧w'.cell? ⟨w.heap.size+1,1,none⟩=some (.string xo)∧w'.cell? ⟨w.heap.size+1,2,none⟩=some (.int .i64 no)∧w'.cell? ⟨w.heap.size+1,3,none⟩=some (.slice Go mo co)∧w'.cell? ⟨w3.heap.size,0,none⟩=some (.int .u8 (ka:Nat))∧w'.cell? ⟨w3.heap.size,1,none⟩=some (.string xa)∧w'.cell? ⟨w3.heap.size,2,none⟩=some (.int .i64 na)∧w'.cell? ⟨w3.heap.size,3,none⟩=some (.slice Ga ma ca)∧w'.cell? ⟨w4.heap.size,0,none⟩=some (.int .u8 (kb:Nat))∧w'.cell? ⟨w4.heap.size,1,none⟩=some (.string xb)∧w'.cell? ⟨w4.heap.size,2,none⟩=some (.int .i64 nb)∧w'.cell? ⟨w4.heap.size,3,none⟩=some (.slice Gb mb cb))(first|exact HC.o _ V8.o|exact HC.o _ V7.o|exact HC.o _ V6.o|exact HC.o _ V5.o|exact HC.o _ HD.o)(first
 |(go_at_call 19;refine(KAB.o _ HD.o).mono ?_;rintro r0 w5⟨rfl,h⟩;have V5:=aa (bf HD.o h);clear h KAB)
 |(go_at_call 19;refine(KTR.o _ (by first|exact V6.o|exact V5.o)).mono ?_;rintro r0 w7⟨rfl,h⟩;have V7:=aa (bf (by first|exact V6.o|exact V5.o) h);clear h KTR)
 |(go_at_call 20;refine(KTP.o _ (by first|exact V7.o|exact V5.o)).mono ?_;rintro r0 w6⟨rfl,h⟩;have V6:=aa (bf (by first|exact V7.o|exact V5.o) h);clear h KTP)
 |(go_at_call 20;refine(KTT.o _ (by first|exact V7.o|exact V6.o)).mono ?_;rintro r0 w8⟨rfl,h⟩;have V8:=aa (bf (by first|exact V7.o|exact V6.o) h);clear h KTT));have S8:=aa (bf S6'.o V8.o);have B8:=aa (B6.o.up V8.o);have KU1:=aa (HU1.o w8 _ B8.o.is (L6.o.up V8.o));obtain⟨t0,t1,t2,t3⟩:=B8.o.cells;go_wp2_with fail;refine KU1.o.mono ?_;rintro r0 w9⟨rfl,h9⟩;have S9:=aa (bf S8.o h9);have B9:=aa (B8.o.up h9);have KU2:=aa (HU2.o w9 _ B9.o.is);obtain⟨t0,t1,t2,t3⟩:=B9.o.cells;clear h9 KU1;go_wp2_with fail;refine KU2.o.mono ?_;rintro r0 w10⟨rfl,h10⟩;have S10:=aa (bf S9.o h10);have KY10:=aa (KY.o w10);have feq:(u.toList==u.toList)=true:=beq_self_eq_true _;have fe:((e:Int)==(e:Int))=true:=beq_self_eq_true _;clear h10 KU2;go_wp2_with fail;refine KY10.o.mono ?_;rintro r0 w11⟨rfl,h11⟩;have S11:=aa (bf S10.o h11);clear h11;go_wp2_with fail;go_ret;exact⟨rfl,S11.o⟩
