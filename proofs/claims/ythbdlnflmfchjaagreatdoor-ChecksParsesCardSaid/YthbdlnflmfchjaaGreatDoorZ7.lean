/- The library's Contains over strings: its contract, laid. -/
import Derived.Test.YthbdlnflmfchjaaGreatDoorV5
import Derived.Shelf.Slices.Turned
import Derived.OwnWalk
import Derived.Shelf.Strings.BuilderK
namespace Go.Proofs.YthbdlnflmfchjaaGreatDoor
open Go.Proofs.Tryz
open Go Go.Shelf Go.RowKit Go.Proofs.Fm Go.Proofs.MapEnt
set_option maxHeartbeats 6400000
set_option maxRecDepth 1000000
def Tryz.lays110_ren:Go.Shelf.Ren:=⟨fun|110=>97|109=>171|n=>n,fun|31=>70|9=>9|4=>4|3=>3|0=>0|n=>n,fun|n=>n⟩
theorem Tryz.lays110 : Go.Proofs.Lays.n110 prog Tryz.lays110_ren := {
  mixed := by kernel_rfl
  f109 := func171.trans (congrArg some (by kernel_rfl))
  f110 := func97.trans (congrArg some (by kernel_rfl))
  t0 := underlying0
  a0 := isAgg0
  z0 := sizeOf0
  v0 := zeroValue0
  t3 := underlying3
  a3 := isAgg3
  z3 := sizeOf3
  v3 := zeroValue3
  t4 := underlying4
  a4 := isAgg4
  z4 := sizeOf4
  v4 := zeroValue4
  t9 := underlying9
  a9 := isAgg9
  z9 := sizeOf9
  v9 := zeroValue9
  t31 := underlying70
  a31 := isAgg70
  z31 := sizeOf70
  v31 := zeroValue70 }
theorem ji(ss:List BA)(x:BA)(b c:Nat)(w:World)(hn:ss.length≤1000)(hc:∀j(h:j<ss.length),w.cell? ⟨b,j,none⟩=some (.string ss[j])):Calls prog 97 #[.slice (some ⟨b,0,none⟩) ss.length c,.string x] w fun e w'=>e=.returned (.bool (ss.any fun s=>decide (s=x)))∧w'=w:=by
 have h:=Any.slices_Contains_string Tryz.lays110 b 0 ss.length c ss x w (ai _) (by omega) (fun j hj=>by have h:=hc j hj;rw[Nat.zero_add,h];simp[List.getD,hj]);rw[List.take_length]at h;refine h.mono fun e w'⟨he,hw⟩=>⟨?_,hw⟩;rw[he,show Lib.containsS ss x=ss.any fun s=>decide (s=x)by rw[Bool.eq_iff_iff,List.any_eq_true];refine(Lib.containsS_iff ss x).trans ⟨fun h=>⟨x,h,by simp⟩,fun⟨y,hy,e⟩=>?_⟩;obtain rfl:=of_decide_eq_true e;exact hy]
theorem jD(w:World)(pb c e n:Nat)(G:Option Addr)(l:List Wd)(h:PsAt w pb G c l e n):Calls prog 169 #[.pointer (some ⟨pb,0,none⟩)] w fun r w'=>r=.returned (kj l e n)∧w.Since w.heap.size w':=by
 have hpb:pb<w.heap.size:=h.lt;have k0:∀o,(w.alloc o).cell? ⟨pb,0,none⟩=some (.slice G l.length c):=fun o=>(av w o _ hpb).trans h.c0;have k1:∀o,(w.alloc o).cell? ⟨pb,1,none⟩=some (.int .i64 (n:Nat)):=fun o=>(av w o _ hpb).trans h.c1;have k2:∀o,(w.alloc o).cell? ⟨pb,2,none⟩=some (.int .i64 (e:Nat)):=fun o=>(av w o _ hpb).trans h.c2;have HW:=aa h.at_;clear h;by_cases hlt:n<l.length;·
  rw[Aq hlt];obtain⟨g,rfl,hg,a0,a1,a2,a3,a4,a5,a6⟩:=HW.o n hlt;have b0:∀o,(w.alloc o).cell? ⟨g,n*7,none⟩=_:=fun o=>(av w o _ hg).trans a0;have b1:∀o,(w.alloc o).cell? ⟨g,n*7+1,none⟩=_:=fun o=>(av w o _ hg).trans a1;have b2:∀o,(w.alloc o).cell? ⟨g,n*7+2,none⟩=_:=fun o=>(av w o _ hg).trans a2;have b3:∀o,(w.alloc o).cell? ⟨g,n*7+3,none⟩=_:=fun o=>(av w o _ hg).trans a3;have b4:∀o,(w.alloc o).cell? ⟨g,n*7+4,none⟩=_:=fun o=>(av w o _ hg).trans a4;have b5:∀o,(w.alloc o).cell? ⟨g,n*7+5,none⟩=_:=fun o=>(av w o _ hg).trans a5;have b6:∀o,(w.alloc o).cell? ⟨g,n*7+6,none⟩=_:=fun o=>(av w o _ hg).trans a6;unfold OY;generalize l[n]=x at*;have hltI:(n:Int)<(l.length:Int):=by omega
  clear HW a0 a1 a2 a3 a4 a5 a6;go_enter func169,ntmps169;go_wp2_with fail;go_region;go_wp2_with fail;go_region;go_wp2_with fail;exact au (v:=.agg #[.int .i64 (x.place:Nat),.string (wS x),.bool (vC x),.int .i64 (wN x:Nat),.bool (xX x),.string (wT x),.bool false]) (by simp[results,results169,go_sem]) rfl ⟨rfl,((ah w.heap.size w).alloc (ai _) _).drew.drew⟩
 ·
  rw[Ar hlt];unfold F8;have hltI:¬(n:Int)<(l.length:Int):=by omega
  clear HW;go_enter func169,ntmps169;go_wp2_with fail;go_region;go_wp2_with fail;exact au (v:=.agg #[.int .i64 (e:Nat),.string ⟨#[]⟩,.bool false,.int .i64 0,.bool false,.string ⟨#[]⟩,.bool false]) (by simp[results,results169,go_sem]) rfl ⟨rfl,((ah w.heap.size w).alloc (ai _) _).drew⟩
theorem GJ(x:Wd)(w:World):(Instr.field 100 (OY x) 0).run prog w=.ok (.int .i64 (x.place:Nat)) w:=by unfold OY;kernel_rfl
theorem DT(e:Nat)(w:World):(Instr.field 100 (F8 e) 0).run prog w=.ok (.int .i64 (e:Nat)) w:=by unfold F8;kernel_rfl
theorem AF(l:List Wd)(e n:Nat)(w:World):(Instr.field 100 (kj l e n) 0).run prog w=.ok (.int .i64 (aW l e n:Nat)) w:=by
 unfold kj aW;cases l[n]? with
 |some x=>exact GJ _ w
 |none=>exact DT _ w
def dN(p:Nat):Ending:=.panicked [{v:=.iface 173 (.agg #[.int .i64 (p:Nat)]),recovered:=false}]
theorem oZ(w:World)(pb c e n:Nat)(G:Option Addr)(l:List Wd)(h:PsAt w pb G c l e n):Calls prog 92 #[.pointer (some ⟨pb,0,none⟩)] w fun r w'=>r=dN (aW l e n)∧w.Since w.heap.size w':=by unfold dN;have KP:=aa (jD w pb c e n G l h);have HF:=AF l e n;generalize kj l e n=u at*;generalize aW l e n=p at*;clear h;go_enter func92,ntmps92;go_wp2_with fail;refine KP.o.mono ?_;rintro r w1⟨rfl,hs⟩;have S1:=aa hs;clear hs KP;go_wp2_with fail;exact⟨rfl,rfl,S1.o⟩
def fR(l:List Wd)(n:Nat)(ss:List BA):Bool:=ss.any fun s=>isW l n s
def Full(l:List Wd):Prop:=∀x∈l,x.kind=.letters∨x.kind=.sign→x.text≠ByteArray.empty
def bw(l:List Wd)(n:Nat):BA:=match l[n]? with|some x=>wS x|none=>ByteArray.empty
theorem Jm{l:List Wd}(hF:Full l)(n:Nat)(ss:List BA):(!decide (bw l n=ByteArray.empty)&&ss.any fun s=>decide (s=bw l n))=fR l n ss:=by
 unfold bw fR isW;cases hx:l[n]? with
 |none=>simp
 |some x=>
   have hm:x∈l:=by obtain⟨h,rfl⟩:=aQ.1 hx;exact List.getElem_mem h
   have hf:=hF x hm;obtain⟨k,tx,pl⟩:=x;dsimp only at hf⊢;have hc:∀s:BA,decide (s=tx)=decide (tx=s):=fun s=>by rw[Bool.eq_iff_iff,decide_eq_true_eq,decide_eq_true_eq];exact eq_comm
   cases k with
   |letters=>have:=hf (.inl rfl);simp only[wS,this,decide_false,Bool.not_false,Bool.true_and,decide_true,Bool.true_or];congr 1;funext s;exact hc s
   |sign=>have:=hf (.inr rfl);simp only[wS,this,decide_false,Bool.not_false,Bool.true_and,decide_true,Bool.or_true];congr 1;funext s;exact hc s
   |number=>simp[wS]
   |string=>simp[wS]
theorem eR{t:BA}(h:¬t=ByteArray.empty):t.toList.isEmpty=false:=by
 cases e:t.toList.isEmpty with
 |false=>rfl
 |true=>rw[Lib.toList_data]at e;exact absurd (Go.WideShapes.bytes_inj (a:=t) (b:=ByteArray.empty) (by rw[List.isEmpty_iff.1 e];rfl)) h
def dc(w:World)(b:Nat)(ss:List BA):Prop:=b<w.heap.size∧∀j(h:j<ss.length),w.cell? ⟨b,j,none⟩=some (.string ss[j])
theorem dc.up{w w':World}{b:Nat}{ss:List BA}(h:dc w b ss)(hs:w.Since w.heap.size w'):dc w' b ss:=⟨aw h.1 hs.size,fun j hj=>(hs.cell (a:=⟨b,j,none⟩) h.1).trans (h.2 j hj)⟩
theorem o_(l:List Wd)(e n:Nat):∃p a b c d f,kj l e n=.agg #[.int .i64 (p:Nat),.string (bw l n),.bool a,.int .i64 (b:Nat),.bool c,.string d,.bool f]:=by
 unfold kj bw;cases l[n]? with
 |some x=>exact⟨_,_,_,_,_,_,rfl⟩
 |none=>exact⟨_,_,0,_,_,_,rfl⟩
theorem MN{P:Prop}(h:P:=by
 go_wp2_with fail;go_ret;exact⟨by rw[hR.o];rfl,S1.o.alloc S1.o.size _⟩):P:=h
theorem Jn(w:World)(pb c e n:Nat)(G:Option Addr)(l:List Wd)(h:PsAt w pb G c l e n)(hF:Full l)(ss:List BA)(sb sc:Nat)(hs:dc w sb ss)(hss:ss.length≤1000):Calls prog 274 #[.pointer (some ⟨pb,0,none⟩),.slice (some ⟨sb,0,none⟩) ss.length sc] w fun r w'=>r=.returned (.bool (fR l n ss))∧w.Since w.heap.size w':=by
 have KP:=aa (jD w pb c e n G l h);have HE:=aa (Jm hF n ss);have HS:=aa hs;obtain⟨p,a,b,cc,d,f,e1⟩:=o_ l e n;rw[e1]at KP;generalize bw l n=t at*;generalize fR l n ss=R at*;clear h hs e1;by_cases ht:t=ByteArray.empty;·
  have hR:Hid (R=false):=aa (by rw[←HE.o,aB ht];rfl);subst ht;clear HE;go_enter func274,ntmps274;go_wp2_with fail;refine KP.o.mono ?_;rintro r w1⟨rfl,hs⟩;have S1:=aa hs;clear hs KP;exact MN
 ·have hR:Hid (R=ss.any fun s=>decide (s=t)):=aa (by rw[←HE.o,aA ht];rfl);clear HE;go_enter func274,ntmps274;go_wp2_with fail;refine KP.o.mono ?_;rintro r w1⟨rfl,hs⟩;have S1:=aa hs;have hE:=eR ht;have KC:=aa (fun wx(hx:w1.Since w1.heap.size wx)=>ji ss t sb sc wx hss ((HS.o.up S1.o).up hx).2);clear hs KP ht;go_wp2_with fail;refine(KC.o _ ((ah _ _).alloc (ai _) _)).mono ?_;rintro r w2⟨rfl,rfl⟩;exact MN
theorem Cs{l:List Wd}{n:Nat}{ss:List BA}(h:fR l n ss=true):n<l.length:=by obtain⟨s,_,hs⟩:=List.any_eq_true.1 h;exact du hs
theorem GK{l:List Wd}{n:Nat}(h:n<l.length):bw l n=wS l[n]:=by unfold bw;rw[aD h]
def fm(w:World)(pb:Nat)(G:Option Addr)(c:Nat)(l:List Wd)(e n:Nat)(ss:List BA)(r:Ending)(w':World):Prop:=bE w pb w'∧(fR l n ss=true→r=.returned (.tuple #[.string (bw l n),.bool true])∧PsAt w' pb G c l e (n+1))∧(fR l n ss=false→r=.returned (.tuple #[.string ByteArray.empty,.bool false])∧PsAt w' pb G c l e n)
theorem Jo{w w':World}{pb c e n:Nat}{G:Option Addr}{l:List Wd}{ss:List BA}(hR:fR l n ss=false)(hs:w.Since w.heap.size w')(h:PsAt w pb G c l e n):fm w pb G c l e n ss (.returned (.tuple #[.string ByteArray.empty,.bool false])) w':=by
 unfold fm;exact⟨(bE.refl w pb).since hs,fun h=>(by rw[hR]at h;cases h),fun _=>⟨rfl,h.up hs⟩⟩
theorem GL{w w':World}{pb c e n:Nat}{G:Option Addr}{l:List Wd}{ss:List BA}(hR:fR l n ss=true)(ha:bE w pb w')(h:PsAt w' pb G c l e (n+1)):fm w pb G c l e n ss (.returned (.tuple #[.string (bw l n),.bool true])) w':=by
 unfold fm;exact⟨ha,fun _=>⟨rfl,h⟩,fun h=>(by rw[hR]at h;cases h)⟩
theorem ga(w:World)(pb c e n:Nat)(G:Option Addr)(l:List Wd)(h:PsAt w pb G c l e n)(hF:Full l)(hl:l.length≤100000)(ss:List BA)(sb sc:Nat)(hs:dc w sb ss)(hss:ss.length≤1000):Calls prog 235 #[.pointer (some ⟨pb,0,none⟩),.slice (some ⟨sb,0,none⟩) ss.length sc] w (fm w pb G c l e n ss):=by
 have KI:=aa (Jn w pb c e n G l h hF ss sb sc hs hss);have HP:=aa h;clear hs;by_cases hR:fR l n ss=true;·
  have hn:=Cs hR;have hS:=GK hn;have QY:=aa (fun w'=>GL (w:=w) (w':=w') (pb:=pb) (c:=c) (e:=e) (G:=G) hR);rw[hR]at KI;rw[hS]at QY;generalize hQ:fm w pb G c l e n ss=Q at*;clear hR h hQ hS;go_enter func235,ntmps235;go_wp2_with fail;refine KI.o.mono ?_;rintro r w1⟨rfl,hs⟩;have S1:=aa hs;have P1:=aa (HP.o.up hs);have k1:=P1.o.c1;have f1:=P1.o.fz;obtain⟨g,rfl,hg,_,a1,_⟩:=P1.o.at_ n hn;have P2:=aa (P1.o.set (n+1));have b0:=P2.o.c0;have b1:=P2.o.c1;obtain⟨g',e1,hg2,_,b2,_⟩:=P2.o.at_ n hn;obtain rfl:g=g':=by injection e1 with e1;injection e1
  have e3:((n+1:Nat):Int)=(n:Int)+1:=by omega
  rw[e3]at b1;simp only[e3]at b0 b1 b2;have z1:IntKind.i64.wrap (n:Int)=(n:Int):=ax _ (by omega);have z2:IntKind.i64.wrap ((n:Int)+1-1)=(n:Int):=(ax _ (by omega)).trans (by omega);have hnI:(n:Int)<(l.length:Int):=by omega
  clear hs KI e1;go_wp2_with fail;go_region;go_wp2_with fail;exact QY.o _ ((((bE.refl w pb).since S1.o).trans (bE.set w1 pb 1 _)).since (ah _ _).drew) (P2.o.up (ah _ _).drew)
 ·have hR:=aC.2 hR;have QN:=aa (fun w'=>Jo (w:=w) (w':=w') (pb:=pb) (c:=c) (e:=e) (n:=n) (G:=G) (l:=l) (ss:=ss) hR);rw[hR]at KI;generalize hQ:fm w pb G c l e n ss=Q at*;clear hR hQ h;go_enter func235,ntmps235;go_wp2_with fail;refine KI.o.mono ?_;rintro r w1⟨rfl,hs⟩;have S1:=aa hs;clear hs KI;go_wp2_with fail;exact QN.o _ S1.o HP.o
structure kB where
 name:BA
 args:List Int
 gives:Int
 fn:Nat deriving DecidableEq
def qk(x:kB)(b:Nat):Value:=.agg #[.slice (some ⟨b,0,none⟩) x.args.length x.args.length,.int .u8 x.gives,.func (.func x.fn) #[] #[]]
def Ct(p:kB×Nat):Value×Value:=(.string p.1.name,qk p.1 p.2)
def eD(x:kB):Obj:=.cells (x.args.map (Value.int .u8)).toArray 104
structure iF(w0 w:World)(m:Nat)(l:List (kB×Nat)):Prop where
 map:eF prog 9 w m (l.map Ct)
 row:∀p∈l,w0.heap.size≤p.2∧p.2≠m∧w.heap[p.2]?=some (eD p.1)
 low:w0.heap.size≤m
 since:w0.Since w0.heap.size w
theorem iF.new(w:World):iF w (w.alloc (.map #[] 0)) w.heap.size []:=⟨eF.new _ _ _,fun _ h=>(by cases h),ai _,(ah _ _).alloc (ai _) _⟩
theorem iF.up{w0 w w':World}{m:Nat}{l:List (kB×Nat)}(h:iF w0 w m l)(hs:w.Since w.heap.size w'):iF w0 w' m l:=⟨h.map.same (hs.block m h.map.lt),fun p hp=>by obtain⟨h1,h2,h3⟩:=h.row p hp;exact⟨h1,h2,(hs.block _ (aE.1 h3).1).trans h3⟩,h.low,h.since.trans ⟨hs.os,hs.tape,hs.output,hs.size,fun k hk=>hs.block k (aw hk h.since.size)⟩⟩
theorem Jp{w0 w:World}{m:Nat}{l:List (kB×Nat)}(h:iF w0 w m l)(x:kB)(hnew:∀p∈l,p.1.name≠x.name)(hsz:x.name.size≤maxLen):∃w',(Instr.mapUpdate 147 (.map (some m)) (.string x.name) (qk x w.heap.size)).run prog (w.alloc (eD x))=.ok () w'∧iF w0 w' m (l++[(x,w.heap.size)]):=by
 have hs:w.Since w.heap.size (w.alloc (eD x)):=(ah _ _).alloc (ai _) _;obtain⟨w',l',r1,r2,r3,r4,r5,r6,r7,r8⟩:=(h.up hs).map.put (e:=146) (t:=147) (Maps.string_keyed underlying9) underlying147 (key:=.string x.name) (val:=qk x w.heap.size) (WideMaps.keyOf_string_mk underlying9 hsz);refine⟨w',r1,?_,?_,h.low,?_⟩;·
  rcases r8 with⟨_,rfl⟩|⟨l1,l2,old,e,_⟩;·rw[List.map_append];exact r2
  ·
   have:(Value.string x.name,old)∈l.map Ct:=by rw[e];simp
   obtain⟨p,hp,e⟩:=List.mem_map.1 this;unfold Ct at e;injection e with e _;injection e with e;exact absurd e (hnew p hp)
 ·
  intro p hp;have hml:=h.map.lt;rcases List.mem_append.1 hp with hp|hp;·obtain⟨h1,h2,h3⟩:=(h.up hs).row p hp;exact⟨h1,h2,(r7 _ h2).trans h3⟩
  ·obtain rfl:=aK.1 hp;exact⟨h.since.size,fun e=>by dsimp only at e;omega,(r7 _ (by dsimp only;omega)).trans (aq w _)⟩
 ·have h1:=(h.up hs).since;exact⟨r3.trans h1.os,r4.trans h1.tape,r5.trans h1.output,by rw[r6];exact h1.size,fun k hk=>(r7 k (by have:=h.low;omega)).trans (h1.block k hk)⟩
def ly:kB:=⟨⟨#[119,111,114,100,115]⟩,[4],3,120⟩
def me:kB:=⟨⟨#[116,97,103,115]⟩,[4],3,123⟩
def mZ:kB:=⟨⟨#[104,111,108,101,115]⟩,[4],3,125⟩
def oe:kB:=⟨⟨#[110,117,109,98,101,114,115]⟩,[4],3,127⟩
def pd:kB:=⟨⟨#[116,101,120,116]⟩,[4],2,129⟩
def qm:kB:=⟨⟨#[108,101,110,103,116,104]⟩,[4],1,131⟩
def sD:kB:=⟨⟨#[115,105,122,101]⟩,[3],1,133⟩
def ta:kB:=⟨⟨#[102,105,114,115,116]⟩,[3],2,134⟩
def vL:kB:=⟨⟨#[108,97,115,116]⟩,[3],2,136⟩
def yv:kB:=⟨⟨#[99,111,117,110,116]⟩,[3,2],1,137⟩
def sE:kB:=⟨⟨#[108,111,119,101,114]⟩,[2],2,139⟩
def r_:kB:=⟨⟨#[104,97,115]⟩,[4,2],5,141⟩
def yw:kB:=⟨⟨#[115,116,97,114,116,115]⟩,[2,2],5,143⟩
def Cu:kB:=⟨⟨#[101,110,100,115]⟩,[2,2],5,144⟩
def GM:kB:=⟨⟨#[104,111,108,100,115]⟩,[2,2],5,146⟩
def fW:List kB:=[ly,me,mZ,oe,pd,qm,sD,ta,vL,yv,sE,r_,yw,Cu,GM]
theorem dJ{w0 w:World}{m:Nat}(l:List (kB×Nat))(h:iF w0 w m l)(es:List kB)(he:l.map (·.1)=es)(x:kB)(hnew:(es.map (·.name)).all (fun y=>decide (y≠x.name))=true)(hsz:x.name.size≤maxLen):∃w' l',(Instr.mapUpdate 147 (.map (some m)) (.string x.name) (qk x w.heap.size)).run prog (w.alloc (eD x))=.ok () w'∧Hid (iF w0 w' m l')∧Hid (l'.map (·.1)=es++[x]):=by
 obtain⟨w',h1,h2⟩:=Jp h x (fun p hp e=>by
  have:=List.all_eq_true.1 hnew p.1.name (List.mem_map.2 ⟨p.1,by rw[←he];exact List.mem_map.2 ⟨p,hp,rfl⟩,rfl⟩);exact of_decide_eq_true this e) hsz;exact⟨w',_,h1,aa h2,aa (by rw[List.map_append,he];rfl)⟩
theorem DU(w:World):∃w' m,(Instr.makeMap 147 none).run prog w=.ok (.map (some m)) w'∧Hid (iF w w' m []):=⟨_,_,rfl,aa (iF.new w)⟩
theorem iG(w:World):Calls prog 71 #[] w fun r w'=>∃m l,r=.returned (.map (some m))∧iF w w' m l∧l.map (·.1)=fW:=by obtain⟨w0,m,r0,T0⟩:=DU w;obtain⟨w1,l1,r1,T1,E1⟩:=dJ [] T0.o [] rfl ly (by decide+kernel) (by decide+kernel);obtain⟨w2,l2,r2,T2,E2⟩:=dJ l1 T1.o [ly] E1.o me (by decide+kernel) (by decide+kernel);obtain⟨w3,l3,r3,T3,E3⟩:=dJ l2 T2.o [ly,me] E2.o mZ (by decide+kernel) (by decide+kernel);obtain⟨w4,l4,r4,T4,E4⟩:=dJ l3 T3.o [ly,me,mZ] E3.o oe (by decide+kernel) (by decide+kernel);obtain⟨w5,l5,r5,T5,E5⟩:=dJ l4 T4.o [ly,me,mZ,oe] E4.o pd (by decide+kernel) (by decide+kernel);obtain⟨w6,l6,r6,T6,E6⟩:=dJ l5 T5.o [ly,me,mZ,oe,pd] E5.o qm (by decide+kernel) (by decide+kernel);obtain⟨w7,l7,r7,T7,E7⟩:=dJ l6 T6.o [ly,me,mZ,oe,pd,qm] E6.o sD (by decide+kernel) (by decide+kernel);obtain⟨w8,l8,r8,T8,E8⟩:=dJ l7 T7.o [ly,me,mZ,oe,pd,qm,sD] E7.o ta (by decide+kernel) (by decide+kernel);obtain⟨w9,l9,r9,T9,E9⟩:=dJ l8 T8.o [ly,me,mZ,oe,pd,qm,sD,ta] E8.o vL (by decide+kernel) (by decide+kernel);obtain⟨w10,l10,Qt,T10,E10⟩:=dJ l9 T9.o [ly,me,mZ,oe,pd,qm,sD,ta,vL] E9.o yv (by decide+kernel) (by decide+kernel);obtain⟨w11,l11,Qu,T11,E11⟩:=dJ l10 T10.o [ly,me,mZ,oe,pd,qm,sD,ta,vL,yv] E10.o sE (by decide+kernel) (by decide+kernel);obtain⟨w12,l12,Qv,T12,E12⟩:=dJ l11 T11.o [ly,me,mZ,oe,pd,qm,sD,ta,vL,yv,sE] E11.o r_ (by decide+kernel) (by decide+kernel);obtain⟨w13,l13,Qw,T13,E13⟩:=dJ l12 T12.o [ly,me,mZ,oe,pd,qm,sD,ta,vL,yv,sE,r_] E12.o yw (by decide+kernel) (by decide+kernel);obtain⟨w14,l14,Qx,T14,E14⟩:=dJ l13 T13.o [ly,me,mZ,oe,pd,qm,sD,ta,vL,yv,sE,r_,yw] E13.o Cu (by decide+kernel) (by decide+kernel);obtain⟨w15,l15,Qy,T15,E15⟩:=dJ l14 T14.o [ly,me,mZ,oe,pd,qm,sD,ta,vL,yv,sE,r_,yw,Cu] E14.o GM (by decide+kernel) (by decide+kernel);clear T0 T1 T2 T3 T4 T5 T6 T7 T8 T9 T10 T11 T12 T13 T14 E1 E2 E3 E4 E5 E6 E7 E8 E9 E10 E11 E12 E13 E14;dsimp only[List.map,List.toArray,List.length,qk,eD,ly,me,mZ,oe,pd,qm,sD,ta,vL,yv,sE,r_,yw,Cu,GM]at r1 r2 r3 r4 r5 r6 r7 r8 r9 Qt Qu Qv Qw Qx Qy;go_enter func71,ntmps71;go_wp2_with fail;go_ret;exact⟨m,l15,rfl,T15.o,E15.o⟩
def dx(s:BA):Option kB:=fW.find? fun x=>decide (x.name=s)
theorem DV{x:kB}(h:x∈fW):dx x.name=some x:=(by decide+kernel:∀x∈fW,dx x.name=some x) x h
def jY:Value:=.agg #[.slice none 0 0,.int .u8 0,.nilFunc]
theorem nZ{w0 w:World}{m:Nat}{l:List (kB×Nat)}(h:iF w0 w m l)(hl:l.map (·.1)=fW)(s:BA)(hs:s.size≤maxLen):(dx s=none∧(Instr.lookup 147 (.map (some m)) (.string s) true).run prog w=.ok (.tuple #[jY,.bool false]) w∧(Instr.lookup 147 (.map (some m)) (.string s) false).run prog w=.ok jY w)∨∃x b,dx s=some x∧(x,b)∈l∧(Instr.lookup 147 (.map (some m)) (.string s) true).run prog w=.ok (.tuple #[qk x b,.bool true]) w∧(Instr.lookup 147 (.map (some m)) (.string s) false).run prog w=.ok (qk x b) w:=by
 rcases h.map.lookup (e:=146) (t:=147) (Maps.string_keyed underlying9) underlying147 (z:=jY) (by kernel_rfl) (key:=.string s) (WideMaps.keyOf_string_mk underlying9 hs)with⟨⟨r1,r2⟩,r3⟩|⟨v,⟨r1,r2⟩,r3⟩;·
  refine .inl ⟨?_,r1,r2⟩;unfold dx;rw[List.find?_eq_none];intro x hx e;rw[←hl]at hx;obtain⟨p,hp,rfl⟩:=List.mem_map.1 hx;exact r3 _ (List.mem_map.2 ⟨p,hp,rfl⟩) (by rw[←of_decide_eq_true e];rfl)
 ·obtain⟨⟨x,b⟩,hp,e⟩:=List.mem_map.1 r3;unfold Ct at e;injection e with e1 e2;injection e1 with e1;dsimp only at e1 e2;subst e1 e2;exact .inr ⟨x,b,DV (by rw[←hl];exact List.mem_map.2 ⟨_,hp,rfl⟩),hp,r1,r2⟩
def k_:List BA:=[JI,v_,sNot,sAll,i_,qp,dU,dV]
def eU:List BA:=[⟨#[61,61]⟩,⟨#[33,61]⟩,⟨#[60,61]⟩,⟨#[62,61]⟩,⟨#[60]⟩,⟨#[62]⟩,⟨#[105,110]⟩,⟨#[126]⟩]
def lang : dL where
  kept s := (dx s).isSome || k_.any fun x => decide (x = s)
  test s := match dx s with | some x => decide (x.gives = 5) | none => false
  func s := match dx s with | some x => !decide (x.gives = 5) | none => false
  oper s := eU.any fun x => decide (x = s)
theorem DW(x:kB)(b:Nat)(w:World):(Instr.field 146 (qk x b) 1).run prog w=.ok (.int .u8 x.gives) w:=by unfold qk;kernel_rfl
theorem AG(w:World):(Instr.field 146 jY 1).run prog w=.ok (.int .u8 0) w:=by unfold jY;kernel_rfl
theorem uy(w:World)(s:BA)(hs:s.size≤maxLen):Calls prog 278 #[.string s] w fun r w'=>r=.returned (.bool (lang.test s))∧w.Since w.heap.size w':=by
 have KC:=aa (iG w);go_enter func278,ntmps278;go_wp2_with fail;refine KC.o.mono ?_;rintro r w1⟨m,l,rfl,hT,hl⟩;have S1:=aa hT.since;rcases nZ hT hl s hs with⟨e1,_,e2⟩|⟨x,b,e1,_,_,e2⟩;·
  have hf:=AG;have HR:Hid (lang.test s=false):=aa (by unfold lang;dsimp only;rw[e1]);clear hT KC;go_wp2_with fail;go_ret;exact⟨by rw[HR.o];rfl,S1.o⟩
 ·have hf:=DW x b;have HR:Hid (lang.test s=decide (x.gives=5)):=aa (by unfold lang;dsimp only;rw[e1]);clear hT KC;go_wp2_with fail;go_ret;exact⟨by rw[HR.o];rfl,S1.o⟩
theorem GN{P:Prop}(h:P:=by
 clear hT KC;go_wp2_with fail;go_ret;exact⟨by rw[HR.o];rfl,S1.o.alloc S1.o.size _⟩):P:=h
theorem mu(w:World)(s:BA)(hs:s.size≤maxLen):Calls prog 358 #[.string s] w fun r w'=>r=.returned (.bool (lang.func s))∧w.Since w.heap.size w':=by
 have KC:=aa (iG w);go_enter func358,ntmps358;go_wp2_with fail;refine KC.o.mono ?_;rintro r w1⟨m,l,rfl,hT,hl⟩;have S1:=aa hT.since;rcases nZ hT hl s hs with⟨e1,e2,_⟩|⟨x,b,e1,_,e2,_⟩;·
  unfold jY at e2;have HR:Hid (lang.func s=false):=aa (by unfold lang;dsimp only;rw[e1]);exact GN
 ·unfold qk at e2;have HR:Hid (lang.func s=!decide (x.gives=5)):=aa (by unfold lang;dsimp only;rw[e1]);exact GN
theorem dc.made(w:World)(ss:List BA):dc (w.alloc (.cells (ss.map Value.string).toArray 9)) w.heap.size ss:=by refine⟨by simp,fun j hj=>?_⟩;unfold World.cell?;rw[aq];simp[hj]
theorem nW(w:World)(s:BA)(hs:s.size≤maxLen):Calls prog 86 #[.string s] w fun r w'=>r=.returned (.bool (lang.kept s))∧w.Since w.heap.size w':=by
 have KC:=aa (iG w);go_enter func86,ntmps86;go_wp2_with fail;refine KC.o.mono ?_;rintro r w1⟨m,l,rfl,hT,hl⟩;have S1:=aa hT.since;rcases nZ hT hl s hs with⟨e1,e2,_⟩|⟨x,b,e1,_,e2,_⟩;·
  unfold jY at e2;have HR:Hid (lang.kept s=k_.any fun x=>decide (x=s)):=aa (by unfold lang;dsimp only;rw[e1];rfl);have KK:=aa (fun o=>ji k_ s (w1.heap.size+1) 8 ((w1.alloc o).alloc (.cells (k_.map Value.string).toArray 9)) (by decide) (by have h:=(dc.made (w1.alloc o) k_).2;rw[show(w1.alloc o).heap.size=w1.heap.size+1 by simp]at h;exact h));clear hT KC;go_wp2_with fail;refine(KK.o _).mono ?_;rintro r w2⟨rfl,rfl⟩;go_wp2_with fail;go_ret;exact⟨by rw[HR.o];rfl,(S1.o.alloc S1.o.size _).alloc (S1.o.alloc S1.o.size _).size _⟩
 ·unfold qk at e2;have HR:Hid (lang.kept s=true):=aa (by unfold lang;dsimp only;rw[e1];rfl);exact GN
structure Ok(x:Wd):Prop where
 letters:x.kind=.letters→0<x.text.size∧97≤bc x.text 0∧bc x.text 0≤122
 sign:x.kind=.sign→0<x.text.size∧¬(97≤bc x.text 0∧bc x.text 0≤122)
 size:x.text.size≤maxLen
structure WsOk(l:List Wd):Prop where
 all:∀x∈l,Ok x
 len:l.length≤100000
theorem WsOk.full{l:List Wd}(h:WsOk l):Full l:=fun x hx hk e=>by
 rcases hk with hk|hk;·have:=((h.all x hx).letters hk).1;rw[e]at this;exact absurd this (by decide)
 ·have:=((h.all x hx).sign hk).1;rw[e]at this;exact absurd this (by decide)
def ei(w:World)(pb:Nat)(G:Option Addr)(c:Nat)(l:List Wd)(e n:Nat)(w':World):Prop:=bE w pb w'∧PsAt w' pb G c l e n
theorem dK(l:List Wd)(n:Nat)(s:BA):fR l n [s]=isW l n s:=by unfold fR;simp
def GO(w:World)(pb p:Nat)(r:Ending)(w':World):Prop:=r=dN p∧bE w pb w'
def og(w:World)(pb:Nat)(G:Option Addr)(c:Nat)(l:List Wd)(e n:Nat)(s:BA)(r:Ending)(w':World):Prop:=(isW l n s=true→r=.returned (.tuple #[])∧ei w pb G c l e (n+1) w')∧(isW l n s=false→GO w pb (aW l e n) r w')
theorem lV(w:World)(pb c e n:Nat)(G:Option Addr)(l:List Wd)(h:PsAt w pb G c l e n)(hl:WsOk l)(s:BA):Calls prog 276 #[.pointer (some ⟨pb,0,none⟩),.string s] w (og w pb G c l e n s):=by
 have hA:=dc.made w [s];have hs:w.Since w.heap.size (w.alloc (.cells #[.string s] 9)):=(ah _ _).alloc (ai _) _;have KT:=aa (ga (w.alloc (.cells #[.string s] 9)) pb c e n G l (h.up hs) hl.full hl.len [s] w.heap.size 1 hA (by simp));have KF:=aa (fun w1(hp:PsAt w1 pb G c l e n)=>oZ w1 pb c e n G l hp);have HA:=aa hs;unfold fm at KT;rw[dK]at KT;by_cases hR:isW l n s=true;·
  have HQ:Hid (∀w',ei w pb G c l e (n+1) w'→og w pb G c l e n s (.returned (.tuple #[])) w'):=aa (fun w' hw=>⟨fun _=>⟨rfl,hw⟩,fun h=>by rw[hR]at h;cases h⟩);generalize hQ:og w pb G c l e n s=Q at*;rw[hR]at KT;clear hQ hR h hA hs;go_enter func276,ntmps276;go_wp2_with fail;refine KT.o.mono ?_;rintro r w1⟨h1,h2,_⟩;obtain⟨rfl,h3⟩:=h2 trivial;have H1:=aa h1;have H3:=aa h3;clear h1 h2 h3 KT;go_wp2_with fail;exact bodyPost_end (results_none (by kernel_rfl) _ _ _) rfl (HQ.o _ ⟨((bE.refl w pb).since HA.o).trans H1.o,H3.o⟩)
 ·have HQ:Hid (∀w',bE w pb w'→og w pb G c l e n s (dN (aW l e n)) w'):=aa (fun w' hw=>⟨fun h=>absurd h hR,fun _=>⟨rfl,hw⟩⟩);generalize hQ:og w pb G c l e n s=Q at*;rw[aC.2 hR]at KT;clear hQ hR h hA hs;go_enter func276,ntmps276;go_wp2_with fail;refine KT.o.mono ?_;rintro r w1⟨h1,_,h2⟩;obtain⟨rfl,h3⟩:=h2 trivial;have H1:=aa h1;have KF2:=aa (KF.o w1 h3);clear h1 h2 h3 KT KF;go_wp2_with fail;refine KF2.o.mono ?_;rintro r w2⟨rfl,hs⟩;have S2:=aa hs;clear hs;unfold dN;go_wp2_with fail;exact⟨rfl,HQ.o _ ((((bE.refl w pb).since HA.o).trans H1.o).since S2.o)⟩
theorem iI{l:List Wd}(h:WsOk l)(n:Nat):(bw l n).size≤maxLen:=by
 unfold bw;cases hx:l[n]? with
 |none=>exact aI _
 |some x=>
  have hm:x∈l:=by obtain⟨h,rfl⟩:=aQ.1 hx;exact List.getElem_mem h
  have:=(h.all x hm).size;unfold wS;dsimp only;split;·exact this
  ·exact this
  ·exact aI _
theorem yx{t:BA}(h:¬t=ByteArray.empty):0<t.size:=by
 rcases Nat.eq_zero_or_pos t.size with h0|h0;·exact absurd (ByteArray.size_eq_zero_iff.1 h0) h
 ·exact h0
theorem uz{l:List Wd}(h:WsOk l)(n:Nat):nameAt lang l n=if¬bw l n=ByteArray.empty∧97≤bc (bw l n) 0∧bc (bw l n) 0≤122∧lang.kept (bw l n)=false then some (bw l n)else none:=by
 unfold nameAt bw;cases hx:l[n]? with
 |none=>exact(if_neg (fun h=>h.1 rfl)).symm
 |some x=>
   have hm:x∈l:=by obtain⟨h,rfl⟩:=aQ.1 hx;exact List.getElem_mem h
   have hk:=h.all x hm;have hf:=h.full x hm;obtain⟨k,t,p⟩:=x;cases k with
   |letters=>have h1:=hk.letters rfl;have h2:=hf (.inl rfl);dsimp only at h1 h2;simp[wS,h1.2.1,h1.2.2,h2]
   |sign=>have h1:=hk.sign rfl;dsimp only at h1;show none=if¬t=ByteArray.empty∧97≤bc t 0∧bc t 0≤122∧lang.kept t=false then some t else none;exact(if_neg (fun h=>h1.2 ⟨h.2.1,h.2.2.1⟩)).symm
   |number=>simp[wS]
   |string=>simp[wS]
theorem dq{w w':World}{o:Obj}(h:(w.alloc o).Since (w.alloc o).heap.size w'):w.Since w.heap.size w':=((ah _ _).alloc (ai _) o).trans ⟨h.os,h.tape,h.output,h.size,fun k hk=>h.block k (by simp;omega)⟩
def oh(w:World)(pb:Nat)(G:Option Addr)(c:Nat)(l:List Wd)(e n:Nat)(r:Ending)(w':World):Prop:=(∀x,nameAt lang l n=some x→r=.returned (.string x)∧ei w pb G c l e (n+1) w')∧(nameAt lang l n=none→GO w pb (aW l e n) r w')
theorem MO{P:Prop}(h:P:=by go_enter func275,ntmps275;go_wp2_with fail;refine KP.o.mono ?_;rintro r w1⟨rfl,hs⟩;have S1:=aa hs;clear hs KP KK;go_wp2_with fail;refine(KF.o _ ((HP.o.up S1.o).up ((ah _ _).alloc (ai _) _))).mono ?_;rintro r w2⟨rfl,hs⟩;have S2:=aa (dq hs);clear hs KF;unfold dN;go_wp2_with fail;exact⟨rfl,HQ.o _ (((bE.refl w pb).since S1.o).since S2.o)⟩):P:=h
theorem MP{P:Prop}(h:P:=by go_wp2_with fail;refine(KF.o _ P2.o).mono ?_;rintro r w3⟨rfl,hs⟩;have S3:=aa hs;clear hs KF;unfold dN;go_wp2_with fail;exact⟨rfl,HQ.o _ ((((bE.refl w pb).since S1.o).since S2.o).since S3.o)⟩):P:=h
theorem pf(w:World)(pb c e n:Nat)(G:Option Addr)(l:List Wd)(h:PsAt w pb G c l e n)(hl:WsOk l):Calls prog 275 #[.pointer (some ⟨pb,0,none⟩)] w (oh w pb G c l e n):=by
 have KP:=aa (jD w pb c e n G l h);have HP:=aa h;have KK:=aa (fun w=>nW w (bw l n) (iI hl n));have KF:=aa (fun w1(hp:PsAt w1 pb G c l e n)=>oZ w1 pb c e n G l hp);have HE:=uz hl n;obtain⟨p,a,b,cc,d,f,e1⟩:=o_ l e n;rw[e1]at KP;clear h e1;by_cases hR:¬bw l n=ByteArray.empty∧97≤bc (bw l n) 0∧bc (bw l n) 0≤122∧lang.kept (bw l n)=false;·
  rw[if_pos hR]at HE;have HQ:Hid (∀w',ei w pb G c l e (n+1) w'→oh w pb G c l e n (.returned (.string (bw l n))) w'):=aa (fun w' hw=>⟨fun x hx=>by rw[HE]at hx;injection hx with hx;subst hx;exact⟨rfl,hw⟩,fun h=>by rw[HE]at h;cases h⟩);generalize hQ:oh w pb G c l e n=Q at*;obtain⟨h1,h2,h3,h4⟩:=hR;have hn:n<l.length:=CA HE;generalize bw l n=t at*;have h0:=yx h1;have h5:=eR h1;rw[bm h0]at h2 h3;have z1:¬((t[0]'h0).toNat:Int)<97:=by omega
  have z2:¬122<((t[0]'h0).toNat:Int):=by omega
  rw[h4]at KK;clear hQ HE h4 h1 h2 h3;go_enter func275,ntmps275;go_wp2_with fail;refine KP.o.mono ?_;rintro r w1⟨rfl,hs⟩;have S1:=aa hs;clear hs KP;go_wp2_with fail;refine(KK.o _).mono ?_;rintro r w2⟨rfl,hs⟩;have S2:=aa (dq hs);have P2:=aa ((HP.o.up S1.o).up (dq hs));have k1:=P2.o.c1;have f1:=P2.o.fz;have kt:w2.cell? ⟨w1.heap.size,1,none⟩=some (.string t):=(hs.cell (a:=⟨w1.heap.size,1,none⟩) (by simp)).trans (by unfold World.cell?;rw[aq];rfl);have kt2:∀v,(w2.setCell ⟨pb,1,none⟩ v).cell? ⟨w1.heap.size,1,none⟩=some (.string t):=fun v=>(aM _ _ _ _ (by have:=(HP.o.up S1.o).lt;intro e;injection e with e;omega)).trans kt;have z3:IntKind.i64.wrap ((n:Int)+1)=(n:Int)+1:=ax _ (by have:=hl.len;omega);clear hs KK;go_wp2_with fail;exact HQ.o _ ⟨(((bE.refl w pb).since S1.o).since S2.o).trans (bE.set w2 pb 1 _),P2.o.set (n+1)⟩
 ·
  rw[if_neg hR]at HE;have HQ:Hid (∀w',bE w pb w'→oh w pb G c l e n (dN (aW l e n)) w'):=aa (fun w' hw=>⟨fun x hx=>(by rw[HE]at hx;cases hx),fun _=>⟨rfl,hw⟩⟩);generalize hQ:oh w pb G c l e n=Q at*;clear hQ HE;generalize bw l n=t at*;by_cases h1:t=ByteArray.empty;·subst h1;clear hR;exact MO
  ·
   have h0:=yx h1;have h5:=eR h1;by_cases h2:bc t 0<97;·
    rw[bm h0]at h2;have z1:((t[0]'h0).toNat:Int)<97:=by omega
    clear hR h1 h2;exact MO
   ·
    have hR2:Hid (lang.kept t=false→122<bc t 0):=aa (fun hk=>by
     rcases Nat.lt_or_ge 122 (bc t 0)with h|h;·exact h
     ·exact absurd ⟨h1,by omega,h,hk⟩ hR);rw[bm h0]at h2 hR2;have z1:¬((t[0]'h0).toNat:Int)<97:=by omega
    generalize lang.kept t=kk at*;clear hR h1 h2;go_enter func275,ntmps275;go_wp2_with fail;refine KP.o.mono ?_;rintro r w1⟨rfl,hs⟩;have S1:=aa hs;clear hs KP;go_wp2_with fail;refine(KK.o _).mono ?_;rintro r w2⟨rfl,hs⟩;have S2:=aa (dq hs);have P2:=aa ((HP.o.up S1.o).up S2.o);have kt:w2.cell? ⟨w1.heap.size,1,none⟩=some (.string t):=(hs.cell (a:=⟨w1.heap.size,1,none⟩) (by simp)).trans (by unfold World.cell?;rw[aq];rfl);clear hs KK;cases kk;·
     have z2:122<((t[0]'h0).toNat:Int):=by have:=hR2.o rfl;omega
     exact MP
    · exact MP
def bQ(pb:Nat)(b:Nat):Prop:=b=pb
def mN(w:World)(A:Nat→Prop)(lo:Nat)(G:Option Addr)(us:List Value):Prop:=(us=[]∧G=none)∨∃b,G=some ⟨b,0,none⟩∧¬A b∧lo≤b∧b<w.heap.size∧∀i(h:i<us.length),w.cell? ⟨b,i,none⟩=some us[i]
mutual
def aY(w:World)(A:Nat→Prop)(lo:Nat):Tm→List Value→Prop
 |.mk k x n subs,cs=>∃G c us,cs=[.int .u8 (k:Nat),.string x,.int .i64 (n:Nat),.slice G subs.length c]∧mN w A lo G us∧bn w A lo subs us
def bn(w:World)(A:Nat→Prop)(lo:Nat):List Tm→List Value→Prop
 |[],us=>us=[]
 |t::ts,us=>∃a b,us=a++b∧aY w A lo t a∧bn w A lo ts b
end
def Kept(w:World)(A:Nat→Prop)(lo:Nat)(w':World):Prop:=w.heap.size≤w'.heap.size∧∀k,lo≤k→k<w.heap.size→¬A k→w'.heap[k]?=w.heap[k]?
theorem bE.kept{w w':World}{pb:Nat}{A:Nat→Prop}(h:bE w pb w')(hA:A pb)(lo:Nat):Kept w A lo w':=⟨h.size,fun k _ hk hne=>h.block k hk (fun e=>hne (e▸hA))⟩
theorem mN.up{w w':World}{A:Nat→Prop}{lo:Nat}{G:Option Addr}{us:List Value}(h:mN w A lo G us)(ha:Kept w A lo w'):mN w' A lo G us:=by
 rcases h with h|⟨b,h1,h2,h0,h3,h4⟩;·exact .inl h
 ·exact .inr ⟨b,h1,h2,h0,aw h3 ha.1,fun i hi=>(az (ha.2 b h0 h3 h2)).trans (h4 i hi)⟩
theorem mN.mono{w:World}{A:Nat→Prop}{lo lo':Nat}{G:Option Addr}{us:List Value}(h:mN w A lo G us)(hl:lo'≤lo):mN w A lo' G us:=by
 rcases h with h|⟨b,h1,h2,h0,h3,h4⟩;·exact .inl h
 ·exact .inr ⟨b,h1,h2,ay hl h0,h3,h4⟩
mutual
theorem aY.up{w w':World}{A:Nat→Prop}{lo:Nat}(ha:Kept w A lo w'):∀(t:Tm)(cs:List Value),aY w A lo t cs→aY w' A lo t cs
 |.mk k x n subs,cs,h=>by unfold aY at h⊢;obtain⟨G,c,us,h1,h2,h3⟩:=h;exact⟨G,c,us,h1,h2.up ha,bn.up ha subs us h3⟩
theorem bn.up{w w':World}{A:Nat→Prop}{lo:Nat}(ha:Kept w A lo w'):∀(ts:List Tm)(us:List Value),bn w A lo ts us→bn w' A lo ts us
 |[],us,h=>by unfold bn at h⊢;exact h
 |t::ts,us,h=>by unfold bn at h⊢;obtain⟨a,b,h1,h2,h3⟩:=h;exact⟨a,b,h1,aY.up ha t a h2,bn.up ha ts b h3⟩
end
mutual
theorem aY.mono{w:World}{A:Nat→Prop}{lo lo':Nat}(hl:lo'≤lo):∀(t:Tm)(cs:List Value),aY w A lo t cs→aY w A lo' t cs
 |.mk k x n subs,cs,h=>by unfold aY at h⊢;obtain⟨G,c,us,h1,h2,h3⟩:=h;exact⟨G,c,us,h1,h2.mono hl,bn.mono hl subs us h3⟩
theorem bn.mono{w:World}{A:Nat→Prop}{lo lo':Nat}(hl:lo'≤lo):∀(ts:List Tm)(us:List Value),bn w A lo ts us→bn w A lo' ts us
 |[],us,h=>by unfold bn at h⊢;exact h
 |t::ts,us,h=>by unfold bn at h⊢;obtain⟨a,b,h1,h2,h3⟩:=h;exact⟨a,b,h1,aY.mono hl t a h2,bn.mono hl ts b h3⟩
end
theorem mN.turn{w:World}{A A':Nat→Prop}{lo:Nat}{G:Option Addr}{us:List Value}(h:mN w A lo G us)(hA:∀b,lo≤b→b<w.heap.size→A' b→A b):mN w A' lo G us:=by
 rcases h with h|⟨b,h1,h2,h0,h3,h4⟩;·exact .inl h
 ·exact .inr ⟨b,h1,fun h=>h2 (hA b h0 h3 h),h0,h3,h4⟩
mutual
theorem aY.turn{w:World}{A A':Nat→Prop}{lo:Nat}(hA:∀b,lo≤b→b<w.heap.size→A' b→A b):∀(t:Tm)(cs:List Value),aY w A lo t cs→aY w A' lo t cs
 |.mk k x n subs,cs,h=>by unfold aY at h⊢;obtain⟨G,c,us,h1,h2,h3⟩:=h;exact⟨G,c,us,h1,h2.turn hA,bn.turn hA subs us h3⟩
theorem bn.turn{w:World}{A A':Nat→Prop}{lo:Nat}(hA:∀b,lo≤b→b<w.heap.size→A' b→A b):∀(ts:List Tm)(us:List Value),bn w A lo ts us→bn w A' lo ts us
 |[],us,h=>by unfold bn at h⊢;exact h
 |t::ts,us,h=>by unfold bn at h⊢;obtain⟨a,b,h1,h2,h3⟩:=h;exact⟨a,b,h1,aY.turn hA t a h2,bn.turn hA ts b h3⟩
end
def TermOf(w:World)(A:Nat→Prop)(lo:Nat)(ts:List Tm)(v:Value):Prop:=∃t cs,ts=[t]∧v=.agg cs.toArray∧aY w A lo t cs
def cR(w:World)(A:Nat→Prop)(lo:Nat)(ts:List Tm)(v:Value):Prop:=∃G c us,v=.slice G ts.length c∧mN w A lo G us∧bn w A lo ts us
theorem cR.up{w w':World}{A:Nat→Prop}{lo:Nat}{ts:List Tm}{v:Value}(h:cR w A lo ts v)(ha:Kept w A lo w'):cR w' A lo ts v:=by obtain⟨G,c,us,h1,h2,h3⟩:=h;exact⟨G,c,us,h1,h2.up ha,bn.up ha ts us h3⟩
theorem cR.mono{w:World}{A:Nat→Prop}{lo lo':Nat}{ts:List Tm}{v:Value}(h:cR w A lo ts v)(hl:lo'≤lo):cR w A lo' ts v:=by obtain⟨G,c,us,h1,h2,h3⟩:=h;exact⟨G,c,us,h1,h2.mono hl,bn.mono hl ts us h3⟩
def Says(O:World→(Nat→Prop)→Nat→List Tm→Value→Prop)(w:World)(pb:Nat)(G:Option Addr)(c:Nat)(l:List Wd)(e:Nat)(r:Re)(E:Ending)(w':World):Prop:=match r with
 |.ok ts m=>∃v,E=.returned v∧O w' (bQ pb) w.heap.size ts v∧ei w pb G c l e m w'
 |.bad p=>GO w pb p E w'
def et(l:List Wd)(n:Nat):Bool:=match l[n]? with|some x=>vC x|none=>false
def eu(l:List Wd)(n:Nat):Bool:=match l[n]? with|some x=>xX x|none=>false
def iJ(l:List Wd)(n:Nat):Nat:=match l[n]? with|some x=>wN x|none=>0
def iK(l:List Wd)(n:Nat):BA:=match l[n]? with|some x=>wT x|none=>ByteArray.empty
theorem AH(l:List Wd)(e n:Nat):kj l e n=.agg #[.int .i64 (aW l e n:Nat),.string (bw l n),.bool (et l n),.int .i64 (iJ l n:Nat),.bool (eu l n),.string (iK l n),.bool false]:=by
 unfold kj bw et eu iJ iK aW;cases l[n]? with
 |some x=>rfl
 |none=>rfl
theorem eM{s:BA}{x:kB}(h:dx s=some x):x∈fW∧x.name=s:=by
 unfold dx at h;exact⟨List.mem_of_find?_eq_some h,by have h2:=List.find?_some h;exact of_decide_eq_true h2⟩
theorem yy{s:BA}(h:lang.func s=true):97≤bc s 0∧bc s 0≤122:=by
 unfold lang at h;dsimp only at h;cases hx:dx s with
 |none=>rw[hx]at h;cases h
 |some x=>obtain⟨h1,rfl⟩:=eM hx;exact(by decide+kernel:∀x∈fW,97≤bc x.name 0∧bc x.name 0≤122) x h1
theorem DX{l:List Wd}(h:WsOk l)(e:Nat)(rec:Gl→Nat→Option Re)(n:Nat):Fm.step lang l e rec .atom n=if et l n=true then some (.ok [.mk 1 ByteArray.empty (iJ l n) []] (n+1))else if eu l n=true then some (.ok [.mk 2 (iK l n) 0 []] (n+1))else if bw l n=dU then some (.ok [.mk 4 ByteArray.empty 0 []] (n+1))else if bw l n=dV then some (.ok [.mk 5 ByteArray.empty 0 []] (n+1))else if lang.func (bw l n)=true then andThen (rec .args (n+1)) fun ts n1=>some (.ok [.mk 6 (bw l n) 0 ts] n1)else match nameAt lang l n with
 |some x=>some (.ok [.mk 3 x 0 []] (n+1))
 |none=>some (.bad (aW l e n)):=by
 rw[Fm.step];unfold et eu bw iJ iK nameAt aW;cases hx:l[n]? with
 |none=>dsimp only;rw[if_neg (by decide),if_neg (by decide),if_neg (by decide),if_neg (by decide),if_neg (by decide+kernel)]
 |some x=>
   have hm:x∈l:=by obtain⟨h,rfl⟩:=aQ.1 hx;exact List.getElem_mem h
   have hk:=h.all x hm;obtain⟨k,t,p⟩:=x;cases k with
   |number=>simp[vC,wN]
   |string=>simp[vC,xX,wT]
   |letters=>
    dsimp only[vC,xX,wS];simp only[reduceCtorEq,decide_false,Bool.false_eq_true,if_false,true_and];by_cases c1:t=dU;·rw[if_pos c1,if_pos c1]
    rw[if_neg c1,if_neg c1];by_cases c2:t=dV;·rw[if_pos c2,if_pos c2]
    rw[if_neg c2,if_neg c2];by_cases c3:lang.func t=true;·rw[if_pos c3,if_pos c3]
    rw[if_neg c3,if_neg c3];by_cases c4:lang.kept t=false;·simp[c4]
    ·simp[c4]
   |sign=>have h1:=hk.sign rfl;dsimp only at h1;dsimp only[vC,xX,wS];simp only[reduceCtorEq,decide_false,Bool.false_eq_true,if_false,false_and];rw[if_neg (fun e=>h1.2 (by rw[e];decide)),if_neg (fun e=>h1.2 (by rw[e];decide)),if_neg (fun e=>h1.2 (yy e))]
structure BT(T:TypeId):Prop where
 ne:T≠5
 lies:liesAt prog prog.depth T (2 / prog.cellsOf T) 0 194 1=true
theorem OT:BT 194:=⟨by decide,by kernel_rfl⟩
theorem O7:BT 196:=⟨by decide,by kernel_rfl⟩
theorem Jq:(prog.info? 194).map (·.size)=some 2:=by kernel_rfl
theorem BY:(prog.info? 5).map (fun i=>(i.zero,i.size,i.bytes))=some (some (.int .u8 0),1,1):=by kernel_rfl
abbrev gr(T:TypeId)(B b:Nat)(l:List UInt8)(w:World):Prop:=Lib.IsBuilderF T 5 B b (Lib.byteCells l) w
structure bL(B b:Nat)(w w':World):Prop where
 below:Below B w w'
 others:Lib.OthersKept 5 (some b) w w'
theorem bL.refl(B b:Nat)(w:World):bL B b w w:=⟨Below.refl _ _,Lib.OthersKept.refl _ _ _⟩
theorem bL.trans{B b:Nat}{u v w:World}(h:bL B b u v)(k:bL B b v w):bL B b u w:=⟨h.below.trans k.below,h.others.trans k.others⟩
theorem Ge{T:TypeId}(hT:BT T)(B b:Nat)(l:List UInt8)(w:World)(h:gr T B b l w):Calls prog 234 #[.pointer (some ⟨b,0,none⟩)] w fun e w'=>e=.returned (.tuple #[])∧Lib.BuilderAtF T 5 B b (.pointer (some ⟨b,0,none⟩)) (Lib.byteCells l) w'∧bL B b w w':=by
 obtain⟨j,hj,hjs⟩:=Option.map_eq_some_iff.1 Jq;rcases h with h|h;·
  have h0:=h.cell0;have hsh:=h.shape;have hfz:=h.frozen0;have HU:=aa (h.used (.pointer (some ⟨b,0,none⟩)));have HK:Hid (bL B b w (w.setCell ⟨b,0,none⟩ (.pointer (some ⟨b,0,none⟩)))):=aa ⟨(Below.refl B w).setCell (p:=⟨b,0,none⟩) h.1 _,(Lib.OthersKept.refl _ _ w).setCell ⟨b,0,none⟩ rfl _⟩;clear h;go_enter func234,ntmps234;go_wp2;rw[Lib.run_to_unsafe w ⟨b,0,none⟩ underlying192 underlying352 hj (by rw[hjs];decide) hsh (Nat.zero_lt_succ 1)];simp only[Result.andThen];rw[Oper.upon_value];go_wp2;rw[run_callFunc_extern func273 (by kernel_rfl) (by kernel_rfl) (by kernel_rfl) (e:=Extern.AbiNoEscape.same) (by kernel_rfl)];rw[Lib.run_noEscape];simp only[Result.andThen];rw[Oper.upon_value];go_wp2;rw[Lib.run_from_unsafe w ⟨b,0,none⟩ underlying352 underlying192 hj hsh hT.lies];simp only[Result.andThen];rw[Oper.upon_value];go_wp2;go_end0;exact⟨rfl,HU.o,HK.o⟩
 ·have h0:=h.cell0;have H:=aa h;clear h;go_enter func234,ntmps234;go_wp2;rw[Lib.run_neq_ptr_same w _ underlying192 hj];go_wp2;go_end0;exact⟨rfl,H.o,bL.refl _ _ _⟩
theorem td{ts us:TypeId}{o:Oper}{a:Act}{w w':World}{K:Act→World→Prop}{Q:Exit→Act→World→Prop}(s x:Operand)(ho:o.op=.call {callee:=.builtin .append,args:=#[s,x],argTypes:=#[ts,us]})(ht:o.type=ts){v v' xv:Value}(hs:a.eval s=v)(hx:a.eval x=xv)(hr:(Builtin.append_ #[ts,us] ts #[v,xv]).run prog w=.ok v' w')(h:K (a.put o.dst v') w'):Oper.wp prog o a w K Q:=by unfold Oper.wp execOp;simp only[ho,ht,resolve,invoke,builtin,Sem.run_bind,Sem.run_pure,Result.andThen_ok,List.map_toArray,List.map_cons,List.map_nil,hs,hx,hr];exact h
theorem km{ts us:TypeId}{ops:Array Oper}{rest:List Oper}{o:Oper}{a:Act}{w w':World}{Q:Exit→Act→World→Prop}(hg:o.guard=none)(s x:Operand)(ho:o.op=.call {callee:=.builtin .append,args:=#[s,x],argTypes:=#[ts,us]})(ht:o.type=ts){v v' xv:Value}(hs:a.eval s=v)(hx:a.eval x=xv)(hr:(Builtin.append_ #[ts,us] ts #[v,xv]).run prog w=.ok v' w')(h:wpList prog ops Q rest (a.put o.dst v') w'):wpList prog ops Q (o::rest) a w:=wpList_plain hg fun _ hK=>td s x ho ht hs hx hr (hK _ _ h)
theorem Qf{T:TypeId}(hT:BT T)(B b:Nat)(l:List UInt8)(s:BA)(w:World)(h:gr T B b l w)(hlen:l.length+s.size≤140737488355328)(hBw:B≤w.heap.size):Calls prog 208 #[.pointer (some ⟨b,0,none⟩),.string s] w fun e w'=>e=.returned (.tuple #[.int .i64 s.size,.nilIface])∧gr T B b (l++s.data.toList) w'∧bL B b w w':=by
 obtain⟨i0,hi,hz0,hz1,hz2⟩:=info_parts BY;have KC:=aa (Ge hT B b l w h);clear h;go_enter func208,ntmps208;go_wp2_with fail;refine KC.o.mono ?_;rintro e w1⟨rfl,h1,hk1⟩;obtain⟨hB,v,hbk,hown,hne⟩:=h1;have hlb:(Lib.byteCells l).length=l.length:=Lib.byteCells_length l;have c0:w1.cell? ⟨b,0,none⟩=some (.pointer (some ⟨b,0,none⟩)):=by rw[Lib.cell_of_heap hbk];rfl
 have c1:w1.cell? ⟨b,1,none⟩=some v:=by rw[Lib.cell_of_heap hbk];rfl
 have hlt:b<w1.heap.size:=by
  rcases Nat.lt_or_ge b w1.heap.size with h'|h';·exact h'
  ·simp[aT h']at hbk
 obtain⟨v',w2,hr,hown',hgrow,-⟩:=Lib.run_append_own_stringF (P:=prog) w1 B 190 9 190 5 i0 underlying190 underlying9 hi hz0 hz1 hz2 v _ _ hown s (by unfold maxLen;omega) (by omega) (by have:=hk1.below.size;omega);have hb2:w2.heap[b]?=some (.cells #[.pointer (some ⟨b,0,none⟩),v] T (0,0)):=by rw[hgrow.block b hlt (fun e=>hne e.symm)];exact hbk
 have d0:w2.cell? ⟨b,0,none⟩=some (.pointer (some ⟨b,0,none⟩)):=by rw[Lib.cell_of_heap hb2];rfl
 have d1:w2.cell? ⟨b,1,none⟩=some v:=by rw[Lib.cell_of_heap hb2];rfl
 have f1:w2.frozen? ⟨b,1,none⟩=false:=Lib.frozen_of_heap hb2 1;obtain⟨ao,n',cap,rfl⟩:∃ao n' cap,v'=.slice ao n' cap:=by
  rcases hown'.2 with⟨hv,_⟩|⟨g,cap,cur,fz,hv,_⟩;·exact⟨_,_,_,hv⟩
  ·exact⟨_,_,_,hv⟩
 have HF:Hid (gr T B b (l++s.data.toList) (w2.setCell ⟨b,1,none⟩ (.slice ao n' cap))∧bL B b w (w2.setCell ⟨b,1,none⟩ (.slice ao n' cap))):=aa ⟨by
  have hbc:Lib.byteCells (l++s.data.toList)=Lib.byteCells l++Lib.strCells s:=by rw[Lib.byteCells_append,Lib.strCells_eq]
  unfold gr;rw[hbc];refine .inr (Lib.BuilderAtF.put hB hb2 (bs':=Lib.byteCells l++Lib.strCells s) (by simpa[Lib.strCells_length]using hown') hT.ne),(hk1.below.grown hgrow (by have:=hk1.below.size;omega) (fun k hk=>(hown.lt k hk).1)).setCell (p:=⟨b,1,none⟩) hB _,(hk1.others.grown hgrow (Lib.ownsRowF_kind hown)).setCell ⟨b,1,none⟩ rfl _⟩;clear hown hown' hgrow hbk hb2 hk1 KC;go_wp2_with(refine km rfl (.tmp 12) (.tmp 13) rfl rfl rfl rfl hr ?_);exact au (v:=.tuple #[.int .i64 s.size,.nilIface]) (by simp[results,results208,go_sem]) rfl ⟨rfl,HF.o⟩
theorem yb(s:BA)(lo hi:Nat)(w:World)(hs:s.size≤100000):Calls prog 85 #[.string s,.int .u8 (lo:Nat),.int .u8 (hi:Nat)] w fun E w'=>E=.returned (.int .i64 (bC s lo hi 0:Nat))∧w'=w:=by
 obtain⟨e,he⟩:∃e,bC s lo hi 0=e:=⟨_,rfl⟩;have HE:=aa he;rw[he];clear he;go_enter func85,ntmps85;go_wp2_with fail;go_loopg[7]s.size(fun gg o7 wr=>∃(j:Nat),gg=s.size-j∧j≤s.size∧o7=.int .i64 (j:Nat)∧Hid (bC s lo hi j=e)∧wr=w);case atStart=>exact⟨0,rfl,aI _,rfl,HE,rfl⟩
 case round=>
  obtain⟨j,rfl,hj,rfl,hE,rfl⟩:=hrel;by_cases h1:j<s.size;·
   have i2:(j:Int)<(s.size:Int):=by omega
   have z5:IntKind.i64.wrap ((j:Int)+1)=(j:Int)+1:=ax _ (by omega);by_cases h2:lo≤s[j].toNat;·
    have b1:(lo:Int)≤(s[j].toNat:Int):=by omega
    by_cases h3:s[j].toNat≤hi;·
     have b2:(s[j].toNat:Int)≤(hi:Int):=by omega
     have hE2:Hid (bC s lo hi (j+1)=e):=aa (by
      rw[←hE.o,ec (n:=j) ⟨h1,by rw[bm h1];exact⟨h2,h3⟩⟩]);clear h2 h3;go_wp2_with fail;go_roundg(s.size-(j+1));case measure=>omega
     case rel=>exact⟨j+1,by omega,by omega,by simp,hE2,rfl⟩
    ·
     have b2:¬(s[j].toNat:Int)≤(hi:Int):=by omega
     have hE2:Hid (j=e):=aa (by
      rw[←hE.o,dg (fun h=>by have h2':=h.2;rw[bm h1]at h2';exact h3 h2'.2)]);clear h2 h3;go_wp2_with fail;go_ret;exact⟨by rw[←hE2.o];rfl,rfl⟩
   ·
    have b1:¬(lo:Int)≤(s[j].toNat:Int):=by omega
    have hE2:Hid (j=e):=aa (by
     rw[←hE.o,dg (fun h=>by have h2':=h.2;rw[bm h1]at h2';exact h2 h2'.1)]);clear h2;go_wp2_with fail;go_ret;exact⟨by rw[←hE2.o];rfl,rfl⟩
  ·
   have i2:¬(j:Int)<(s.size:Int):=by omega
   have hE2:Hid (j=e):=aa (by rw[←hE.o,dg (fun h=>h1 h.1)]);clear h1;go_wp2_with fail;go_ret;exact⟨by rw[←hE2.o];rfl,rfl⟩
