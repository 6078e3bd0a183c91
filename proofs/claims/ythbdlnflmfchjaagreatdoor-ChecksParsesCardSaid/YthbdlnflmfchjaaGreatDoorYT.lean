/- The closed call says() answers true in every world, and leaves all that was there alone. -/
import Derived.Test.YthbdlnflmfchjaaGreatDoorYZ
import Derived.Test.YthbdlnflmfchjaaGreatDoorWK
import Derived.Shelf.Strings.Count
import Derived.Lib.SlBuf
set_option linter.unusedVariables false
set_option linter.unusedSimpArgs false
namespace Go.Proofs.YthbdlnflmfchjaaGreatDoor
open Go.Proofs.Tryz
open Go Go.Proofs.Eng Go.RowKit Go.Proofs.Fm Go.Shelf
set_option maxHeartbeats 6400000
set_option maxRecDepth 1000000
theorem jX(n:Nat)(k:Nat):(cX [] n).get k=none:=rfl
theorem yr {P : Program} {G f n n' : Nat} {b : Bool} (hG : G ≤ n) (hn : n ≤ jo) (h : cE P G ⟨f, [], [], n, .bool b, [], n'⟩) (w : World) :
    Calls P f #[] w fun e w' => e = .returned (.bool b) ∧ w.Since w.heap.size w' := by
  have hc := h (fun k => if k < G then some ⟨k, 0, 0, 0⟩ else none) w #[] (fun g hg => ⟨⟨g, 0, 0, 0⟩, by simp [hg], rfl, rfl⟩)
    { obj := fun k o hk => by rw [jX] at hk; cases hk
      inj := fun k k' o o' p p' hk => by rw [jX] at hk; cases hk
      none := fun k h1 h2 => by
        have : n ≤ k := h1
        show (if k < G then _ else _) = _
        rw [if_neg (by omega)]
      low := fun k o hk => by rw [jX] at hk; cases hk
      ids := ⟨hn, ai _⟩ } bD.nil
  refine (callsIn_wide.1 hc).mono fun e w' hh => ?_
  obtain ⟨ρ', v', rfl, hv, hH, hS⟩ := hh
  cases hv
  refine ⟨rfl, hS.os, hS.tape, hS.out, hS.size, fun k hk => hS.frame k hk fun k0 o p _ hk0 => ?_⟩
  rw [jX] at hk0; cases hk0
theorem DQ(w:World):Calls prog 10 #[] w fun e w'=>e=.returned (.bool true)∧w.Since w.heap.size w':=yr (by decide) (by decide) (Gx Qh (.head _)).2 w
def eh:Obj:=.cells #[.string ⟨#[92]⟩,.string ⟨#[92,92]⟩,.string ⟨#[34]⟩,.string ⟨#[92,34]⟩] 9
structure IV(RI:Nat→Addr→World→Prop):Prop where
 new:∀w:World,Calls prog 190 #[.slice (some ⟨w.heap.size,0,none⟩) 4 4] (w.alloc eh).drew fun e w'=>∃p,e=.returned (.pointer (some p))∧RI w.heap.size p w'∧w.Since w.heap.size w'
 use:∀(w0 w:World)(p:Addr)(x:BA),RI w0.heap.size p w→w0.Since w0.heap.size w→x.size≤1000000→Calls prog 191 #[.pointer (some p),.string x] w fun e w'=>e=.returned (.string (ofBytes (ez (an x))))∧w0.Since w0.heap.size w'
theorem Cq:∀l:List UInt8,(ez l).length≤2*l.length
 |[]=>by rw[ez];exact ai _
 |c::l=>by have:=Cq l;rw[ez];split<;>simp<;>omega
theorem yt(l:List UInt8):(ofBytes l).size=l.length:=rfl
theorem Mt{P:Prop}(h:P:=by
 go_wp2_with fail;go_end0;exact⟨rfl,r2,by have h:=R2.o;rw[HF.o];exact h,A2.o.is,K2.o⟩):P:=h
theorem Oa(B b K k c:Nat)(x:BA)(n:Int)(G:Option Addr)(subs:List Tz)(acc:List UInt8)(w0 w:World)(IH:fh B b w0 K)(hT:sZ w0 K G subs)(hx:x.size≤1000000)(hA:iH w0 B b acc w)(hk:k=1)(hn:n64 n)(hP:PowV w0):Calls prog 105 #[.pointer (some ⟨b,0,none⟩),.agg #[.int .u8 (k:Nat),.string x,.int .i64 n,.slice G subs.length c]] w (fg B b acc (fz (.mk k x n subs)) w):=by
 obtain⟨W,hW,A0,X0,K0⟩:=cz B b acc (.int .u8 (k:Nat)) (.string x) (.int .i64 n) (.slice G subs.length c) w0 w hA;have HF:Hid (fz (.mk k x n subs)=Lib.itoa n):=aa (by subst hk;rw[fU];rfl);generalize fz (.mk k x n subs)=F at*;obtain⟨e1,t0,t1,t2,t3⟩:=X0.o.five;have f1:((k:Int)==1)=true:=ag (by omega);have S0:Hid (W.Since W.heap.size W.drew):=aa (ah _ _).drew;have H0:=aa (X0.o.since S0.o).five;have KN:=aa (Gg n hn W.drew (hP.up (bf A0.o.s S0.o)));have HL:Hid ((ofBytes (Lib.itoa n)).size≤10000000):=aa (by have:=Lib.itoa_length_le n hn.1 hn.2;rw[yt];omega);have HFL:Hid (ku [ofBytes (Lib.itoa n)]=Lib.itoa n):=aa (by simp[ku,de]);clear hn hP;generalize Lib.itoa n=D at*;clear hA hk hT IH;go_enter func105,ntmps105;go_wp2_with fail;go_region_held3(fun w'=>w'.cell? ⟨w.heap.size,0,none⟩=some (.pointer (some ⟨b,0,none⟩))∧w'.cell? ⟨w.heap.size+1,2,none⟩=some (.int .i64 n))(first
 |exact⟨H0.o.1,H0.o.2.2.2.1⟩
 |exact⟨HP.o.1,HP.o.2.2.2.1⟩
 |exact⟨HQ.o.1,HQ.o.2.2.2.1⟩
 |exact⟨HV.o.1,HV.o.2.2.2.1⟩)(first
 |(go_at_call 189;refine(KN.o).mono ?_;rintro r0 wp⟨rfl,hs⟩;have SP:=aa (bf S0.o hs);have AP:=aa (A0.o.up SP.o);have HP:=aa (X0.o.since SP.o).five;have HQ:=aa (X0.o.since (bf SP.o (bI wp (.cells #[.string (ofBytes D)] 9)))).five;have KF:=aa (ep B b 1 acc [ofBytes D] D wp HFL.o rfl AP.o.is AP.o.hB (by simp) (by intro s hs;rw[aK.1 hs];exact HL.o));clear hs)
 |(go_at_call 188;refine(KF.o).mono ?_;rintro r0 w2⟨rfl,r2,g1,g2,g3⟩;have R2:=aa g1;have A2:=aa (AP.o.next g3 g2);have K2:=aa (K0.o.trans ((bL.of SP.o A0.o.hB).trans g3));have HV:=aa ((X0.o.since SP.o).up g3).five;clear g1 g2 g3));exact Mt
theorem Ob{RI:Nat→Addr→World→Prop}(HC:IV RI)(B b K k c:Nat)(x:BA)(n:Int)(G:Option Addr)(subs:List Tz)(acc:List UInt8)(w0 w:World)(IH:fh B b w0 K)(hT:sZ w0 K G subs)(hx:x.size≤1000000)(hA:iH w0 B b acc w)(hk:k=2):Calls prog 105 #[.pointer (some ⟨b,0,none⟩),.agg #[.int .u8 (k:Nat),.string x,.int .i64 n,.slice G subs.length c]] w (fg B b acc (fz (.mk k x n subs)) w):=by
 obtain⟨W,hW,A0,X0,K0⟩:=cz B b acc (.int .u8 (k:Nat)) (.string x) (.int .i64 n) (.slice G subs.length c) w0 w hA;have HF:Hid (fz (.mk k x n subs)=34::(ez (an x)++[34])):=aa (by subst hk;rw[fU];rfl);generalize fz (.mk k x n subs)=F at*;obtain⟨e1,t0,t1,t2,t3⟩:=X0.o.five;have f1:((k:Int)==1)=false:=ae (by omega);have f2:((k:Int)==2)=true:=ag (by omega);have S0:Hid (W.Since W.heap.size W.drew):=aa (ah _ _).drew;have H0:=aa (X0.o.since S0.o).five;have SR:Hid (W.Since W.heap.size (W.alloc eh).drew):=aa (bI W eh).drew;have TR:Hid ((W.alloc eh).drew.heap[W.heap.size]?=some eh):=aa (aq W eh);obtain⟨WR,hWR⟩:∃WR,(W.alloc eh).drew=WR:=⟨_,rfl⟩;rw[hWR]at SR TR;have HR:=aa (X0.o.since SR.o).five;have hWR:(W.alloc (.cells #[.string ⟨#[92]⟩,.string ⟨#[92,92]⟩,.string ⟨#[34]⟩,.string ⟨#[92,34]⟩] 9)).drew=WR:=hWR;have KN:=aa (HC.new W);rw[show(W.alloc eh).drew=WR from hWR]at KN;have KU:=aa (fun p V(h1:RI W.heap.size p V)(h2:W.Since W.heap.size V)=>HC.use W V p x h1 h2 hx);have HL:Hid ((ofBytes (ez (an x))).size≤10000000):=aa (by have:=Cq (an x);rw[bd]at this;rw[yt];omega);have HFL:Hid (ku [⟨#[34]⟩,ofBytes (ez (an x)),⟨#[34]⟩]=34::(ez (an x)++[34])):=aa (by simp[ku,de];try rfl);clear HC;generalize ez (an x)=D at*;clear hA hk hT IH;go_enter func105,ntmps105;go_wp2_with fail;go_region_held3(fun w'=>w'.cell? ⟨w.heap.size,0,none⟩=some (.pointer (some ⟨b,0,none⟩))∧w'.cell? ⟨w.heap.size+1,1,none⟩=some (.string x))(first
 |exact⟨H0.o.1,H0.o.2.2.1⟩
 |(rw[hWR];exact⟨HR.o.1,HR.o.2.2.1⟩)
 |exact⟨HR.o.1,HR.o.2.2.1⟩
 |exact⟨HP.o.1,HP.o.2.2.1⟩
 |exact⟨HT.o.1,HT.o.2.2.1⟩
 |exact⟨HQ.o.1,HQ.o.2.2.1⟩
 |exact⟨HV.o.1,HV.o.2.2.1⟩)(first
 |(go_at_call 190;(try rw[hWR]);refine(KN.o).mono ?_;rintro r0 wp⟨p,rfl,hri,hs⟩;have HP:=aa (X0.o.since hs).five;have KUP:=aa (KU.o p wp hri hs);clear hri hs)
 |(go_at_call 191;refine(KUP.o).mono ?_;rintro r0 wt⟨rfl,hs⟩;have SP:=aa hs;have AP:=aa (A0.o.up SP.o);have HT:=aa (X0.o.since SP.o).five;have HQ:=aa (X0.o.since (bf SP.o (bI wt (.cells #[.string ⟨#[34]⟩,.string (ofBytes D),.string ⟨#[34]⟩] 9)))).five;have KF:=aa (ep B b 3 acc [⟨#[34]⟩,ofBytes D,⟨#[34]⟩] (34::(D++[34])) wt HFL.o rfl AP.o.is AP.o.hB (by simp) (by
     intro s hs;simp only[List.mem_cons,aS,or_false]at hs;rcases hs with rfl|rfl|rfl;·exact(by decide:(⟨#[34]⟩:BA).size≤10000000)
     ·exact HL.o
     ·exact(by decide:(⟨#[34]⟩:BA).size≤10000000)));clear hs)
 |(go_at_call 188;refine(KF.o).mono ?_;rintro r0 w2⟨rfl,r2,g1,g2,g3⟩;have R2:=aa g1;have A2:=aa (AP.o.next g3 g2);have K2:=aa (K0.o.trans ((bL.of SP.o A0.o.hB).trans g3));have HV:=aa ((X0.o.since SP.o).up g3).five;clear g1 g2 g3));exact Mt
theorem DR(B b K k c:Nat)(x:BA)(n:Int)(G:Option Addr)(subs:List Tz)(acc:List UInt8)(w0 w:World)(IH:fh B b w0 K)(hT:sZ w0 K G subs)(hx:x.size≤1000000)(hA:iH w0 B b acc w)(hk:∀j∈[1,2,3,4,5,6,7,8,9,10,11,12,13,14,15,16],k≠j):Calls prog 105 #[.pointer (some ⟨b,0,none⟩),.agg #[.int .u8 (k:Nat),.string x,.int .i64 n,.slice G subs.length c]] w (fg B b acc (fz (.mk k x n subs)) w):=by
 obtain⟨W,hW,A0,X0,K0⟩:=cz B b acc (.int .u8 (k:Nat)) (.string x) (.int .i64 n) (.slice G subs.length c) w0 w hA;have HF:Hid (fz (.mk k x n subs)=([]:List UInt8)):=aa (by simp only[List.mem_cons,aS,or_false,forall_eq_or_imp,forall_eq]at hk;rw[fU,if_neg (by omega),if_neg (by omega),if_neg (by omega),if_neg (by omega),if_neg (by omega),if_neg (by omega),if_neg (by omega),if_neg (by omega),if_neg (by omega),if_neg (by omega),if_neg (by omega),if_neg (by omega),if_neg (by omega),if_neg (by omega)]);generalize fz (.mk k x n subs)=F at*;obtain⟨e1,t0,t1,t2,t3⟩:=X0.o.five;simp only[List.mem_cons,aS,or_false,forall_eq_or_imp,forall_eq]at hk;have f1:((k:Int)==1)=false:=ae (by omega);have f2:((k:Int)==2)=false:=ae (by omega);have f3:((k:Int)==3)=false:=ae (by omega);have f4:((k:Int)==4)=false:=ae (by omega);have f5:((k:Int)==5)=false:=ae (by omega);have f6:((k:Int)==6)=false:=ae (by omega);have f11:((k:Int)==11)=false:=ae (by omega);have f7:((k:Int)==7)=false:=ae (by omega);have f8:((k:Int)==8)=false:=ae (by omega);have f9:((k:Int)==9)=false:=ae (by omega);have f10:((k:Int)==10)=false:=ae (by omega);have f12:((k:Int)==12)=false:=ae (by omega);have f13:((k:Int)==13)=false:=ae (by omega);have f14:((k:Int)==14)=false:=ae (by omega);have f15:((k:Int)==15)=false:=ae (by omega);have f16:((k:Int)==16)=false:=ae (by omega);clear hA hk hT IH;go_enter func105,ntmps105;go_wp2_with fail;go_end0;exact⟨rfl,acc,by rw[HF.o];exact .nil _,A0.o.is,K0.o⟩
theorem ux{RI:Nat→Addr→World→Prop}(HC:IV RI)(B b:Nat)(w0:World)(hP:PowV w0)(hB:w0.heap.size≤B):∀K,K≤1000000→fh B b w0 K
 |0,_,t,_,_,_,hK,_,_,_,_=>by have:=nI t;omega
 |K+1,hM,.mk k x n subs,cs,acc,w,hK,ht,h0,hBw,hA=>by
  have IH:=ux HC B b w0 hP hB K (by omega);have hA':iH w0 B b acc w:=⟨h0,hB,hBw,hA⟩;rw[wtZ]at hK;have hx:x.size≤1000000:=by omega
  unfold TzAt at ht;obtain⟨G,c,us,rfl,⟨hn,_,_⟩,hr,hs⟩:=ht;have hT:sZ w0 K G subs:=⟨⟨us,hr,hs⟩,by omega,by have:=fv subs;omega⟩;by_cases k1:k=1;·exact Oa B b K k c x n G subs acc w0 w IH hT hx hA' k1 hn hP
  by_cases k2:k=2;·exact Ob HC B b K k c x n G subs acc w0 w IH hT hx hA' k2
  by_cases k3:k=3;·exact NA B b K k c x n G subs acc w0 w IH hT hx hA' k3
  by_cases k4:k=4;·exact NC B b K k c x n G subs acc w0 w IH hT hx hA' k4
  by_cases k5:k=5;·exact ND B b K k c x n G subs acc w0 w IH hT hx hA' k5
  by_cases k6:k=6;·exact NF B b K k c x n G subs acc w0 w IH hT hx hA' k6
  by_cases k11:k=11;·exact IK B b K k c x n G subs acc w0 w IH hT hx hA' k11
  by_cases k7:k=7;·exact NG B b K k c x n G subs acc w0 w IH hT hx hA' k7
  by_cases k8:k=8;·exact NH B b K k c x n G subs acc w0 w IH hT hx hA' k8
  by_cases k9:k=9;·exact NJ B b K k c x n G subs acc w0 w IH hT hx hA' k9
  by_cases k10:k=10;·exact IL B b K k c x n G subs acc w0 w IH hT hx hA' k10
  by_cases k12:k=12;·exact IP B b K k c x n G subs acc w0 w IH hT hx hA' k12
  by_cases k13:k=13;·exact IM B b K k c x n G subs acc w0 w IH hT hx hA' k13
  by_cases k14:k=14;·exact IN B b K k c x n G subs acc w0 w IH hT hx hA' k14
  by_cases k15:k=15;·exact IQ B b K k c x n G subs acc w0 w IH hT hx hA' k15
  by_cases k16:k=16;·exact IS B b K k c x n G subs acc w0 w IH hT hx hA' k16
  exact DR B b K k c x n G subs acc w0 w IH hT hx hA' (by intro j hj;simp only[List.mem_cons,aS,or_false]at hj;omega)
theorem od{RI:Nat→Addr→World→Prop}(HC:IV RI)(t:Tz)(cs:List Value)(w:World)(hK:wtZ t≤1000000)(ht:TzAt w t cs)(hP:PowV w):Calls prog 49 #[.agg cs.toArray] w fun e w'=>(∃r,e=.returned (.string (ofBytes r))∧WR [] (fz t) r)∧w.Since w.heap.size w':=by
 obtain⟨k,x,n,G,m,c,rfl⟩:=qh ht;obtain⟨W,hW⟩:∃W,(w.alloc (.cells #[.int .u8 (k:Nat),.string x,.int .i64 n,.slice G m c] 39)).alloc (.cells #[.pointer none,.slice none 0 0] 196)=W:=⟨_,rfl⟩;have hs:w.Since w.heap.size W:=by rw[←hW];exact((ah _ _).alloc (ai _) _).alloc (by simp) _
 have hb:W.heap[w.heap.size]?=some (.cells #[.int .u8 (k:Nat),.string x,.int .i64 n,.slice G m c] 39):=by rw[←hW];exact(aj _ _ _ (by simp)).trans (aq w _)
 have hA:gr 196 (w.heap.size+1) (w.heap.size+1) [] W:=by rw[←hW];refine .inl ⟨ai _,.slice none 0 0,?_,World.ownsRowF_nil _ _ _ _,by simp[Value.ownBlock]⟩;have:=aq (w.alloc (.cells #[.int .u8 (k:Nat),.string x,.int .i64 n,.slice G m c] 39)) (.cells #[.pointer none,.slice none 0 0] 196);rw[World.size_alloc]at this;exact this
 have hsz:w.heap.size+1≤W.heap.size:=by rw[←hW];simp
 obtain⟨t0,t1,t2,t3,-⟩:=ba hb;have KT:=aa (ux HC (w.heap.size+1) (w.heap.size+1) w hP (Nat.le_succ _) 1000000 (ai _) t _ [] W hK ht hs hsz hA);have HS:=aa hs;have HZ:=aa hsz;have HKW:Hid (bL (w.heap.size+1) (w.heap.size+1) W W):=aa (bL.refl _ _ _);generalize fz t=F at*;clear hs hb hA hsz ht hK HC;go_enter func49,ntmps49;go_wp2_with fail;refine KT.o.mono ?_;rintro r0 w1⟨rfl,r,g1,g2,g3⟩;have R:=aa g1;have K1:=aa g3;have KS:=aa (B_ (w.heap.size+1) (w.heap.size+1) r w1 g2 (ay HZ.o g3.size));clear g1 g2 g3 KT;go_wp2_with fail;refine KS.o.mono ?_;rintro r0 w2⟨rfl,-,g3⟩;have HE:=aa ((K1.o.trans g3).since HS.o (Nat.le_succ _));clear g3 KS;go_wp2_with fail;go_ret;exact⟨⟨r,rfl,R.o⟩,HE.o⟩
def Gy(g:Nat):br:=fun k=>if k<8 then some ⟨k,0,0,0⟩else if k=100 then some ⟨g,0,4,1⟩else none
theorem AE:qg AB.pre=true∧qg AB.post=true∧qg oX.pre=true∧qg oX.post=true:=⟨by kernel_rfl,by kernel_rfl,by kernel_rfl,by kernel_rfl⟩
theorem gO{ρ:br}{A:AW}{w:World}(H:bS ρ A w){k:Nat}{c:Array Value}{e:TypeId}{fr:Nat×Nat}(hk:A.get k=some (.cells c e fr)):∃p,ρ k=some p∧p.s=0∧p.b<w.heap.size∧∀(i:Nat)(v:Value),c[i]?=some v→∃v',w.cell? ⟨p.b,i,none⟩=some v'∧aX ρ v v':=by
 obtain⟨p,o',h1,h2,h3⟩:=H.obj k _ hk;cases h3 with
 |cells h0 hn ht hc hf=>
  refine⟨p,h1,h0,aV h2,fun i v hv=>?_⟩;obtain⟨v',a,b⟩:=hc i v hv;rw[h0,Nat.zero_add]at a;exact⟨v',by unfold World.cell?;rw[h2];exact a,b⟩
def RI(base:Nat)(a:Addr)(w:World):Prop:=∃ρ p,bS ρ (cX oX.pre 103) w∧Gl 8 ρ∧ρ 102=some p∧p.s=0∧a=⟨p.b,0,none⟩∧∀k o q,(cX oX.pre 103).get k=some o→ρ k=some q→base≤q.b
theorem Ji(g:Nat)(w:World)(hg:w.heap[g]?=some eh):bS (Gy g) (cX AB.pre 101) w:=by
 have hm:∀k o,(cX AB.pre 101).get k=some o→k=100∧o=eh:=fun k o h=>by have:=fY k o AE.1 h;unfold AB at this;simp only[aK,Prod.mk.injEq]at this;exact this
 refine⟨fun k o h=>?_,fun k k' o o' p p' h h' _ _ _=>by rw[(hm k o h).1,(hm k' o' h').1],fun k h1 _=>?_,fun k o h=>by rw[(hm k o h).1];decide,⟨by decide,by decide⟩⟩;·
  obtain⟨rfl,rfl⟩:=hm k o h;refine⟨⟨g,0,4,1⟩,_,rfl,hg,?_⟩;unfold eh;refine fP.cells rfl (show 0+4≤4 by decide) rfl (fun i v hv=>⟨v,by rw[Nat.zero_add];exact hv,?_⟩) ⟨ai _,fun j _ h=>absurd h (aH _),fun _=>aI _⟩;match i,hv with
  |0,hv=>cases hv;exact .string _
  |1,hv=>cases hv;exact .string _
  |2,hv=>cases hv;exact .string _
  |3,hv=>cases hv;exact .string _
  |i+4,hv=>simp at hv
 ·have:101≤k:=h1;unfold Gy;rw[if_neg (by omega),if_neg (by omega)]
theorem Mu(k:Nat)(o:Obj)(h:(cX oX.pre 103).get k=some o):k=102∨k=101:=by
 have:=fY k o AE.2.2.1 h;unfold oX at this;simp only[List.mem_cons,aS,or_false,Prod.mk.injEq]at this;rcases this with h|h;·exact .inl h.1
 ·exact .inr h.1
theorem Gz(k:Nat)(o:Obj)(h:(cX oX.pre 103).get k=some o):(cX AB.post 103).get k=some o:=by
 have e2:(cX oX.pre 103).get 102=(cX AB.post 103).get 102:=by kernel_rfl
 have e1:(cX oX.pre 103).get 101=(cX AB.post 103).get 101:=by kernel_rfl
 rcases Mu k o h with rfl|rfl;·rw[←e2];exact h
 ·rw[←e1];exact h
theorem IW(w:World):Calls prog 190 #[.slice (some ⟨w.heap.size,0,none⟩) 4 4] (w.alloc eh).drew fun e w'=>∃p,e=.returned (.pointer (some p))∧RI w.heap.size p w'∧w.Since w.heap.size w':=by
 have hg:(w.alloc eh).drew.heap[w.heap.size]?=some eh:=aq w eh;have hm:=(Mm AB (.tail _ (.head _))).2 (Gy w.heap.size) (w.alloc eh).drew #[.slice (some ⟨w.heap.size,0,none⟩) 4 4] (fun g hg=>⟨⟨g,0,0,0⟩,by unfold Gy;rw[if_pos hg],rfl,rfl⟩) (Ji w.heap.size _ hg) (.cons (.slice ⟨rfl,⟨w.heap.size,0,4,1⟩,rfl,rfl⟩ (.inl ⟨rfl,by decide⟩)) .nil);refine(callsIn_wide.1 hm).mono fun e w' hh=>?_;obtain⟨ρ',v',rfl,hv,hH,hS⟩:=hh;have hv:aX ρ' (.pointer (some ⟨102,0,none⟩)) v':=hv;cases hv with
 |ptr h=>
  obtain⟨_,p,hp,rfl⟩:=h;have hpre:∀k o,(cX AB.pre 101).get k=some o→k=100:=fun k o h=>by have:=fY k o AE.1 h;unfold AB at this;simp only[aK,Prod.mk.injEq]at this;exact this.1
  have H2:bS ρ' (cX oX.pre 103) w':=hH.sub Gz hH.none ⟨by decide,by decide⟩;obtain⟨p',hp',hs0,_,_⟩:=gO H2 (k:=102) (show(cX oX.pre 103).get 102=some (.cells #[.int .u32 0,.int .i32 0,.int .u32 0,.nilIface,.slice (some ⟨101,0,none⟩) 4 1180591620717411303425] 322 (0,0))by kernel_rfl);have hpp:p'=p:=by have:=hp'.symm.trans hp;injection this
  subst hpp;refine⟨_,rfl,⟨ρ',p',H2,Gl.mono hS.le (fun g hg=>⟨⟨g,0,0,0⟩,by unfold Gy;rw[if_pos hg],rfl,rfl⟩),hp,hs0,by rw[hs0];rfl,fun k o q hk hq=>?_⟩,?_⟩;·
   rcases hS.fresh k o q (Gz k o hk) hq with h|⟨k0,o0,p0,_,h1,h2,h3⟩|⟨h,_⟩;·have:(w.alloc eh).heap.size≤q.b:=h;rw[World.size_alloc]at this;omega
   ·have:=hpre k0 o0 h1;subst this;have h2:some (⟨w.heap.size,0,4,1⟩:Pos)=some p0:=h2;injection h2 with h2;rw[←h3,←h2];exact ai _
   ·have h:(cX AB.post 103).get k=(cX AB.pre 101).get k:=h;rw[Gz k o hk]at h;have:=hpre k o h.symm;rcases Mu k o hk with e|e<;>omega
  ·
   refine⟨hS.os,hS.tape,hS.out,?_,fun k hk=>?_⟩;·have:=hS.size;have h2:(w.alloc eh).heap.size≤w'.heap.size:=this;rw[World.size_alloc]at h2;omega
   ·refine(hS.frame k (by show k<(w.alloc eh).heap.size;rw[World.size_alloc];omega) (fun k0 o0 p0 _ h1 h2=>?_)).trans (aj w eh k hk);have:=hpre k0 o0 h1;subst this;have h2:some (⟨w.heap.size,0,4,1⟩:Pos)=some p0:=h2;injection h2 with h2;rw[←h2];show w.heap.size≠k;omega
structure sr(B:Nat)(w:World):Prop where
 lt:B<w.heap.size
 no:∀c,c<256→c≠34→c≠92→w.cell? ⟨B,c,none⟩=some (.slice none 0 0)
 q34:∃q cp,w.cell? ⟨B,34,none⟩=some (.slice (some ⟨q,0,none⟩) 2 cp)∧q<w.heap.size∧w.cell? ⟨q,0,none⟩=some (.int .u8 92)∧w.cell? ⟨q,1,none⟩=some (.int .u8 34)
 q92:∃q cp,w.cell? ⟨B,92,none⟩=some (.slice (some ⟨q,0,none⟩) 2 cp)∧q<w.heap.size∧w.cell? ⟨q,0,none⟩=some (.int .u8 92)∧w.cell? ⟨q,1,none⟩=some (.int .u8 92)
 tr:∃q cp,w.cell? ⟨B,256,none⟩=some (.slice (some ⟨q,0,none⟩) 2 cp)∧q<w.heap.size∧w.cell? ⟨q,0,none⟩=some (.string ⟨#[34]⟩)∧w.cell? ⟨q,1,none⟩=some (.string ⟨#[92]⟩)
theorem Jj{ρ:br}{k:IntKind}{n:Int}{v:Value}(h:aX ρ (.int k n) v):v=.int k n:=by cases h;rfl
theorem Pz{ρ:br}{s:BA}{v:Value}(h:aX ρ (.string s) v):v=.string s:=by cases h;rfl
theorem Qz{ρ:br}{k n c:Nat}{v:Value}(h:aX ρ (.slice (some ⟨k,0,none⟩) n c) v):∃p c',ρ k=some p∧v=.slice (some ⟨p.b,p.s+0,none⟩) n c':=by
 cases h with
 |slice h hc=>obtain⟨_,p,hp,rfl⟩:=h;exact⟨p,_,hp,rfl⟩
theorem Q9{ρ:br}{n c:Nat}{v:Value}(h:aX ρ (.slice none n c) v):v=.slice none n c:=by cases h;rfl
def GB:Option Obj→Array Value
 |some (.cells c _ _)=>c
 |_=>#[]
def rv(c:Nat):Value:=if c=34 then .slice (some ⟨107,0,none⟩) 2 1180591620717411303425 else if c=92 then .slice (some ⟨110,0,none⟩) 2 1180591620717411303425 else if c=256 then .slice (some ⟨103,0,none⟩) 2 2 else .slice none 0 0
theorem Oc:(List.range 257).map (fun c=>(GB ((cX oX.post 117).get 104)).getD c .nilFunc)=(List.range 257).map rv:=by kernel_rfl
theorem PA:∃C,(cX oX.post 117).get 104=some (.cells C 398 (0,0))∧GB ((cX oX.post 117).get 104)=C:=⟨GB ((cX oX.post 117).get 104),by kernel_rfl,rfl⟩
theorem PB(c:Nat):rv c≠ .nilFunc:=by
 unfold rv;split;·exact fun h=>by cases h
 ·
  split;·exact fun h=>by cases h
  ·
   split;·exact fun h=>by cases h
   ·exact fun h=>by cases h
theorem Cr(c:Nat)(hc:c<257):(GB ((cX oX.post 117).get 104))[c]?=some (rv c):=by
 have h:=List.map_inj_left.1 Oc c (List.mem_range.2 hc);rw[Array.getD_eq_getD_getElem?]at h;cases hx:(GB ((cX oX.post 117).get 104))[c]? with
 |none=>rw[hx]at h;exact absurd h.symm (PB c)
 |some u=>rw[hx]at h;exact congrArg some h
theorem NM{ρ:br}{w:World}(H:bS ρ (cX oX.post 117) w):∃p B,ρ 102=some p∧p.s=0∧w.cell? ⟨p.b,3,none⟩=some (.iface 399 (.pointer (some ⟨B,0,none⟩)))∧sr B w:=by
 obtain⟨p,h1,h2,h3,h4⟩:=gO H (k:=102) (show(cX oX.post 117).get 102=some (.cells #[.int .u32 1,.int .i32 0,.int .u32 0,.iface 399 (.pointer (some ⟨104,0,none⟩)),.slice none 0 0] 322 (0,0))by kernel_rfl);obtain⟨C,c1,c2⟩:=PA;obtain⟨q,q1,q2,q3,q4⟩:=gO H c1;rw[←c2]at q4;obtain⟨a,a1,a2,a3,a4⟩:=gO H (k:=107) (show(cX oX.post 117).get 107=some (.cells #[.int .u8 92,.int .u8 34] 5 (1180591620717411303424,0))by kernel_rfl);obtain⟨b,b1,b2,b3,b4⟩:=gO H (k:=110) (show(cX oX.post 117).get 110=some (.cells #[.int .u8 92,.int .u8 92] 5 (1180591620717411303424,0))by kernel_rfl);obtain⟨t,t1,t2,t3,t4⟩:=gO H (k:=103) (show(cX oX.post 117).get 103=some (.cells #[.string ⟨#[34]⟩,.string ⟨#[92]⟩] 9 (0,0))by kernel_rfl);obtain⟨v,v1,v2⟩:=h4 3 _ rfl;have hv:v=.iface 399 (.pointer (some ⟨q.b,0,none⟩)):=by
  cases v2 with
  |iface _ h=>
    cases h with
    |ptr h=>
     obtain⟨_,p',hp',rfl⟩:=h;have:p'=q:=by have:=hp'.symm.trans q1;injection this
     subst this;rw[q2];rfl
 subst hv;refine⟨p,q.b,h1,h2,v1,⟨q3,fun c hc n34 n92=>?_,?_,?_,?_⟩⟩;·obtain⟨v,e1,e2⟩:=q4 c _ (Cr c (by omega));unfold rv at e2;rw[if_neg n34,if_neg n92,if_neg (by omega)]at e2;rw[e1,Q9 e2]
 ·
  obtain⟨v,e1,e2⟩:=q4 34 _ (Cr 34 (by decide));obtain⟨p',c',f1,f2⟩:=Qz (show aX ρ (.slice (some ⟨107,0,none⟩) 2 1180591620717411303425) v from e2);have:p'=a:=by have:=f1.symm.trans a1;injection this
  subst this;obtain⟨x,x1,x2⟩:=a4 0 _ rfl;obtain⟨y,y1,y2⟩:=a4 1 _ rfl;refine⟨p'.b,c',by rw[e1,f2,a2],a3,by rw[x1,Jj x2],by rw[y1,Jj y2]⟩
 ·
  obtain⟨v,e1,e2⟩:=q4 92 _ (Cr 92 (by decide));obtain⟨p',c',f1,f2⟩:=Qz (show aX ρ (.slice (some ⟨110,0,none⟩) 2 1180591620717411303425) v from e2);have:p'=b:=by have:=f1.symm.trans b1;injection this
  subst this;obtain⟨x,x1,x2⟩:=b4 0 _ rfl;obtain⟨y,y1,y2⟩:=b4 1 _ rfl;refine⟨p'.b,c',by rw[e1,f2,b2],b3,by rw[x1,Jj x2],by rw[y1,Jj y2]⟩
 ·
  obtain⟨v,e1,e2⟩:=q4 256 _ (Cr 256 (by decide));obtain⟨p',c',f1,f2⟩:=Qz (show aX ρ (.slice (some ⟨103,0,none⟩) 2 2) v from e2);have:p'=t:=by have:=f1.symm.trans t1;injection this
  subst this;obtain⟨x,x1,x2⟩:=t4 0 _ rfl;obtain⟨y,y1,y2⟩:=t4 1 _ rfl;refine⟨p'.b,c',by rw[e1,f2,t2],t3,by rw[x1,Pz x2],by rw[y1,Pz y2]⟩
def Tryz.lays138_ren:Go.Shelf.Ren:=⟨fun|138=>425|195=>426|218=>427|143=>212|219=>258|217=>303|225=>304|224=>305|267=>306|266=>336|314=>337|n=>n,fun|9=>9|3=>3|4=>4|5=>5|0=>0|46=>262|146=>401|51=>310|n=>n,fun|1=>4|n=>n⟩
theorem Tryz.lays138 : Go.Proofs.Lays.n138 prog Tryz.lays138_ren := {
  mixed := by kernel_rfl
  f138 := func425.trans (congrArg some (by kernel_rfl))
  f143 := func212.trans (congrArg some (by kernel_rfl))
  f195 := func426.trans (congrArg some (by kernel_rfl))
  f217 := func303.trans (congrArg some (by kernel_rfl))
  f218 := func427.trans (congrArg some (by kernel_rfl))
  f219 := func258.trans (congrArg some (by kernel_rfl))
  f224 := func305.trans (congrArg some (by kernel_rfl))
  f225 := func304.trans (congrArg some (by kernel_rfl))
  f266 := func336.trans (congrArg some (by kernel_rfl))
  f267 := func306.trans (congrArg some (by kernel_rfl))
  f314 := func337.trans (congrArg some (by kernel_rfl))
  t0 := underlying0
  a0 := isAgg0
  z0 := sizeOf0
  v0 := zeroValue0
  t3 := underlying3
  a3 := isAgg3
  z3 := sizeOf3
  v3 := zeroValue3
  t4 := underlying4
  a4 := isAgg4
  z4 := sizeOf4
  v4 := zeroValue4
  t5 := underlying5
  a5 := isAgg5
  z5 := sizeOf5
  v5 := zeroValue5
  t9 := underlying9
  a9 := isAgg9
  z9 := sizeOf9
  v9 := zeroValue9
  t46 := underlying262
  a46 := isAgg262
  z46 := sizeOf262
  v46 := zeroValue262
  t51 := underlying310
  a51 := isAgg310
  z51 := sizeOf310
  v51 := zeroValue310
  t146 := underlying401
  a146 := isAgg401
  z146 := sizeOf401
  v146 := zeroValue401
  g1 := by kernel_rfl }
theorem sx(x:BA)(c:UInt8)(w:World):Calls prog 425 #[.string x,.string ⟨#[c]⟩] w fun e w'=>e=.returned (.int .i64 ((an x).count c:Nat))∧w'=w:=Any.strings_Count_one Tryz.lays138 x c w
theorem mY:∀l:List UInt8,(ez l).length=l.length+l.count 34+l.count 92
 |[]=>by rw[ez];rfl
 |c::l=>by
  have h:=mY l;rw[ez,List.count_cons,List.count_cons];by_cases h1:c=34;·
   subst h1;rw[if_pos (.inl rfl)];simp only[List.length_cons,h];have:((34:UInt8)==92)=false:=by decide
   simp[this];omega
  ·
   by_cases h2:c=92;·
    subst h2;rw[if_pos (.inr rfl)];simp only[List.length_cons,h];have:((92:UInt8)==34)=false:=by decide
    simp[this];omega
   ·rw[if_neg (by simp[h1,h2])];have e1:(c==34)=false:=ae h1;have e2:(c==92)=false:=ae h2;simp only[List.length_cons,h,e1,e2];simp;omega
theorem yu:∀l:List UInt8,l.count 34=0→l.count 92=0→ez l=l
 |[],_,_=>by rw[ez]
 |c::l,h1,h2=>by
   rw[List.count_cons]at h1 h2;have e1:(c==34)=false:=by
    cases h:c==34 with
    |false=>rfl
    |true=>rw[h]at h1;simp at h1
   have e2:(c==92)=false:=by
    cases h:c==92 with
    |false=>rfl
    |true=>rw[h]at h2;simp at h2
   rw[e1]at h1;rw[e2]at h2;rw[ez,if_neg (by rw[beq_eq_false_iff_ne]at e1 e2;simp[e1,e2]),yu l (by simpa using h1) (by simpa using h2)]
theorem Jk(a b:List UInt8):ez (a++b)=ez a++ez b:=by
 induction a with
 |nil=>rw[ez];rfl
 |cons c a ih=>rw[List.cons_append,ez,ez,ih];split<;>rfl
theorem sy(x:BA)(i:Nat)(h:i<x.size):(an x).take (i+1)=(an x).take i++[x[i]]:=by
 have hl:i<(an x).length:=by rw[bd];exact h
 rw[List.take_succ_eq_append_getElem hl];rfl
theorem sr.up{B:Nat}{w w':World}(h:sr B w)(hs:w.Since w.heap.size w'):sr B w':=by have c:∀(b j:Nat)(v:Value),b<w.heap.size→w.cell? ⟨b,j,none⟩=some v→w'.cell? ⟨b,j,none⟩=some v:=fun b j v hb hv=>(hs.cell (a:=⟨b,j,none⟩) hb).trans hv;obtain⟨q3,cp3,a0,a1,a2,a3⟩:=h.q34;obtain⟨q9,cp9,b0,b1,b2,b3⟩:=h.q92;obtain⟨qt,cpt,t0,t1,t2,t3⟩:=h.tr;have hl:=h.lt;exact⟨aw hl hs.size,fun k h1 h2 h3=>c _ _ _ hl (h.no k h1 h2 h3),⟨q3,cp3,c _ _ _ hl a0,aw a1 hs.size,c _ _ _ a1 a2,c _ _ _ a1 a3⟩,⟨q9,cp9,c _ _ _ hl b0,aw b1 hs.size,c _ _ _ b1 b2,c _ _ _ b1 b3⟩,⟨qt,cpt,c _ _ _ hl t0,aw t1 hs.size,c _ _ _ t1 t2,c _ _ _ t1 t3⟩⟩
def cu(l:List UInt8):Nat:=l.count 34+l.count 92
theorem GC(x:BA)(i:Nat)(h:i<x.size):cu ((an x).take (i+1))=cu ((an x).take i)+(if x[i]=34∨x[i]=92 then 1 else 0):=by
 unfold cu;rw[sy x i h,List.count_append,List.count_append];by_cases h1:x[i]=34;·rw[h1,if_pos (.inl rfl)];simp;omega
 ·
  by_cases h2:x[i]=92;·rw[h2,if_pos (.inr rfl)];simp;omega
  ·rw[if_neg (by simp[h1,h2])];simp[h1,h2]
theorem GD(l:List UInt8):cu l≤2*l.length:=by unfold cu;have h1:=List.count_le_length (a:=(34:UInt8)) (l:=l);have h2:=List.count_le_length (a:=(92:UInt8)) (l:=l);omega
theorem GF(l:List UInt8)(i:Nat):cu (l.take i)≤cu l:=by unfold cu;have h1:=(List.take_sublist i l).count_le (34:UInt8);have h2:=(List.take_sublist i l).count_le (92:UInt8);omega
theorem GG(x:BA)(i:Nat)(h:i<x.size):ez ((an x).take (i+1))=ez ((an x).take i)++(if x[i]=34∨x[i]=92 then[92,x[i]]else[x[i]]):=by rw[sy x i h,Jk];congr 1
theorem QA(g j:Nat):((⟨g,0,none⟩:Addr).add j)=⟨g,j,none⟩:=by unfold Addr.add;split<;>simp_all
theorem GH:(prog.info? 5).map (·.size)=some 1:=by kernel_rfl
theorem GI{w:World}{q cp:Nat}{a b:UInt8}(h0:w.cell? ⟨q,0,none⟩=some (.int .u8 (a.toNat:Nat)))(h1:w.cell? ⟨q,1,none⟩=some (.int .u8 (b.toNat:Nat))):Lib.HoldsBytes w (.slice (some ⟨q,0,none⟩) 2 cp) [a,b]:=by
 refine⟨some ⟨q,0,none⟩,cp,rfl,(fun h=>by cases h),fun a' ha j x hj=>?_⟩;injection ha with ha;subst ha;match j,hj with
 |0,hj=>cases hj;exact h0
 |1,hj=>cases hj;exact h1
 |j+2,hj=>simp at hj
theorem Jl{w0 wr:World}{h N j:Nat}{acc:List UInt8}(hb:Lib.Buf w0 wr h N acc)(hj:j=acc.length)(hN:j<N)(c:UInt8){v:Value}(hv:wr.cell? ⟨h,j,none⟩=some v):Lib.Buf w0 (wr.setCell ⟨h,j,none⟩ (.int .u8 (c.toNat:Nat))) h N (acc++[c]):=by
 have other:∀k,k≠j→(wr.setCell ⟨h,j,none⟩ (.int .u8 (c.toNat:Nat))).cell? ⟨h,k,none⟩=wr.cell? ⟨h,k,none⟩:=fun k hk=>aM _ _ _ _ (by intro e;injection e with _ e;exact hk e.symm);have same:(wr.setCell ⟨h,j,none⟩ (.int .u8 (c.toNat:Nat))).cell? ⟨h,j,none⟩=some (.int .u8 (c.toNat:Nat)):=World.cell?_setCell_same _ _ _ hv;refine⟨hb.below.setCell (p:=⟨h,j,none⟩) (ai _) _,fun k hk=>?_,fun k hk=>?_,fun k x hx=>?_,by rw[List.length_append];simp;omega⟩;·
  by_cases e:k=j;·rw[e,same];rfl
  ·rw[other k e];exact hb.there k hk
 ·have:=hb.free k hk;simpa using this
 ·
  by_cases e:k=j;·rw[e,hj,List.getElem?_append_right (ai _),Nat.sub_self]at hx;have hx:some c=some x:=hx;injection hx with hx;rw[e,same,hx]
  ·
   rw[other k e];refine hb.holds k x ?_;rcases Nat.lt_or_ge k acc.length with h1|h1;·rw[List.getElem?_append_left h1]at hx;exact hx
   ·rw[aU (by rw[List.length_append];simp;omega)]at hx;cases hx
theorem Ax(B:Nat)(x:BA)(w:World)(h:sr B w)(hx:x.size≤1000000):Calls prog 423 #[.pointer (some ⟨B,0,none⟩),.string x] w fun e w'=>e=.returned (.string (ofBytes (ez (an x))))∧w.Since w.heap.size w':=by
 obtain⟨qt,cpt,t0,-,-,-⟩:=h.tr;have HR:=aa h;have HEL:Hid ((ez (an x)).length=x.size+cu (an x)):=aa (by rw[mY,bd];unfold cu;omega);have HCL:=aa (GD (an x));have HCN:=aa (fun i h=>GC x i h);have HBL:Hid ((an x).length=x.size):=aa (bd x);have HCW:Hid (cu (an x)=(an x).count 34+(an x).count 92):=aa rfl;have KC3:=aa (fun W=>sx x 34 W);have KC9:=aa (fun W=>sx x 92 W);have HCT:Hid (∀i,cu ((an x).take i)≤2*x.size):=aa (fun i=>by have:=GD ((an x).take i);rw[List.length_take,bd]at this;omega);have HC0:Hid (cu ((an x).take 0)=0):=aa rfl;have HCE:Hid (cu ((an x).take x.size)=cu (an x)):=aa (by rw[←bd,List.take_length]);clear h;go_enter func423,ntmps423;go_upto_if 26 with fail;go_cut[5,6,8,9,10,11]from 26 to 80(fun v5 v6 v8 v9 v10 v11 wx=>v5=.int .i64 ((x.size+cu (an x):Nat))∧v6=.bool (decide (0<cu (an x)))∧Hid (w.Since w.heap.size wx));case first=>
  by_cases h16:16≤x.size;·
   have f16:(16:Int)≤(x.size:Int):=by omega
   rw[show decide ((16:Int)≤(x.size:Int))=true from aB f16];have l34:((⟨#[34]⟩:BA)[0]'(by decide)).toNat=34:=rfl;have l92:((⟨#[92]⟩:BA)[0]'(by decide)).toNat=92:=rfl;generalize(an x).count 34=c3 at*;generalize(an x).count 92=c9 at*;have hc3:(c3:Int)≤2000000:=by have:=HCW.o;have:=HCL.o;have:=HBL.o;omega
   have hc9:(c9:Int)≤2000000:=by have:=HCW.o;have:=HCL.o;have:=HBL.o;omega
   have z1:IntKind.i64.wrap ((c3:Int)*1)=(c3:Int):=by rw[Int.mul_one];exact ax _ (by omega)
   have z2:IntKind.i64.wrap ((c9:Int)*1)=(c9:Int):=by rw[Int.mul_one];exact ax _ (by omega)
   have z3:IntKind.i64.wrap (c3:Int)=(c3:Int):=ax _ (by omega);have z4:IntKind.i64.wrap (c9:Int)=(c9:Int):=ax _ (by omega);go_wp2_with fail;go_loopg[5,6,8,9,32]2(fun gg o5 o6 o8 o9 o32 wr=>∃(i S:Nat)(A:Bool),gg=2-i∧i≤2∧o32=.int .i64 (i:Nat)∧o5=.int .i64 (S:Nat)∧o6=.bool A∧Hid (S=x.size+((if 1≤i then c3 else 0)+(if 2≤i then c9 else 0)))∧Hid (A=decide (0<(if 1≤i then c3 else 0)+(if 2≤i then c9 else 0)))∧Hid (w.Since w.heap.size wr));case atStart=>exact⟨0,_,_,rfl,by omega,rfl,rfl,rfl,aa rfl,aa rfl,aa (ah _ _)⟩
   case round=>
    obtain⟨i,S,A,rfl,hi,rfl,rfl,rfl,hS,hA,hW⟩:=hrel;have HRW:=aa (HR.o.up hW.o);obtain⟨q3,cp3,a0,-,-,-⟩:=HRW.o.q34;obtain⟨q9,cp9,b0,-,-,-⟩:=HRW.o.q92;obtain⟨qt',cpt',t0',-,t2,t3⟩:=HRW.o.tr;have tq:Value.slice (some ⟨qt',0,none⟩) 2 cpt'=Value.slice (some ⟨qt,0,none⟩) 2 cpt:=by obtain⟨-,hl⟩:=aF trivial HR.o.lt;have h1:=(hW.o.cell (a:=⟨B,256,none⟩) hl).trans t0;rw[t0']at h1;injection h1
    injection tq with tq _ tq2;injection tq with tq;injection tq with tq;subst tq tq2;rcases(show i=0∨i=1∨i=2 by omega)with rfl|rfl|rfl;·
     skip;have KC:=aa (KC3.o wr);by_cases hz:c3=0;·
      have fz:((c3:Int)!=0)=false:=bne_eq_false_iff_eq.2 (by omega);have hS2:Hid (S=x.size+((if 1≤1 then c3 else 0)+(if 2≤1 then c9 else 0))):=aa (by rw[hS.o];simp[hz]);have hA2:Hid (A=decide (0<(if 1≤1 then c3 else 0)+(if 2≤1 then c9 else 0))):=aa (by rw[hA.o];simp[hz]);clear hz;go_wp2_with fail;refine KC.o.mono ?_;rintro r0 w2⟨rfl,rfl⟩;go_wp2_with fail;go_roundg(2-1);case measure=>omega
      case rel=>exact⟨1,S,A,rfl,by omega,rfl,rfl,rfl,hS2,hA2,hW⟩
     ·
      have fz:((c3:Int)!=0)=true:=bne_iff_ne.2 (by omega);have hSb:S≤10000000:=by have:=hS.o;simp at this;omega
      have z5:IntKind.i64.wrap ((S:Int)+(c3:Int))=((S+c3:Nat):Int):=by rw[ax _ (by omega)];omega
      have hS2:Hid (S+c3=x.size+((if 1≤1 then c3 else 0)+(if 2≤1 then c9 else 0))):=aa (by rw[hS.o];simp;try omega);have hA2:Hid (true=decide (0<(if 1≤1 then c3 else 0)+(if 2≤1 then c9 else 0))):=aa (by simp;omega);have hW2:Hid (w.Since w.heap.size wr.drew):=aa hW.o.drew;clear hz;go_wp2_with fail;refine KC.o.mono ?_;rintro r0 w2⟨rfl,rfl⟩;go_wp2_with fail;have dd:w2.drew.cell? ⟨B,34,none⟩=_:=a0;go_region;all_goals
       go_wp2_with fail;go_roundg(2-1);case measure=>omega
       case rel=>exact⟨1,S+c3,true,rfl,by omega,rfl,rfl,rfl,hS2,hA2,hW2⟩
    ·
     skip;have KC:=aa (KC9.o wr);by_cases hz:c9=0;·
      have fz:((c9:Int)!=0)=false:=bne_eq_false_iff_eq.2 (by omega);have hS2:Hid (S=x.size+((if 1≤2 then c3 else 0)+(if 2≤2 then c9 else 0))):=aa (by rw[hS.o];simp[hz]);have hA2:Hid (A=decide (0<(if 1≤2 then c3 else 0)+(if 2≤2 then c9 else 0))):=aa (by rw[hA.o];simp[hz]);clear hz;go_wp2_with fail;refine KC.o.mono ?_;rintro r0 w2⟨rfl,rfl⟩;go_wp2_with fail;go_roundg(2-2);case measure=>omega
      case rel=>exact⟨2,S,A,rfl,by omega,rfl,rfl,rfl,hS2,hA2,hW⟩
     ·
      have fz:((c9:Int)!=0)=true:=bne_iff_ne.2 (by omega);have hSb:S≤10000000:=by have:=hS.o;simp at this;omega
      have z5:IntKind.i64.wrap ((S:Int)+(c9:Int))=((S+c9:Nat):Int):=by rw[ax _ (by omega)];omega
      have hS2:Hid (S+c9=x.size+((if 1≤2 then c3 else 0)+(if 2≤2 then c9 else 0))):=aa (by rw[hS.o];simp;try omega);have hA2:Hid (true=decide (0<(if 1≤2 then c3 else 0)+(if 2≤2 then c9 else 0))):=aa (by simp;omega);have hW2:Hid (w.Since w.heap.size wr.drew):=aa hW.o.drew;clear hz;go_wp2_with fail;refine KC.o.mono ?_;rintro r0 w2⟨rfl,rfl⟩;go_wp2_with fail;have dd:w2.drew.cell? ⟨B,92,none⟩=_:=b0;go_region;all_goals
       go_wp2_with fail;go_roundg(2-2);case measure=>omega
       case rel=>exact⟨2,S+c9,true,rfl,by omega,rfl,rfl,rfl,hS2,hA2,hW2⟩
    ·have hS2:Hid (S=x.size+cu (an x)):=aa (by rw[hS.o,HCW.o];simp);have hA2:Hid (A=decide (0<cu (an x))):=aa (by rw[hA.o,HCW.o];simp);go_wp2_with fail;go_meet;exact⟨by rw[hS2.o],by rw[hA2.o],hW⟩
  ·
   have f16:¬(16:Int)≤(x.size:Int):=by omega
   rw[show decide ((16:Int)≤(x.size:Int))=false from aA f16];go_wp2_with fail;go_loopg[5,6,10,11]x.size(fun gg o5 o6 o10 o11 wr=>∃(i S:Nat)(A:Bool),gg=x.size-i∧i≤x.size∧o10=.int .i64 (i:Nat)∧o5=.int .i64 (S:Nat)∧o6=.bool A∧Hid (S=x.size+cu ((an x).take i))∧Hid (A=decide (0<cu ((an x).take i)))∧Hid (w.Since w.heap.size wr));case atStart=>
    exact⟨0,x.size,false,rfl,by omega,rfl,rfl,rfl,aa (by rw[HC0.o];rfl),aa (by rw[HC0.o];rfl),aa (ah _ _)⟩
   case round=>
    obtain⟨i,S,A,rfl,hi,rfl,rfl,rfl,hS,hA,hW⟩:=hrel;have HRW:=aa (HR.o.up hW.o);by_cases h1:i<x.size;·
     have i1:(i:Int)<(x.size:Int):=by omega
     have z6:IntKind.i64.wrap ((i:Int)+1)=(i:Int)+1:=ax _ (by omega);have HN:=aa (HCN.o i h1);have hb:x[i].toNat<256:=x[i].toNat_lt;have hbi:(x[i].toNat:Int)<256:=by omega
     have hSb:S≤10000000:=by have:=hS.o;have:=HCT.o i;omega
     by_cases hc:x[i]=34∨x[i]=92;·
      obtain⟨q,cp,dd⟩:∃q cp,wr.cell? ⟨B,x[i].toNat,none⟩=some (.slice (some ⟨q,0,none⟩) 2 cp):=by
       rcases hc with e|e;·
        obtain⟨q,cp,a0,_⟩:=HRW.o.q34;exact⟨q,cp,by rw[e];exact a0⟩
       ·obtain⟨q,cp,a0,_⟩:=HRW.o.q92;exact⟨q,cp,by rw[e];exact a0⟩
      have z5:IntKind.i64.wrap ((S:Int)+1)=((S+1:Nat):Int):=by rw[ax _ (by omega)];omega
      have hS2:Hid (S+1=x.size+cu ((an x).take (i+1))):=aa (by rw[HN.o,if_pos hc,hS.o];omega);have hA2:Hid (true=decide (0<cu ((an x).take (i+1)))):=aa (by rw[HN.o,if_pos hc];simp);clear hc;go_wp2_with fail;go_roundg(x.size-(i+1));case measure=>omega
      case rel=>exact⟨i+1,S+1,true,rfl,by omega,by simp,rfl,rfl,hS2,hA2,hW⟩
     ·
      have dd:wr.cell? ⟨B,x[i].toNat,none⟩=some (.slice none 0 0):=HRW.o.no _ hb (fun e=>hc (.inl (UInt8.toNat.inj e))) (fun e=>hc (.inr (UInt8.toNat.inj e)));have hS2:Hid (S=x.size+cu ((an x).take (i+1))):=aa (by rw[HN.o,if_neg hc,hS.o];omega);have hA2:Hid (A=decide (0<cu ((an x).take (i+1)))):=aa (by rw[HN.o,if_neg hc,hA.o];simp);clear hc;go_wp2_with fail;go_roundg(x.size-(i+1));case measure=>omega
      case rel=>exact⟨i+1,S,A,rfl,by omega,by simp,rfl,rfl,hS2,hA2,hW⟩
    ·
     have i1:¬(i:Int)<(x.size:Int):=by omega
     have hS2:Hid (S=x.size+cu (an x)):=aa (by rw[hS.o,show i=x.size by omega,HCE.o]);have hA2:Hid (A=decide (0<cu (an x))):=aa (by rw[hA.o,show i=x.size by omega,HCE.o]);go_wp2_with fail;go_meet;exact⟨by rw[hS2.o],by rw[hA2.o],hW⟩
 case rest=>
  obtain⟨rfl,rfl,hW0⟩:=hcut;by_cases hc0:cu (an x)=0;·
   have f0:decide (0<cu (an x))=false:=by rw[hc0];rfl
   have hF:Hid (ofBytes (ez (an x))=x):=aa (by
    rw[yu (an x) (by have:=HCW.o;omega) (by have:=HCW.o;omega)];rfl);rw[f0];clear hc0 f0;go_wp2_with fail;go_ret;exact⟨by rw[hF.o];rfl,hW0.o⟩
  ·
   have f0:decide (0<cu (an x))=true:=aB (by omega);rw[f0];have HRW:=aa (HR.o.up hW0.o);have HEI:Hid (∀i,(ez ((an x).take i)).length≤x.size+cu (an x)):=aa (fun i=>by rw[mY,List.length_take,bd];have:=GF (an x) i;unfold cu at this⊢;omega);have HE2:=aa (fun i h=>GG x i h);have hN:x.size+cu (an x)≤3000000:=by have:=HCL.o;have:=HBL.o;omega
   generalize x.size+cu (an x)=N at*;obtain⟨i5,hi5,hz0,hz1,hz2⟩:=info_parts BY;have hMK:=run_makeSlice (P:=prog) (w:=wc) 190 5 i5 (.int .u8 0) underlying190 hi5 hz0 .i64 .i64 (N:Int) (N:Int) (by omega) (Int.le_refl _) (by rw[hz1];omega) (by rw[hz2];omega) (by omega);rw[Int.toNat_natCast]at hMK;obtain⟨CS,hCS⟩:∃CS,madeCells (Value.int .u8 0).cells (N*i5.size)=CS:=⟨_,rfl⟩;have hcs:CS.size=N:=by rw[←hCS,size_madeCells,hz1,Nat.mul_one]
   rw[hCS]at hMK;obtain⟨W1,hW1⟩:∃W1,wc.alloc (.cells CS 5)=W1:=⟨_,rfl⟩;rw[hW1]at hMK;have HB1:Hid (Lib.Buf wc W1 wc.heap.size N (ez ((an x).take 0))):=aa (by rw[←hW1,List.take_zero,ez];exact Lib.Buf.start wc CS 5 N 0 (Nat.le_of_eq hcs.symm));clear hW1 hCS hcs hc0 f0 hi5 hz0 hz1 hz2;go_wp2_with fail;go_loopg[13,14,15]x.size(fun gg o13 o14 o15 wr=>∃(i j:Nat),gg=x.size-i∧i≤x.size∧o14=.int .i64 (i:Nat)∧o13=.int .i64 (j:Nat)∧Hid (Lib.Buf wc wr wc.heap.size N (ez ((an x).take i)))∧Hid (j=(ez ((an x).take i)).length));case atStart=>
    exact⟨0,0,rfl,by omega,rfl,rfl,HB1,aa (by rw[List.take_zero,ez];rfl)⟩
   case round=>
    obtain⟨i,j,rfl,hi,rfl,rfl,hBf,hj⟩:=hrel;have HS:Hid (wc.Since wc.heap.size wr):=aa ⟨hBf.o.below.os,hBf.o.below.tape,hBf.o.below.output,hBf.o.below.size,hBf.o.below.block⟩;have HRR:=aa (HRW.o.up HS.o);by_cases h1:i<x.size;·
     have i1:(i:Int)<(x.size:Int):=by omega
     have z6:IntKind.i64.wrap ((i:Int)+1)=(i:Int)+1:=ax _ (by omega);have HN:=aa (HE2.o i h1);have HNL:=aa (HEI.o (i+1));have hb:x[i].toNat<256:=x[i].toNat_lt;have hbi:(x[i].toNat:Int)<256:=by omega
     obtain⟨L,hL⟩:∃L,ez ((an x).take i)=L:=⟨_,rfl⟩;obtain⟨L2,hL2⟩:∃L2,ez ((an x).take (i+1))=L2:=⟨_,rfl⟩;rw[hL]at hBf hj HN;rw[hL2]at HN HNL;have HL2:=aa hL2;clear hL hL2;by_cases hc:x[i]=34∨x[i]=92;·
      obtain⟨q,cp,dd,hv⟩:∃q cp,wr.cell? ⟨B,x[i].toNat,none⟩=some (.slice (some ⟨q,0,none⟩) 2 cp)∧Lib.HoldsBytes wc (.slice (some ⟨q,0,none⟩) 2 cp) [92,x[i]]:=by
       rcases hc with e|e;·
        obtain⟨q,cp,a0,a1,a2,a3⟩:=HRW.o.q34;exact⟨q,cp,by rw[e];exact(HS.o.cell (a:=⟨B,34,none⟩) HRW.o.lt).trans a0,by rw[e];exact GI a2 a3⟩
       ·obtain⟨q,cp,a0,a1,a2,a3⟩:=HRW.o.q92;exact⟨q,cp,by rw[e];exact(HS.o.cell (a:=⟨B,92,none⟩) HRW.o.lt).trans a0,by rw[e];exact GI a2 a3⟩
      have hN2:L2=L++[92,x[i]]:=by rw[HN.o,if_pos hc]
      have hfit:L.length+[92,x[i]].length≤N:=by have:=HNL.o;rw[hN2,List.length_append]at this;exact this
      obtain⟨wn,hCP,hBn⟩:=Lib.copy_part (P:=prog) wc wr.drew wc.heap.size N L [92,x[i]] (.slice (some ⟨q,0,none⟩) 2 cp) 190 3 5 underlying190 GH (ai _) ⟨hBf.o.below.drew,hBf.o.there,hBf.o.free,hBf.o.holds,hBf.o.fits⟩ hv hfit;have hSL:∀W:World,(Instr.slice 190 (.slice (some ⟨wc.heap.size,0,none⟩) N N) (some (.int .i64 (j:Nat))) none none).run prog W=.ok (Lib.tailV wc.heap.size N j) W:=fun W=>Lib.run_slice_tailV W 190 5 underlying190 sizeOf5 wc.heap.size N j (by have:=hj.o;have:=hBf.o.fits;omega);rw[←hj.o]at hCP;have z7:IntKind.i64.wrap ((j:Int)+2)=((j+2:Nat):Int):=by
       rw[ax _ (by have:=hj.o;have:=hBf.o.fits;omega)];omega
      have HBn:=aa hBn;have HN2:=aa hN2;have HJ2:Hid (j+2=L2.length):=aa (by rw[hN2,List.length_append,hj.o];rfl);have dr:wr.drew.cell? ⟨B,x[i].toNat,none⟩=some (.slice (some ⟨q,0,none⟩) 2 cp):=dd;clear hc hv hfit hBn hN2;go_wp2_with fail;go_region;all_goals
       go_wp2_with fail;go_roundg(x.size-(i+1));case measure=>omega
       case rel=>
        exact⟨i+1,j+2,rfl,by omega,by simp,rfl,aa (by rw[HL2.o,HN2.o];exact HBn.o),aa (by rw[HL2.o];exact HJ2.o)⟩
     ·
      have dd:wr.cell? ⟨B,x[i].toNat,none⟩=some (.slice none 0 0):=HRR.o.no _ hb (fun e=>hc (.inl (UInt8.toNat.inj e))) (fun e=>hc (.inr (UInt8.toNat.inj e)));have hN2:L2=L++[x[i]]:=by rw[HN.o,if_neg hc]
      have hjN:j<N:=by have h6:=HNL.o;rw[hN2,List.length_append]at h6;have h5:=hj.o;have h7:[x[i]].length=1:=rfl;omega
      have hji:(j:Int)<(N:Int):=by omega
      obtain⟨v0,hv0⟩:=Option.isSome_iff_exists.1 (hBf.o.there j hjN);have hf0:=hBf.o.free j hjN;have z7:IntKind.i64.wrap ((j:Int)+1)=((j+1:Nat):Int):=by rw[ax _ (by omega)];omega
      have HBn:=aa (Jl hBf.o hj.o hjN x[i] hv0);have HN2:=aa hN2;have HJ2:Hid (j+1=L2.length):=aa (by rw[hN2,List.length_append,hj.o];rfl);clear hc hN2;go_wp2_with fail;go_roundg(x.size-(i+1));case measure=>omega
      case rel=>
       exact⟨i+1,j+1,rfl,by omega,by simp,rfl,aa (by rw[HL2.o,HN2.o];exact HBn.o),aa (by rw[HL2.o];exact HJ2.o)⟩
    ·
     have i1:¬(i:Int)<(x.size:Int):=by omega
     have hE:ez ((an x).take i)=ez (an x):=by
      rw[show i=(an x).length by rw[bd];omega,List.take_length]
     rw[hE]at hBf hj;have hCV:(convert 190 9 (.slice (some ⟨wc.heap.size,0,none⟩) N N)).run prog wr=.ok (.string (ofBytes (ez (an x)))) wr:=by
      have h:=run_convert_bytes_back (P:=prog) wr 190 9 5 ⟨wc.heap.size,0,none⟩ N (ez (an x)) underlying190 underlying5 underlying9 (fun j hj=>by rw[QA];exact hBf.o.holds j _ (aD hj));rw[HEL.o]at h;exact h
     have HF:=aa (bf hW0.o HS.o);clear hE;go_wp2_with fail;go_ret;exact⟨rfl,HF.o⟩
