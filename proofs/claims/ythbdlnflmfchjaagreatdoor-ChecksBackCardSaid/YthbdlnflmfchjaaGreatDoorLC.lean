/- A replacer of quotes used: its byte table walked. -/
import Derived.Test.YthbdlnflmfchjaaGreatDoorYS
import Derived.Test.YthbdlnflmfchjaaGreatDoorUG
import Derived.Test.YthbdlnflmfchjaaGreatDoorUT
import Derived.Deep.CutRange
import Derived.Deep.CutBlock
set_option linter.unusedVariables false
set_option linter.unusedSimpArgs false
namespace Go.Proofs.YthbdlnflmfchjaaGreatDoor
open Go.RowKit Go.Proofs.Fm
set_option maxHeartbeats 6400000
set_option maxRecDepth 1000000
theorem bytes_take (x:ByteArray) (i:Nat) (h:i < x.size):(bytesOf x).take (i+1)=(bytesOf x).take i ++ [x[i]]:=by
 have hl:i < (bytesOf x).length:=by rw [bytesOf_length];exact h
 rw [List.take_succ_eq_append_getElem hl]
 rfl
theorem RepAt.up {B:Nat} {w w':World} (h:RepAt B w) (hs:w.Since w.heap.size w'):RepAt B w':=by
 have c:∀ (b j:Nat) (v:Value),b < w.heap.size→w.cell? ⟨b,j,none⟩=some v→w'.cell? ⟨b,j,none⟩=some v:=fun b j v hb hv=>(hs.cell (a:=⟨b,j,none⟩) hb).trans hv
 obtain ⟨q3,cp3,a0,a1,a2,a3⟩:=h.q34
 obtain ⟨q9,cp9,b0,b1,b2,b3⟩:=h.q92
 obtain ⟨qt,cpt,t0,t1,t2,t3⟩:=h.tr
 have hl:=h.lt
 exact ⟨Nat.lt_of_lt_of_le hl hs.size,fun k h1 h2 h3=>c _ _ _ hl (h.no k h1 h2 h3),⟨q3,cp3,c _ _ _ hl a0,Nat.lt_of_lt_of_le a1 hs.size,c _ _ _ a1 a2,c _ _ _ a1 a3⟩,⟨q9,cp9,c _ _ _ hl b0,Nat.lt_of_lt_of_le b1 hs.size,c _ _ _ b1 b2,c _ _ _ b1 b3⟩,⟨qt,cpt,c _ _ _ hl t0,Nat.lt_of_lt_of_le t1 hs.size,c _ _ _ t1 t2,c _ _ _ t1 t3⟩⟩
def cnt (l:List UInt8):Nat:=l.count 34+l.count 92
theorem cnt_next (x:ByteArray) (i:Nat) (h:i < x.size):cnt ((bytesOf x).take (i+1))=cnt ((bytesOf x).take i)+(if x[i]=34 ∨ x[i]=92 then 1 else 0):=by
 unfold cnt
 rw [bytes_take x i h,List.count_append,List.count_append]
 by_cases h1:x[i]=34
 ·
  rw [h1,if_pos (.inl rfl)]
  simp;omega
 ·
  by_cases h2:x[i]=92
  ·
   rw [h2,if_pos (.inr rfl)]
   simp;omega
  ·
   rw [if_neg (by simp [h1,h2])]
   simp [h1,h2]
theorem cnt_le (l:List UInt8):cnt l≤2 * l.length:=by
 unfold cnt
 have h1:=List.count_le_length (a:=(34:UInt8)) (l:=l)
 have h2:=List.count_le_length (a:=(92:UInt8)) (l:=l)
 omega
theorem cnt_take (l:List UInt8) (i:Nat):cnt (l.take i)≤cnt l:=by
 unfold cnt
 have h1:=(List.take_sublist i l).count_le (34:UInt8)
 have h2:=(List.take_sublist i l).count_le (92:UInt8)
 omega
theorem esc_next (x:ByteArray) (i:Nat) (h:i < x.size):esc ((bytesOf x).take (i+1))=esc ((bytesOf x).take i) ++ (if x[i]=34 ∨ x[i]=92 then [92,x[i]] else [x[i]]):=by
 rw [bytes_take x i h,esc_app]
 congr 1
theorem add0 (g j:Nat):((⟨g,0,none⟩:Addr).add j)=⟨g,j,none⟩:=by unfold Addr.add;split <;> simp_all
theorem byte_one:(Tryz.prog.info? 5).map (·.size)=some 1:=by kernel_rfl
theorem holds2 {w:World} {q cp:Nat} {a b:UInt8} (h0:w.cell? ⟨q,0,none⟩=some (.int .u8 (a.toNat:Nat))) (h1:w.cell? ⟨q,1,none⟩=some (.int .u8 (b.toNat:Nat))):Lib.HoldsBytes w (.slice (some ⟨q,0,none⟩) 2 cp) [a,b]:=by
 refine ⟨some ⟨q,0,none⟩,cp,rfl,(fun h=>by cases h),fun a' ha j x hj=>?_⟩
 injection ha with ha
 subst ha
 match j,hj with
 | 0,hj=>cases hj;exact h0
 | 1,hj=>cases hj;exact h1
 | j+2,hj=>simp at hj
theorem buf_put {w0 wr:World} {h N j:Nat} {acc:List UInt8} (hb:Lib.Buf w0 wr h N acc) (hj:j=acc.length) (hN:j < N) (c:UInt8) {v:Value} (hv:wr.cell? ⟨h,j,none⟩=some v):Lib.Buf w0 (wr.setCell ⟨h,j,none⟩ (.int .u8 (c.toNat:Nat))) h N (acc ++ [c]):=by
 have other:∀ k,k ≠ j→(wr.setCell ⟨h,j,none⟩ (.int .u8 (c.toNat:Nat))).cell? ⟨h,k,none⟩=wr.cell? ⟨h,k,none⟩:=fun k hk=>World.cell?_setCell_other _ _ _ _ (by intro e;injection e with _ e;exact hk e.symm)
 have same:(wr.setCell ⟨h,j,none⟩ (.int .u8 (c.toNat:Nat))).cell? ⟨h,j,none⟩=some (.int .u8 (c.toNat:Nat)):=World.cell?_setCell_same _ _ _ hv
 refine ⟨hb.below.setCell (p:=⟨h,j,none⟩) (Nat.le_refl _) _,fun k hk=>?_,fun k hk=>?_,fun k x hx=>?_,by rw [List.length_append];simp;omega⟩
 ·
  by_cases e:k=j
  ·
   rw [e,same];rfl
  ·
   rw [other k e];exact hb.there k hk
 ·
  have:=hb.free k hk
  simpa using this
 ·
  by_cases e:k=j
  ·
   rw [e,hj,List.getElem?_append_right (Nat.le_refl _),Nat.sub_self] at hx
   have hx:some c=some x:=hx
   injection hx with hx
   rw [e,same,hx]
  ·
   rw [other k e]
   refine hb.holds k x ?_
   rcases Nat.lt_or_ge k acc.length with h1 | h1
   ·
    rw [List.getElem?_append_left h1] at hx;exact hx
   ·
    rw [List.getElem?_eq_none (by rw [List.length_append];simp;omega)] at hx;cases hx
theorem brepl_says (B:Nat) (x:ByteArray) (w:World) (h:RepAt B w) (hx:x.size≤1000000):
  Calls Tryz.prog 423 #[.pointer (some ⟨B,0,none⟩),.string x] w fun e w'=>e=.returned (.string (ofBytes (esc (bytesOf x))))∧w.Since w.heap.size w':=by
 obtain ⟨qt,cpt,t0,-,-,-⟩:=h.tr
 have HR:=Lib.hid h
 have HEL:Hid ((esc (bytesOf x)).length=x.size+cnt (bytesOf x)):=Lib.hid (by rw [esc_length,bytesOf_length];unfold cnt;omega)
 have HCL:=Lib.hid (cnt_le (bytesOf x))
 have HCN:=Lib.hid (fun i h=>cnt_next x i h)
 have HBL:Hid ((bytesOf x).length=x.size):=Lib.hid (bytesOf_length x)
 have HCW:Hid (cnt (bytesOf x)=(bytesOf x).count 34+(bytesOf x).count 92):=Lib.hid rfl
 have KC3:=Lib.hid (fun W=>count_says x 34 W)
 have KC9:=Lib.hid (fun W=>count_says x 92 W)
 have HCT:Hid (∀ i,cnt ((bytesOf x).take i)≤2 * x.size):=Lib.hid (fun i=>by have:=cnt_le ((bytesOf x).take i);rw [List.length_take,bytesOf_length] at this;omega)
 have HC0:Hid (cnt ((bytesOf x).take 0)=0):=Lib.hid rfl
 have HCE:Hid (cnt ((bytesOf x).take x.size)=cnt (bytesOf x)):=Lib.hid (by rw [← bytesOf_length,List.take_length])
 clear h
 go_enter Tryz.func423,Tryz.ntmps423
 go_upto_if 26 with fail
 go_cut [5,6,8,9,10,11] from 26 to 80 (fun v5 v6 v8 v9 v10 v11 wx=>v5=.int .i64 ((x.size+cnt (bytesOf x):Nat))∧v6=.bool (decide (0 < cnt (bytesOf x)))∧Hid (w.Since w.heap.size wx))
 case first=>
  by_cases h16:16≤x.size
  ·
   have f16:(16:Int)≤(x.size:Int):=by omega
   rw [show decide ((16:Int)≤(x.size:Int))=true from decide_eq_true f16]
   have l34:((⟨#[34]⟩:ByteArray)[0]'(by decide)).toNat=34:=rfl
   have l92:((⟨#[92]⟩:ByteArray)[0]'(by decide)).toNat=92:=rfl
   generalize (bytesOf x).count 34=c3 at *
   generalize (bytesOf x).count 92=c9 at *
   have hc3:(c3:Int)≤2000000:=by have:=HCW.out;have:=HCL.out;have:=HBL.out;omega
   have hc9:(c9:Int)≤2000000:=by have:=HCW.out;have:=HCL.out;have:=HBL.out;omega
   have z1:IntKind.i64.wrap ((c3:Int) * 1)=(c3:Int):=by rw [Int.mul_one];exact IntWalk.i64_in _ (by omega)
   have z2:IntKind.i64.wrap ((c9:Int) * 1)=(c9:Int):=by rw [Int.mul_one];exact IntWalk.i64_in _ (by omega)
   have z3:IntKind.i64.wrap (c3:Int)=(c3:Int):=IntWalk.i64_in _ (by omega)
   have z4:IntKind.i64.wrap (c9:Int)=(c9:Int):=IntWalk.i64_in _ (by omega)
   go_wp2_with fail
   go_loopg [5,6,8,9,32] 2 (fun gg o5 o6 o8 o9 o32 wr=>∃ (i S:Nat) (A:Bool),gg=2 - i∧i≤2∧o32=.int .i64 (i:Nat)∧o5=.int .i64 (S:Nat)∧o6=.bool A∧Hid (S=x.size+((if 1≤i then c3 else 0)+(if 2≤i then c9 else 0)))∧Hid (A=decide (0 < (if 1≤i then c3 else 0)+(if 2≤i then c9 else 0)))∧Hid (w.Since w.heap.size wr))
   case atStart=>exact ⟨0,_,_,rfl,by omega,rfl,rfl,rfl,Lib.hid rfl,Lib.hid rfl,Lib.hid (World.Since.refl _ _)⟩
   case round=>
    obtain ⟨i,S,A,rfl,hi,rfl,rfl,rfl,hS,hA,hW⟩:=hrel
    have HRW:=Lib.hid (HR.out.up hW.out)
    obtain ⟨q3,cp3,a0,-,-,-⟩:=HRW.out.q34
    obtain ⟨q9,cp9,b0,-,-,-⟩:=HRW.out.q92
    obtain ⟨qt',cpt',t0',-,t2,t3⟩:=HRW.out.tr
    have tq:Value.slice (some ⟨qt',0,none⟩) 2 cpt'=Value.slice (some ⟨qt,0,none⟩) 2 cpt:=by
     obtain ⟨-,hl⟩:=And.intro trivial HR.out.lt
     have h1:=(hW.out.cell (a:=⟨B,256,none⟩) hl).trans t0
     rw [t0'] at h1
     injection h1
    injection tq with tq _ tq2
    injection tq with tq
    injection tq with tq
    subst tq tq2
    rcases (show i=0 ∨ i=1 ∨ i=2 by omega) with rfl | rfl | rfl
    ·
     skip
     have KC:=Lib.hid (KC3.out wr)
     by_cases hz:c3=0
     ·
      have fz:((c3:Int) != 0)=false:=bne_eq_false_iff_eq.2 (by omega)
      have hS2:Hid (S=x.size+((if 1≤1 then c3 else 0)+(if 2≤1 then c9 else 0))):=Lib.hid (by rw [hS.out];simp [hz])
      have hA2:Hid (A=decide (0 < (if 1≤1 then c3 else 0)+(if 2≤1 then c9 else 0))):=Lib.hid (by rw [hA.out];simp [hz])
      clear hz
      go_wp2_with fail
      refine KC.out.mono ?_
      rintro r0 w2 ⟨rfl,rfl⟩
      go_wp2_with fail
      go_roundg (2 - 1)
      case measure=>omega
      case rel=>exact ⟨1,S,A,rfl,by omega,rfl,rfl,rfl,hS2,hA2,hW⟩
     ·
      have fz:((c3:Int) != 0)=true:=bne_iff_ne.2 (by omega)
      have hSb:S≤10000000:=by have:=hS.out;simp at this;omega
      have z5:IntKind.i64.wrap ((S:Int)+(c3:Int))=((S+c3:Nat):Int):=by rw [IntWalk.i64_in _ (by omega)];omega
      have hS2:Hid (S+c3=x.size+((if 1≤1 then c3 else 0)+(if 2≤1 then c9 else 0))):=Lib.hid (by rw [hS.out];simp;try omega)
      have hA2:Hid (true=decide (0 < (if 1≤1 then c3 else 0)+(if 2≤1 then c9 else 0))):=Lib.hid (by simp;omega)
      have hW2:Hid (w.Since w.heap.size wr.drew):=Lib.hid hW.out.drew
      clear hz
      go_wp2_with fail
      refine KC.out.mono ?_
      rintro r0 w2 ⟨rfl,rfl⟩
      go_wp2_with fail
      have dd:w2.drew.cell? ⟨B,34,none⟩=_:=a0
      go_region
      all_goals
       go_wp2_with fail
       go_roundg (2 - 1)
       case measure=>omega
       case rel=>exact ⟨1,S+c3,true,rfl,by omega,rfl,rfl,rfl,hS2,hA2,hW2⟩
    ·
     skip
     have KC:=Lib.hid (KC9.out wr)
     by_cases hz:c9=0
     ·
      have fz:((c9:Int) != 0)=false:=bne_eq_false_iff_eq.2 (by omega)
      have hS2:Hid (S=x.size+((if 1≤2 then c3 else 0)+(if 2≤2 then c9 else 0))):=Lib.hid (by rw [hS.out];simp [hz])
      have hA2:Hid (A=decide (0 < (if 1≤2 then c3 else 0)+(if 2≤2 then c9 else 0))):=Lib.hid (by rw [hA.out];simp [hz])
      clear hz
      go_wp2_with fail
      refine KC.out.mono ?_
      rintro r0 w2 ⟨rfl,rfl⟩
      go_wp2_with fail
      go_roundg (2 - 2)
      case measure=>omega
      case rel=>exact ⟨2,S,A,rfl,by omega,rfl,rfl,rfl,hS2,hA2,hW⟩
     ·
      have fz:((c9:Int) != 0)=true:=bne_iff_ne.2 (by omega)
      have hSb:S≤10000000:=by have:=hS.out;simp at this;omega
      have z5:IntKind.i64.wrap ((S:Int)+(c9:Int))=((S+c9:Nat):Int):=by rw [IntWalk.i64_in _ (by omega)];omega
      have hS2:Hid (S+c9=x.size+((if 1≤2 then c3 else 0)+(if 2≤2 then c9 else 0))):=Lib.hid (by rw [hS.out];simp;try omega)
      have hA2:Hid (true=decide (0 < (if 1≤2 then c3 else 0)+(if 2≤2 then c9 else 0))):=Lib.hid (by simp;omega)
      have hW2:Hid (w.Since w.heap.size wr.drew):=Lib.hid hW.out.drew
      clear hz
      go_wp2_with fail
      refine KC.out.mono ?_
      rintro r0 w2 ⟨rfl,rfl⟩
      go_wp2_with fail
      have dd:w2.drew.cell? ⟨B,92,none⟩=_:=b0
      go_region
      all_goals
       go_wp2_with fail
       go_roundg (2 - 2)
       case measure=>omega
       case rel=>exact ⟨2,S+c9,true,rfl,by omega,rfl,rfl,rfl,hS2,hA2,hW2⟩
    ·
     have hS2:Hid (S=x.size+cnt (bytesOf x)):=Lib.hid (by rw [hS.out,HCW.out];simp)
     have hA2:Hid (A=decide (0 < cnt (bytesOf x))):=Lib.hid (by rw [hA.out,HCW.out];simp)
     go_wp2_with fail
     go_meet
     exact ⟨by rw [hS2.out],by rw [hA2.out],hW⟩
  ·
   have f16:¬ (16:Int)≤(x.size:Int):=by omega
   rw [show decide ((16:Int)≤(x.size:Int))=false from decide_eq_false f16]
   go_wp2_with fail
   go_loopg [5,6,10,11] x.size (fun gg o5 o6 o10 o11 wr=>∃ (i S:Nat) (A:Bool),gg=x.size - i∧i≤x.size∧o10=.int .i64 (i:Nat)∧o5=.int .i64 (S:Nat)∧o6=.bool A∧Hid (S=x.size+cnt ((bytesOf x).take i))∧Hid (A=decide (0 < cnt ((bytesOf x).take i)))∧Hid (w.Since w.heap.size wr))
   case atStart=>exact ⟨0,x.size,false,rfl,by omega,rfl,rfl,rfl,Lib.hid (by rw [HC0.out];rfl),Lib.hid (by rw [HC0.out];rfl),Lib.hid (World.Since.refl _ _)⟩
   case round=>
    obtain ⟨i,S,A,rfl,hi,rfl,rfl,rfl,hS,hA,hW⟩:=hrel
    have HRW:=Lib.hid (HR.out.up hW.out)
    by_cases h1:i < x.size
    ·
     have i1:(i:Int) < (x.size:Int):=by omega
     have z6:IntKind.i64.wrap ((i:Int)+1)=(i:Int)+1:=IntWalk.i64_in _ (by omega)
     have HN:=Lib.hid (HCN.out i h1)
     have hb:x[i].toNat < 256:=x[i].toNat_lt
     have hbi:(x[i].toNat:Int) < 256:=by omega
     have hSb:S≤10000000:=by have:=hS.out;have:=HCT.out i;omega
     by_cases hc:x[i]=34 ∨ x[i]=92
     ·
      obtain ⟨q,cp,dd⟩:∃ q cp,wr.cell? ⟨B,x[i].toNat,none⟩=some (.slice (some ⟨q,0,none⟩) 2 cp):=by
       rcases hc with e | e
       ·
        obtain ⟨q,cp,a0,_⟩:=HRW.out.q34
        exact ⟨q,cp,by rw [e];exact a0⟩
       ·
        obtain ⟨q,cp,a0,_⟩:=HRW.out.q92
        exact ⟨q,cp,by rw [e];exact a0⟩
      have z5:IntKind.i64.wrap ((S:Int)+1)=((S+1:Nat):Int):=by rw [IntWalk.i64_in _ (by omega)];omega
      have hS2:Hid (S+1=x.size+cnt ((bytesOf x).take (i+1))):=Lib.hid (by rw [HN.out,if_pos hc,hS.out];omega)
      have hA2:Hid (true=decide (0 < cnt ((bytesOf x).take (i+1)))):=Lib.hid (by rw [HN.out,if_pos hc];simp)
      clear hc
      go_wp2_with fail
      go_roundg (x.size - (i+1))
      case measure=>omega
      case rel=>exact ⟨i+1,S+1,true,rfl,by omega,by simp,rfl,rfl,hS2,hA2,hW⟩
     ·
      have dd:wr.cell? ⟨B,x[i].toNat,none⟩=some (.slice none 0 0):=HRW.out.no _ hb (fun e=>hc (.inl (UInt8.toNat.inj e))) (fun e=>hc (.inr (UInt8.toNat.inj e)))
      have hS2:Hid (S=x.size+cnt ((bytesOf x).take (i+1))):=Lib.hid (by rw [HN.out,if_neg hc,hS.out];omega)
      have hA2:Hid (A=decide (0 < cnt ((bytesOf x).take (i+1)))):=Lib.hid (by rw [HN.out,if_neg hc,hA.out];simp)
      clear hc
      go_wp2_with fail
      go_roundg (x.size - (i+1))
      case measure=>omega
      case rel=>exact ⟨i+1,S,A,rfl,by omega,by simp,rfl,rfl,hS2,hA2,hW⟩
    ·
     have i1:¬ (i:Int) < (x.size:Int):=by omega
     have hS2:Hid (S=x.size+cnt (bytesOf x)):=Lib.hid (by rw [hS.out,show i=x.size by omega,HCE.out])
     have hA2:Hid (A=decide (0 < cnt (bytesOf x))):=Lib.hid (by rw [hA.out,show i=x.size by omega,HCE.out])
     go_wp2_with fail
     go_meet
     exact ⟨by rw [hS2.out],by rw [hA2.out],hW⟩
 case rest=>
  obtain ⟨rfl,rfl,hW0⟩:=hcut
  by_cases hc0:cnt (bytesOf x)=0
  ·
   have f0:decide (0 < cnt (bytesOf x))=false:=by rw [hc0];rfl
   have hF:Hid (ofBytes (esc (bytesOf x))=x):=Lib.hid (by
    rw [esc_none (bytesOf x) (by have:=HCW.out;omega) (by have:=HCW.out;omega)]
    rfl)
   rw [f0]
   clear hc0 f0
   go_wp2_with fail
   go_ret
   exact ⟨by rw [hF.out];rfl,hW0.out⟩
  ·
   have f0:decide (0 < cnt (bytesOf x))=true:=decide_eq_true (by omega)
   rw [f0]
   have HRW:=Lib.hid (HR.out.up hW0.out)
   have HEI:Hid (∀ i,(esc ((bytesOf x).take i)).length≤x.size+cnt (bytesOf x)):=Lib.hid (fun i=>by
    rw [esc_length,List.length_take,bytesOf_length]
    have:=cnt_take (bytesOf x) i
    unfold cnt at this ⊢
    omega)
   have HE2:=Lib.hid (fun i h=>esc_next x i h)
   have hN:x.size+cnt (bytesOf x)≤3000000:=by have:=HCL.out;have:=HBL.out;omega
   generalize x.size+cnt (bytesOf x)=N at *
   obtain ⟨i5,hi5,hz0,hz1,hz2⟩:=info_parts info5
   have hMK:=run_makeSlice (P:=Tryz.prog) (w:=wc) 190 5 i5 (.int .u8 0) Tryz.underlying190 hi5 hz0 .i64 .i64 (N:Int) (N:Int) (by omega) (Int.le_refl _) (by rw [hz1];omega) (by rw [hz2];omega) (by omega)
   rw [Int.toNat_natCast] at hMK
   obtain ⟨CS,hCS⟩:∃ CS,madeCells (Value.int .u8 0).cells (N * i5.size)=CS:=⟨_,rfl⟩
   have hcs:CS.size=N:=by rw [← hCS,size_madeCells,hz1,Nat.mul_one]
   rw [hCS] at hMK
   obtain ⟨W1,hW1⟩:∃ W1,wc.alloc (.cells CS 5)=W1:=⟨_,rfl⟩
   rw [hW1] at hMK
   have HB1:Hid (Lib.Buf wc W1 wc.heap.size N (esc ((bytesOf x).take 0))):=Lib.hid (by
    rw [← hW1,List.take_zero,esc]
    exact Lib.Buf.start wc CS 5 N 0 (Nat.le_of_eq hcs.symm))
   clear hW1 hCS hcs hc0 f0 hi5 hz0 hz1 hz2
   go_wp2_with fail
   go_loopg [13,14,15] x.size (fun gg o13 o14 o15 wr=>∃ (i j:Nat),gg=x.size - i∧i≤x.size∧o14=.int .i64 (i:Nat)∧o13=.int .i64 (j:Nat)∧Hid (Lib.Buf wc wr wc.heap.size N (esc ((bytesOf x).take i)))∧Hid (j=(esc ((bytesOf x).take i)).length))
   case atStart=>exact ⟨0,0,rfl,by omega,rfl,rfl,HB1,Lib.hid (by rw [List.take_zero,esc];rfl)⟩
   case round=>
    obtain ⟨i,j,rfl,hi,rfl,rfl,hBf,hj⟩:=hrel
    have HS:Hid (wc.Since wc.heap.size wr):=Lib.hid ⟨hBf.out.below.os,hBf.out.below.tape,hBf.out.below.output,hBf.out.below.size,hBf.out.below.block⟩
    have HRR:=Lib.hid (HRW.out.up HS.out)
    by_cases h1:i < x.size
    ·
     have i1:(i:Int) < (x.size:Int):=by omega
     have z6:IntKind.i64.wrap ((i:Int)+1)=(i:Int)+1:=IntWalk.i64_in _ (by omega)
     have HN:=Lib.hid (HE2.out i h1)
     have HNL:=Lib.hid (HEI.out (i+1))
     have hb:x[i].toNat < 256:=x[i].toNat_lt
     have hbi:(x[i].toNat:Int) < 256:=by omega
     obtain ⟨L,hL⟩:∃ L,esc ((bytesOf x).take i)=L:=⟨_,rfl⟩
     obtain ⟨L2,hL2⟩:∃ L2,esc ((bytesOf x).take (i+1))=L2:=⟨_,rfl⟩
     rw [hL] at hBf hj HN
     rw [hL2] at HN HNL
     have HL2:=Lib.hid hL2
     clear hL hL2
     by_cases hc:x[i]=34 ∨ x[i]=92
     ·
      obtain ⟨q,cp,dd,hv⟩:∃ q cp,wr.cell? ⟨B,x[i].toNat,none⟩=some (.slice (some ⟨q,0,none⟩) 2 cp)∧Lib.HoldsBytes wc (.slice (some ⟨q,0,none⟩) 2 cp) [92,x[i]]:=by
       rcases hc with e | e
       ·
        obtain ⟨q,cp,a0,a1,a2,a3⟩:=HRW.out.q34
        exact ⟨q,cp,by rw [e];exact (HS.out.cell (a:=⟨B,34,none⟩) HRW.out.lt).trans a0,by rw [e];exact holds2 a2 a3⟩
       ·
        obtain ⟨q,cp,a0,a1,a2,a3⟩:=HRW.out.q92
        exact ⟨q,cp,by rw [e];exact (HS.out.cell (a:=⟨B,92,none⟩) HRW.out.lt).trans a0,by rw [e];exact holds2 a2 a3⟩
      have hN2:L2=L ++ [92,x[i]]:=by rw [HN.out,if_pos hc]
      have hfit:L.length+[92,x[i]].length≤N:=by have:=HNL.out;rw [hN2,List.length_append] at this;exact this
      obtain ⟨wn,hCP,hBn⟩:=Lib.copy_part (P:=Tryz.prog) wc wr.drew wc.heap.size N L [92,x[i]] (.slice (some ⟨q,0,none⟩) 2 cp) 190 3 5 Tryz.underlying190 byte_one (Nat.le_refl _) ⟨hBf.out.below.drew,hBf.out.there,hBf.out.free,hBf.out.holds,hBf.out.fits⟩ hv hfit
      have hSL:∀ W:World,(Instr.slice 190 (.slice (some ⟨wc.heap.size,0,none⟩) N N) (some (.int .i64 (j:Nat))) none none).run Tryz.prog W=.ok (Lib.tailV wc.heap.size N j) W:=fun W=>Lib.run_slice_tailV W 190 5 Tryz.underlying190 Tryz.sizeOf5 wc.heap.size N j (by have:=hj.out;have:=hBf.out.fits;omega)
      rw [← hj.out] at hCP
      have z7:IntKind.i64.wrap ((j:Int)+2)=((j+2:Nat):Int):=by rw [IntWalk.i64_in _ (by have:=hj.out;have:=hBf.out.fits;omega)];omega
      have HBn:=Lib.hid hBn
      have HN2:=Lib.hid hN2
      have HJ2:Hid (j+2=L2.length):=Lib.hid (by rw [hN2,List.length_append,hj.out];rfl)
      have dr:wr.drew.cell? ⟨B,x[i].toNat,none⟩=some (.slice (some ⟨q,0,none⟩) 2 cp):=dd
      clear hc hv hfit hBn hN2
      go_wp2_with fail
      go_region
      all_goals
       go_wp2_with fail
       go_roundg (x.size - (i+1))
       case measure=>omega
       case rel=>exact ⟨i+1,j+2,rfl,by omega,by simp,rfl,Lib.hid (by rw [HL2.out,HN2.out];exact HBn.out),Lib.hid (by rw [HL2.out];exact HJ2.out)⟩
     ·
      have dd:wr.cell? ⟨B,x[i].toNat,none⟩=some (.slice none 0 0):=HRR.out.no _ hb (fun e=>hc (.inl (UInt8.toNat.inj e))) (fun e=>hc (.inr (UInt8.toNat.inj e)))
      have hN2:L2=L ++ [x[i]]:=by rw [HN.out,if_neg hc]
      have hjN:j < N:=by
       have h6:=HNL.out
       rw [hN2,List.length_append] at h6
       have h5:=hj.out
       have h7:[x[i]].length=1:=rfl
       omega
      have hji:(j:Int) < (N:Int):=by omega
      obtain ⟨v0,hv0⟩:=Option.isSome_iff_exists.1 (hBf.out.there j hjN)
      have hf0:=hBf.out.free j hjN
      have z7:IntKind.i64.wrap ((j:Int)+1)=((j+1:Nat):Int):=by rw [IntWalk.i64_in _ (by omega)];omega
      have HBn:=Lib.hid (buf_put hBf.out hj.out hjN x[i] hv0)
      have HN2:=Lib.hid hN2
      have HJ2:Hid (j+1=L2.length):=Lib.hid (by rw [hN2,List.length_append,hj.out];rfl)
      clear hc hN2
      go_wp2_with fail
      go_roundg (x.size - (i+1))
      case measure=>omega
      case rel=>exact ⟨i+1,j+1,rfl,by omega,by simp,rfl,Lib.hid (by rw [HL2.out,HN2.out];exact HBn.out),Lib.hid (by rw [HL2.out];exact HJ2.out)⟩
    ·
     have i1:¬ (i:Int) < (x.size:Int):=by omega
     have hE:esc ((bytesOf x).take i)=esc (bytesOf x):=by rw [show i=(bytesOf x).length by rw [bytesOf_length];omega,List.take_length]
     rw [hE] at hBf hj
     have hCV:(convert 190 9 (.slice (some ⟨wc.heap.size,0,none⟩) N N)).run Tryz.prog wr=.ok (.string (ofBytes (esc (bytesOf x)))) wr:=by
      have h:=run_convert_bytes_back (P:=Tryz.prog) wr 190 9 5 ⟨wc.heap.size,0,none⟩ N (esc (bytesOf x)) Tryz.underlying190 Tryz.underlying5 Tryz.underlying9 (fun j hj=>by
       rw [add0]
       exact hBf.out.holds j _ (List.getElem?_eq_getElem hj))
      rw [HEL.out] at h
      exact h
     have HF:=Lib.hid (since_t hW0.out HS.out)
     clear hE
     go_wp2_with fail
     go_ret
     exact ⟨rfl,HF.out⟩
end Go.Proofs.YthbdlnflmfchjaaGreatDoor
namespace Go.Proofs.YthbdlnflmfchjaaGreatDoor
open Go.RowKit Go.Proofs.Fm Go.Proofs.Eng
set_option maxHeartbeats 3200000
set_option maxRecDepth 1000000
theorem do_says (base:Nat) (a:Addr) (w:World) (h:RI base a w):∃ b,a=⟨b,0,none⟩∧base≤b∧
  Calls Tryz.prog 242 #[.pointer (some ⟨b,0,none⟩),.func (.func 243) #[.pointer (some ⟨b,0,none⟩)] #[]] w fun e w'=>e=.returned (.tuple #[])∧(∃ B,w'.cell? ⟨b,3,none⟩=some (.iface 399 (.pointer (some ⟨B,0,none⟩)))∧RepAt B w')∧w.heap.size≤w'.heap.size∧w'.os=w.os∧w'.tape=w.tape∧w'.output=w.output∧∀ k,k < base→k < w.heap.size→w'.heap[k]?=w.heap[k]?:=by
 obtain ⟨ρ,p,H,hG,hp,hs,rfl,hb⟩:=h
 refine ⟨p.b,rfl,?_,?_⟩
 ·
  obtain ⟨p',h1,_⟩:=hcell H (k:=102) (show (mheap m28.pre 103).get 102=some (.cells #[.int .u32 0,.int .i32 0,.int .u32 0,.nilIface,.slice (some ⟨101,0,none⟩) 4 1180591620717411303425] 322 (0,0)) by kernel_rfl)
  exact hb 102 _ p (show (mheap m28.pre 103).get 102=some (.cells #[.int .u32 0,.int .i32 0,.int .u32 0,.nilIface,.slice (some ⟨101,0,none⟩) 4 1180591620717411303425] 322 (0,0)) by kernel_rfl) hp
 ·
  have ha:ARel ρ ⟨102,0,none⟩ ⟨p.b,0,none⟩:=⟨rfl,p,hp,by rw [hs];rfl⟩
  have hm:=(oks29 m28 (.head _)).2 ρ w #[.pointer (some ⟨p.b,0,none⟩),.func (.func 243) #[.pointer (some ⟨p.b,0,none⟩)] #[]] hG H
   (.cons (.ptr ha) (.cons (.func (.func 243) (.cons (.ptr ha) .nil) .nil) .nil))
  refine (callsIn_wide.1 hm).mono fun e w' hh=>?_
  obtain ⟨ρ',v',rfl,hv,hH,hS⟩:=hh
  have hv:VRel ρ' (.tuple #[]) v':=hv
  obtain ⟨q,B,q1,q2,q3,q4⟩:=rep_at (ρ:=ρ') hH
  have hq:q=p:=by have:=(hS.le _ _ hp).symm.trans q1;injection this with e;exact e.symm
  subst hq
  refine ⟨?_,⟨B,q3,q4⟩,hS.size,hS.os,hS.tape,hS.out,fun k h1 h2=>hS.frame k h2 (fun k0 o0 p0 _ a1 a2=>?_)⟩
  ·
   cases hv with
   | tuple h=>
    rename_i x'
    have:x'.toList=[]:=by
     generalize x'.toList=l at h
     cases h;rfl
    rw [show x'=#[] from Array.toList_inj.1 this]
  ·
   have:=hb k0 o0 p0 a1 a2
   omega
theorem rep_use (w0 w:World) (p:Addr) (x:ByteArray) (h:RI w0.heap.size p w) (h0:w0.Since w0.heap.size w) (hx:x.size≤1000000):Calls Tryz.prog 191 #[.pointer (some p),.string x] w fun e w'=>e=.returned (.string (ofBytes (esc (bytesOf x))))∧w0.Since w0.heap.size w':=by
 obtain ⟨b,rfl,hb,hD⟩:=do_says _ _ _ h
 have KD:=Lib.hid hD
 have H0:=Lib.hid h0
 have KB:=Lib.hid (fun B W (h:RepAt B W)=>brepl_says B x W h hx)
 clear h h0 hD
 go_enter Tryz.func191,Tryz.ntmps191
 go_wp2_with fail
 refine KD.out.mono ?_
 rintro r0 w2 ⟨rfl,⟨B,hc,hR⟩,g1,g2,g3,g4,g5⟩
 have HS:Hid (w0.Since w0.heap.size w2):=Lib.hid ⟨g2.trans H0.out.os,g3.trans H0.out.tape,g4.trans H0.out.output,Nat.le_trans H0.out.size g1,fun k hk=>(g5 k hk (Nat.lt_of_lt_of_le hk H0.out.size)).trans (H0.out.block k hk)⟩
 have K2:=Lib.hid (KB.out B w2 hR)
 clear g1 g2 g3 g4 g5 hR
 go_wp2_with fail
 refine K2.out.mono ?_
 rintro r0 w3 ⟨rfl,hs⟩
 have HF:=Lib.hid (since_t HS.out hs)
 clear hs
 go_wp2_with fail
 go_ret
 exact ⟨rfl,HF.out⟩
theorem repC:RepC RI:=⟨rep_new,rep_use⟩
end Go.Proofs.YthbdlnflmfchjaaGreatDoor
namespace Go.Proofs.YthbdlnflmfchjaaGreatDoor
open Go.RowKit Go.Proofs.Fm
set_option maxHeartbeats 3200000
set_option maxRecDepth 1000000
structure Lay (w:World):Prop where
 t:Tabs w
 e:ErrV w
 p:PowV w
theorem Lay.up {w w':World} (h:Lay w) (hs:w.Since w.heap.size w'):Lay w':=⟨h.t.up hs,h.e.up hs,h.p.up hs⟩
theorem parse_ok (KT:PTypC 5000) (s:ByteArray) (w:World) (t:Tm) (h:PIs s (.ok t)) (hL:Lay w):
  Calls Tryz.prog 17 #[.string s] w fun E w'=>(∃ (k:Nat) (x:ByteArray) (n:Int) (G:Option Addr) (m c:Nat),E=.returned (.tuple #[.agg #[.int .u8 (k:Nat),.string x,.int .i64 n,.slice G m c],.int .i64 0,.int .u8 0])∧TzAt w' (zOf t) [.int .u8 (k:Nat),.string x,.int .i64 n,.slice G m c])∧w.Since w.heap.size w':=by
 refine (pp_says s w _ h hL.t hL.e KT).mono fun E w' hh=>⟨?_,hh.2⟩
 obtain ⟨cs,A,lo,e,ht⟩:=hh.1
 have hz:=TmAt.z t cs (pis_good h).1.n64 ht
 obtain ⟨k,x,n,G,m,c,rfl⟩:=tz_4 hz
 exact ⟨k,x,n,G,m,c,e,hz⟩
theorem parse_err (KT:PTypC 5000) (s:ByteArray) (w:World) (p c:Nat) (h:PIs s (.error (p,c))) (hL:Lay w):
  Calls Tryz.prog 17 #[.string s] w fun E w'=>E=.returned (.tuple #[.agg #[.int .u8 0,.string ⟨#[]⟩,.int .i64 0,.slice none 0 0],.int .i64 (p:Nat),.int .u8 (c:Nat)])∧w.Since w.heap.size w':=
 (pp_says s w _ h hL.t hL.e KT).mono fun _ _ hh=>⟨hh.1,hh.2⟩
theorem pis_err {s:ByteArray} {p c:Nat} (h:PIs s (.error (p,c))):c ≠ 0:=by
 by_cases hs:1000 < s.size
 ·
  rw [pis_long hs] at h;injection h with h;injection h with _ h;omega
 cases hw:wordsFrom isT lang.kept s 0 with
 | error q=>rw [pis_words hs hw] at h;injection h with h;injection h with _ h;omega
 | ok l=>
  rw [pis_tree hs hw] at h
  obtain ⟨f,r0,h1,h2⟩:=h
  cases r0 with
  | bad q=>have h2:(Except.error (p,c):Except (Nat × Nat) Tm)=.error (q,4):=h2;injection h2 with h2;injection h2 with _ h2;omega
  | ok ts m=>
   obtain ⟨t',rfl,_⟩:=tree_ok (by omega) hw h1
   have h9:=h2 t' rfl
   by_cases hm:m < l.length
   ·
    rw [if_pos hm] at h9;injection h9 with h9;injection h9 with _ h9;omega
   by_cases hd:24 < dep t'
   ·
    rw [if_neg hm,if_pos hd] at h9;injection h9 with h9;injection h9 with _ h9;omega
   rw [if_neg hm,if_neg hd] at h9
   unfold lastOf at h9
   cases hk:typK t' [] with
   | error e=>
    rw [hk] at h9
    injection h9 with h9
    injection h9 with _ h9
    have:=typK_err t' [] e hk
    omega
   | ok a=>rw [hk] at h9;cases h9
def PrOk (t:Tz):Prop:=∃ u,PIs (ofBytes (fz t)) (.ok u)∧zOf u=t
theorem prok_size {t:Tz} (h:PrOk t):(fz t).length≤1000:=by
 obtain ⟨u,h,_⟩:=h
 exact (pis_good h).2.1
theorem print_ok (KT:PTypC 5000) (t:Tz) (cs:List Value) (w:World) (hK:wtZ t≤1000000) (ht:TzAt w t cs) (hL:Lay w) (h:PrOk t):
  Calls Tryz.prog 21 #[.agg cs.toArray] w fun E w'=>E=.returned (.tuple #[.string (ofBytes (fz t)),.int .u8 0])∧w.Since w.heap.size w':=by
 obtain ⟨k0,x0,n0,G0,m0,c0,rfl⟩:=tz_4 ht
 obtain ⟨W,hW⟩:∃ W,w.alloc (.cells #[.int .u8 (k0:Nat),.string x0,.int .i64 n0,.slice G0 m0 c0] 39)=W:=⟨_,rfl⟩
 have hs:w.Since w.heap.size W:=by rw [← hW];exact since_alloc w _
 have hb:W.heap[w.heap.size]?=some (.cells #[.int .u8 (k0:Nat),.string x0,.int .i64 n0,.slice G0 m0 c0] 39):=by rw [← hW];exact heap_alloc_new w _
 have hlen:=prok_size h
 obtain ⟨u,hu,rfl⟩:=h
 have KW:=Lib.hid (written_says repC (zOf u) _ W hK (ht.up hs) (hL.up hs).p)
 have KP:=Lib.hid (fun V (h:Lay V)=>parse_ok KT (ofBytes (fz (zOf u))) V u hu h)
 have KS:=Lib.hid (fun V cs (h1:TzAt V (zOf u) cs) (h2:TzAt V (zOf u) [.int .u8 (k0:Nat),.string x0,.int .i64 n0,.slice G0 m0 c0])=>psame_all 1000000 (Nat.le_refl _) (zOf u) (zOf u) V cs _ hK h1 h2)
 rw [(eqZ_iff (zOf u) (zOf u)).2 rfl] at KS
 have HS:=Lib.hid hs
 have HB:=Lib.hid hb
 have HT:=Lib.hid (ht.up hs)
 have HL:=Lib.hid (hL.up hs)
 have HLen:=Lib.hid hlen
 obtain ⟨t0,t1,t2,t3,-⟩:=cells4 hb
 generalize fz (zOf u)=F at *
 clear hs hb ht hL hlen hu hK
 go_enter Tryz.func21,Tryz.ntmps21
 go_wp2_with fail
 refine KW.out.mono ?_
 rintro r0 w2 ⟨⟨r,rfl,hr⟩,hs2⟩
 have hr:r=F:=by have:=hr.1 (by rw [List.length_nil];have:=HLen.out;omega);simpa using this
 subst hr
 have KP2:=Lib.hid (KP.out w2 (HL.out.up hs2))
 have S2:=Lib.hid (since_t HS.out hs2)
 have B2:=Lib.hid ((hs2.block _ (blk_lt HB.out)).trans HB.out)
 have T2:=Lib.hid (HT.out.up hs2)
 clear hs2
 go_wp2_with fail
 refine KP2.out.mono ?_
 rintro r0 w3 ⟨⟨k,x,n,G,m,c,rfl,hz⟩,hs3⟩
 have S3:=Lib.hid (since_t S2.out hs3)
 have B3:=Lib.hid ((hs3.block _ (blk_lt B2.out)).trans B2.out)
 have T3:=Lib.hid (T2.out.up hs3)
 have S4:=Lib.hid (since_alloc w3 (.cells #[.int .u8 (k:Nat),.string x,.int .i64 n,.slice G m c] 39))
 have N4:=Lib.hid (heap_alloc_new w3 (.cells #[.int .u8 (k:Nat),.string x,.int .i64 n,.slice G m c] 39))
 have KS4:=Lib.hid (KS.out (w3.alloc (.cells #[.int .u8 (k:Nat),.string x,.int .i64 n,.slice G m c] 39)) _ (hz.up S4.out) (T3.out.up S4.out))
 obtain ⟨W4,hW4⟩:∃ W4,w3.alloc (.cells #[.int .u8 (k:Nat),.string x,.int .i64 n,.slice G m c] 39)=W4:=⟨_,rfl⟩
 rw [hW4] at S4 N4 KS4
 have B4:=Lib.hid ((S4.out.block _ (blk_lt B3.out)).trans B3.out)
 obtain ⟨y0,y1,y2,y3,-⟩:=cells4 B4.out
 obtain ⟨u0,u1,u2,u3,-⟩:=cells4 N4.out
 clear hz hs3
 go_wp2_with fail
 refine KS4.out.mono ?_
 rintro r0 w5 ⟨rfl,hs5⟩
 have S5:=Lib.hid (since_t (since_t S3.out S4.out) hs5)
 clear hs5
 go_wp2_with fail
 exact bodyPost_ret (v:=.tuple #[.string (ofBytes r),.int .u8 0]) (by simp [results,Tryz.results21,go_sem]) rfl ⟨rfl,S5.out⟩
theorem print_no (KT:PTypC 5000) (t:Tz) (cs:List Value) (w:World) (hK:wtZ t≤1000000) (ht:TzAt w t cs) (hL:Lay w) (h:¬ PrOk t):
  Calls Tryz.prog 21 #[.agg cs.toArray] w fun E w'=>E=.returned (.tuple #[.string ⟨#[]⟩,.int .u8 1])∧w.Since w.heap.size w':=by
 obtain ⟨k0,x0,n0,G0,m0,c0,rfl⟩:=tz_4 ht
 obtain ⟨W,hW⟩:∃ W,w.alloc (.cells #[.int .u8 (k0:Nat),.string x0,.int .i64 n0,.slice G0 m0 c0] 39)=W:=⟨_,rfl⟩
 have hs:w.Since w.heap.size W:=by rw [← hW];exact since_alloc w _
 have hb:W.heap[w.heap.size]?=some (.cells #[.int .u8 (k0:Nat),.string x0,.int .i64 n0,.slice G0 m0 c0] 39):=by rw [← hW];exact heap_alloc_new w _
 have KW:=Lib.hid (written_says repC t _ W hK (ht.up hs) (hL.up hs).p)
 have KPO:=Lib.hid (fun s V u (hu:PIs s (.ok u)) (h:Lay V)=>parse_ok KT s V u hu h)
 have KPE:=Lib.hid (fun s V p c (hu:PIs s (.error (p,c))) (h:Lay V)=>parse_err KT s V p c hu h)
 have KS:=Lib.hid (fun V u cs (hw:wtZ (zOf u)≤10000) (h1:TzAt V (zOf u) cs) (h2:TzAt V t [.int .u8 (k0:Nat),.string x0,.int .i64 n0,.slice G0 m0 c0])=>psame_all 1000000 (Nat.le_refl _) (zOf u) t V cs _ (Nat.le_trans hw (by decide)) h1 h2)
 have HS:=Lib.hid hs
 have HB:=Lib.hid hb
 have HT:=Lib.hid (ht.up hs)
 have HL:=Lib.hid (hL.up hs)
 have HNO:Hid (∀ r u,WR [] (fz t) r→PIs (ofBytes r) (.ok u)→eqZ (zOf u) t=false):=Lib.hid (fun r u hr hu=>by
  have hsz:r.length≤1000:=(pis_good hu).2.1
  have hl:(fz t).length≤1000:=by
   rcases Nat.lt_or_ge 1000 (fz t).length with h1 | h1
   ·
    have:=hr.2 (by simpa using h1);omega
   ·
    exact h1
  have e:r=fz t:=by have:=hr.1 (by simpa using hl);simpa using this
  subst e
  cases he:eqZ (zOf u) t with
  | false=>rfl
  | true=>exact absurd ⟨u,hu,(eqZ_iff _ _).1 he⟩ h)
 obtain ⟨t0,t1,t2,t3,-⟩:=cells4 hb
 generalize fz t=F at *
 clear hs hb ht hL hK h
 go_enter Tryz.func21,Tryz.ntmps21
 go_wp2_with fail
 refine KW.out.mono ?_
 rintro r0 w2 ⟨⟨r,rfl,hr⟩,hs2⟩
 obtain ⟨pr,hpr⟩:=pis_some (ofBytes r)
 have L2:=Lib.hid (HL.out.up hs2)
 have S2:=Lib.hid (since_t HS.out hs2)
 have B2:=Lib.hid ((hs2.block _ (blk_lt HB.out)).trans HB.out)
 have T2:=Lib.hid (HT.out.up hs2)
 clear hs2
 cases pr with
 | error pc=>
  obtain ⟨p,c⟩:=pc
  have KP2:=Lib.hid (KPE.out _ w2 p c hpr L2.out)
  have hc:=pis_err hpr
  have fc:((c:Int) != 0)=true:=bne_iff_ne.2 (by omega)
  clear hpr hr hc
  go_wp2_with fail
  refine KP2.out.mono ?_
  rintro r0 w3 ⟨rfl,hs3⟩
  have S3:=Lib.hid ((since_t S2.out hs3).alloc (Nat.le_trans S2.out.size hs3.size) (.cells #[.int .u8 0,.string ⟨#[]⟩,.int .i64 0,.slice none 0 0] 39))
  clear hs3
  go_wp2_with fail
  exact bodyPost_ret (v:=.tuple #[.string ⟨#[]⟩,.int .u8 1]) (by simp [results,Tryz.results21,go_sem]) rfl ⟨rfl,S3.out⟩
 | ok u=>
  have KP2:=Lib.hid (KPO.out _ w2 u hpr L2.out)
  have HW:=Lib.hid (pis_good hpr).1.wt
  have HE:=Lib.hid (HNO.out r u hr hpr)
  clear hpr hr
  go_wp2_with fail
  refine KP2.out.mono ?_
  rintro r0 w3 ⟨⟨k,x,n,G,m,c,rfl,hz⟩,hs3⟩
  have S3:=Lib.hid (since_t S2.out hs3)
  have B3:=Lib.hid ((hs3.block _ (blk_lt B2.out)).trans B2.out)
  have T3:=Lib.hid (T2.out.up hs3)
  have S4:=Lib.hid (since_alloc w3 (.cells #[.int .u8 (k:Nat),.string x,.int .i64 n,.slice G m c] 39))
  have N4:=Lib.hid (heap_alloc_new w3 (.cells #[.int .u8 (k:Nat),.string x,.int .i64 n,.slice G m c] 39))
  have KS4:=Lib.hid (KS.out (w3.alloc (.cells #[.int .u8 (k:Nat),.string x,.int .i64 n,.slice G m c] 39)) u _ HW.out (hz.up S4.out) (T3.out.up S4.out))
  rw [HE.out] at KS4
  obtain ⟨W4,hW4⟩:∃ W4,w3.alloc (.cells #[.int .u8 (k:Nat),.string x,.int .i64 n,.slice G m c] 39)=W4:=⟨_,rfl⟩
  rw [hW4] at S4 N4 KS4
  have B4:=Lib.hid ((S4.out.block _ (blk_lt B3.out)).trans B3.out)
  obtain ⟨y0,y1,y2,y3,-⟩:=cells4 B4.out
  obtain ⟨u0,u1,u2,u3,-⟩:=cells4 N4.out
  clear hz hs3
  go_wp2_with fail
  refine KS4.out.mono ?_
  rintro r0 w5 ⟨rfl,hs5⟩
  have S5:=Lib.hid (since_t (since_t S3.out S4.out) hs5)
  clear hs5
  go_wp2_with fail
  exact bodyPost_ret (v:=.tuple #[.string ⟨#[]⟩,.int .u8 1]) (by simp [results,Tryz.results21,go_sem]) rfl ⟨rfl,S5.out⟩
end Go.Proofs.YthbdlnflmfchjaaGreatDoor
namespace Go.Proofs.YthbdlnflmfchjaaGreatDoor
open Go.RowKit Go.Proofs.Fm
set_option maxHeartbeats 6400000
set_option maxRecDepth 1000000
structure Tb (w:World) (b:Nat) (t:Tz) (k:Nat) (x:ByteArray) (n:Int) (G:Option Addr) (m c:Nat):Prop where
 blk:w.heap[b]?=some (.cells #[.int .u8 (k:Nat),.string x,.int .i64 n,.slice G m c] 39)
 is:TzAt w t [.int .u8 (k:Nat),.string x,.int .i64 n,.slice G m c]
theorem Tb.up {w w':World} {b:Nat} {t:Tz} {k:Nat} {x:ByteArray} {n:Int} {G:Option Addr} {m c:Nat} (h:Tb w b t k x n G m c) (hs:w.Since w.heap.size w'):Tb w' b t k x n G m c:=⟨(hs.block _ (blk_lt h.blk)).trans h.blk,h.is.up hs⟩
theorem Tb.new {w:World} {t:Tz} {k:Nat} {x:ByteArray} {n:Int} {G:Option Addr} {m c:Nat} (h:TzAt w t [.int .u8 (k:Nat),.string x,.int .i64 n,.slice G m c]):Tb (w.alloc (.cells #[.int .u8 (k:Nat),.string x,.int .i64 n,.slice G m c] 39)) w.heap.size t k x n G m c:=⟨heap_alloc_new w _,h.up (since_alloc w _)⟩
theorem Tb.cells {w:World} {b:Nat} {t:Tz} {k:Nat} {x:ByteArray} {n:Int} {G:Option Addr} {m c:Nat} (h:Tb w b t k x n G m c):w.cell? ⟨b,0,none⟩=some (.int .u8 (k:Nat))∧w.cell? ⟨b,1,none⟩=some (.string x)∧w.cell? ⟨b,2,none⟩=some (.int .i64 n)∧w.cell? ⟨b,3,none⟩=some (.slice G m c):=by
 obtain ⟨t0,t1,t2,t3,-⟩:=cells4 h.blk
 exact ⟨t0,t1,t2,t3⟩
theorem same_eq (t:Tz) (w:World) (cs ds:List Value) (hK:wtZ t≤1000000) (h1:TzAt w t cs) (h2:TzAt w t ds):Calls Tryz.prog 19 #[.agg cs.toArray,.agg ds.toArray] w fun E w'=>E=.returned (.bool true)∧w.Since w.heap.size w':=by
 have h:=rsame_says 1000000 t t w cs ds hK (Nat.le_refl _) h1 h2
 rw [(eqZ_iff t t).2 rfl] at h
 exact h
theorem law_back (KT:PTypC 5000) (s:ByteArray) (t:Tz) (cs:List Value) (w:World) (ht:TzAt w t cs) (hL:Lay w):
  Calls Tryz.prog 5 #[.string s,.agg cs.toArray] w fun E w'=>E=.returned (.bool true)∧w.Since w.heap.size w':=by
 obtain ⟨k0,x0,n0,G0,m0,c0,rfl⟩:=tz_4 ht
 obtain ⟨W,hW⟩:∃ W,w.alloc (.cells #[.int .u8 (k0:Nat),.string x0,.int .i64 n0,.slice G0 m0 c0] 39)=W:=⟨_,rfl⟩
 have HS:Hid (w.Since w.heap.size W):=Lib.hid (by rw [← hW];exact since_alloc w _)
 have HB:Hid (Tb W w.heap.size t k0 x0 n0 G0 m0 c0):=Lib.hid (by rw [← hW];exact Tb.new ht)
 have HL:=Lib.hid (hL.up HS.out)
 have KG:=Lib.hid (great_says 601 600 (by decide) (by decide) t W _ HB.out.is)
 have KY:=Lib.hid (fun V=>says_true V)
 have KPO:=Lib.hid (fun s V u (hu:PIs s (.ok u)) (h:Lay V)=>parse_ok KT s V u hu h)
 have KPE:=Lib.hid (fun s V p c (hu:PIs s (.error (p,c))) (h:Lay V)=>parse_err KT s V p c hu h)
 have KRO:=Lib.hid (fun t cs V (hK:wtZ t≤1000000) (h1:TzAt V t cs) (h2:Lay V) (h3:PrOk t)=>print_ok KT t cs V hK h1 h2 h3)
 have KRN:=Lib.hid (fun t cs V (hK:wtZ t≤1000000) (h1:TzAt V t cs) (h2:Lay V) (h3:¬ PrOk t)=>print_no KT t cs V hK h1 h2 h3)
 obtain ⟨t0,t1,t2,t3⟩:=HB.out.cells
 clear ht hL
 by_cases hs:1100 < s.size
 ·
  have f1:(s.size:Int) > 1100:=by omega
  have KY1:=Lib.hid (KY.out W)
  go_enter Tryz.func5,Tryz.ntmps5
  go_wp2_with fail
  refine KY1.out.mono ?_
  rintro r0 w2 ⟨rfl,h2⟩
  have S2:=Lib.hid (since_t HS.out h2)
  clear h2
  go_wp2_with fail
  go_ret
  exact ⟨rfl,S2.out⟩
 ·
  have f1:¬ (s.size:Int) > 1100:=by omega
  by_cases hw:600 < wtZ t
  ·
   have HW:=Lib.hid hw
   go_enter Tryz.func5,Tryz.ntmps5
   go_wp2_with fail
   refine KG.out.mono ?_
   rintro r0 w2 ⟨⟨r,rfl,hr⟩,h2⟩
   have f2:r < 0:=hr.2 (by have:=HW.out;omega)
   have S2:=Lib.hid (since_t HS.out h2)
   have KY1:=Lib.hid (KY.out w2)
   clear h2 hr
   go_wp2_with fail
   refine KY1.out.mono ?_
   rintro r0 w3 ⟨rfl,h3⟩
   have S3:=Lib.hid (since_t S2.out h3)
   clear h3
   go_wp2_with fail
   go_ret
   exact ⟨rfl,S3.out⟩
  ·
   have HW:Hid (wtZ t≤600):=Lib.hid (by omega)
   have HSZ:=Lib.hid hs
   clear hs
   go_enter Tryz.func5,Tryz.ntmps5
   go_wp2_with fail
   refine KG.out.mono ?_
   rintro r0 w2 ⟨⟨r,rfl,hr⟩,h2⟩
   have f2:¬ r < 0:=by
    have h:=hr.1 (by have:=HW.out;omega)
    have:=HW.out
    omega
   have S2:=Lib.hid (since_t HS.out h2)
   have B2:=Lib.hid (HB.out.up h2)
   have L2:=Lib.hid (HL.out.up h2)
   obtain ⟨t0,t1,t2,t3⟩:=B2.out.cells
   clear h2 hr
   have KPR:Hid (Calls Tryz.prog 21 #[.agg #[.int .u8 (k0:Nat),.string x0,.int .i64 n0,.slice G0 m0 c0]] w2 fun E w'=>(∃ (u:ByteArray) (e:Nat),E=.returned (.tuple #[.string u,.int .u8 (e:Nat)])∧(e=0→∃ v,PIs u (.ok v)∧zOf v=t))∧w2.Since w2.heap.size w'):=Lib.hid (by
    by_cases hp:PrOk t
    ·
     refine (KRO.out t _ w2 (by have:=HW.out;omega) B2.out.is L2.out hp).mono fun E w' hh=>⟨⟨_,0,hh.1,fun _=>hp⟩,hh.2⟩
    ·
     refine (KRN.out t _ w2 (by have:=HW.out;omega) B2.out.is L2.out hp).mono fun E w' hh=>⟨⟨_,1,hh.1,fun h=>by cases h⟩,hh.2⟩)
   go_wp2_with fail
   refine KPR.out.mono ?_
   rintro r0 w3 ⟨⟨u,e,rfl,hu⟩,h3⟩
   have S3:=Lib.hid (since_t S2.out h3)
   have B3:=Lib.hid (B2.out.up h3)
   have L3:=Lib.hid (L2.out.up h3)
   have HU:=Lib.hid hu
   obtain ⟨t0,t1,t2,t3⟩:=B3.out.cells
   clear h3 hu KPR KG
   go_upto_if 33 with fail
   go_cut [7,8,9] from 33 to 47 (fun v7 v8 v9 wx=>Hid (w3.Since w3.heap.size wx))
   case first=>
    by_cases he:e=0
    ·
     have fe:((e:Int) == 0)=true:=beq_iff_eq.2 (by omega)
     obtain ⟨v,hv,hvt⟩:=HU.out he
     have KP4:=Lib.hid (KPO.out u w3 v hv L3.out)
     have HVT:=Lib.hid hvt
     clear he hv hvt
     go_wp2_with fail
     refine KP4.out.mono ?_
     rintro r0 w4 ⟨⟨k,x,n,G,m,c,rfl,hz⟩,h4⟩
     have S4:=Lib.hid h4
     have N5:=Lib.hid (Tb.new hz)
     have S5:=Lib.hid (since_alloc w4 (.cells #[.int .u8 (k:Nat),.string x,.int .i64 n,.slice G m c] 39))
     obtain ⟨W5,hW5⟩:∃ W5,w4.alloc (.cells #[.int .u8 (k:Nat),.string x,.int .i64 n,.slice G m c] 39)=W5:=⟨_,rfl⟩
     rw [hW5] at N5 S5
     have B5:=Lib.hid ((B3.out.up S4.out).up S5.out)
     have KE:=Lib.hid (same_eq t W5 _ _ (by have:=HW.out;omega) (by rw [← HVT.out];exact N5.out.is) B5.out.is)
     obtain ⟨t0,t1,t2,t3⟩:=B5.out.cells
     obtain ⟨u0,u1,u2,u3⟩:=N5.out.cells
     clear hz h4
     go_wp2_with fail
     refine KE.out.mono ?_
     rintro r0 w6 ⟨rfl,h6⟩
     have S6:=Lib.hid (since_t (since_t S4.out S5.out) h6)
     clear h6
     go_wp2_with fail
     go_meet
     exact S6
    ·
     have fe:((e:Int) == 0)=false:=beq_eq_false_iff_ne.2 (by omega)
     clear he
     go_wp2_with fail
     go_meet
     exact Lib.hid (World.Since.refl _ _)
   case rest=>
    have SC:=Lib.hid (since_t S3.out hcut.out)
    have LC:=Lib.hid (L3.out.up hcut.out)
    obtain ⟨pr,hpr⟩:=pis_some s
    cases pr with
    | error pc=>
     obtain ⟨p,c⟩:=pc
     have KP2:=Lib.hid (KPE.out _ wc p c hpr LC.out)
     have hc:=pis_err hpr
     have fc:((c:Int) != 0)=true:=bne_iff_ne.2 (by omega)
     clear hpr hc
     go_wp2_with fail
     refine KP2.out.mono ?_
     rintro r0 w4 ⟨rfl,h4⟩
     have S4:=Lib.hid (since_t SC.out h4)
     have S5:=Lib.hid (since_alloc w4 (.cells #[.int .u8 0,.string ⟨#[]⟩,.int .i64 0,.slice none 0 0] 39))
     have N5:=Lib.hid (heap_alloc_new w4 (.cells #[.int .u8 0,.string ⟨#[]⟩,.int .i64 0,.slice none 0 0] 39))
     obtain ⟨W5,hW5⟩:∃ W5,w4.alloc (.cells #[.int .u8 0,.string ⟨#[]⟩,.int .i64 0,.slice none 0 0] 39)=W5:=⟨_,rfl⟩
     rw [hW5] at N5 S5
     obtain ⟨u0,u1,u2,u3,u4⟩:=cells4 N5.out
     obtain ⟨V,hV,a1,b1,s1,o1,y1,z1⟩:=set4_is N5.out (.int .u8 0) (.string ⟨#[]⟩) (.int .i64 0) (.slice none 0 0)
     obtain ⟨v0,v1,v2,v3,-⟩:=cells4 a1
     have SV:Hid (w.Since w.heap.size V):=Lib.hid (by
      have h:=since_t S4.out S5.out
      have h8:=S4.out.size
      exact ⟨o1.trans h.os,y1.trans h.tape,z1.trans h.output,by rw [s1];exact h.size,fun k hk=>(b1 k (by omega)).trans (h.block k hk)⟩)
     have KY5:=Lib.hid (KY.out V)
     clear h4 a1 b1 s1 o1 y1 z1
     go_wp2_with fail
     refine KY5.out.mono ?_
     rintro r0 w6 ⟨rfl,h6⟩
     have S6:=Lib.hid (since_t SV.out h6)
     clear h6
     go_wp2_with fail
     go_ret
     exact ⟨rfl,S6.out⟩
    | ok ta=>
     have KP2:=Lib.hid (KPO.out _ wc ta hpr LC.out)
     have HG:=Lib.hid (pis_good hpr)
     clear hpr
     go_wp2_with fail
     refine KP2.out.mono ?_
     rintro r0 w4 ⟨⟨k,x,n,G,m,c,rfl,hz⟩,h4⟩
     have S4:=Lib.hid (since_t SC.out h4)
     have L4:=Lib.hid (LC.out.up h4)
     have N5:=Lib.hid (Tb.new hz)
     have S5:=Lib.hid (since_alloc w4 (.cells #[.int .u8 (k:Nat),.string x,.int .i64 n,.slice G m c] 39))
     obtain ⟨W5,hW5⟩:∃ W5,w4.alloc (.cells #[.int .u8 (k:Nat),.string x,.int .i64 n,.slice G m c] 39)=W5:=⟨_,rfl⟩
     rw [hW5] at N5 S5
     have S5':=Lib.hid (since_t S4.out S5.out)
     have L5:=Lib.hid (L4.out.up S5.out)
     obtain ⟨u0,u1,u2,u3⟩:=N5.out.cells
     clear hz h4
     by_cases hp:PrOk (zOf ta)
     ·
      have KR:=Lib.hid (KRO.out (zOf ta) _ W5 (by have:=HG.out.1.wt;omega) N5.out.is L5.out hp)
      have HP:=Lib.hid hp
      clear hp
      go_wp2_with fail
      refine KR.out.mono ?_
      rintro r0 w6 ⟨rfl,h6⟩
      have S6:=Lib.hid (since_t S5'.out h6)
      have L6:=Lib.hid (L5.out.up h6)
      have A6:=Lib.hid (N5.out.up h6)
      obtain ⟨tb,hb1,hb2⟩:=HP.out
      have KP7:=Lib.hid (KPO.out _ w6 tb hb1 L6.out)
      have HTB:=Lib.hid hb2
      clear h6 hb1 hb2
      go_wp2_with fail
      refine KP7.out.mono ?_
      rintro r0 w7 ⟨⟨k2,x2,n2,G2,m2,c2,rfl,hz⟩,h7⟩
      have S7:=Lib.hid (since_t S6.out h7)
      have N8:=Lib.hid (Tb.new hz)
      have S8:=Lib.hid (since_alloc w7 (.cells #[.int .u8 (k2:Nat),.string x2,.int .i64 n2,.slice G2 m2 c2] 39))
      obtain ⟨W8,hW8⟩:∃ W8,w7.alloc (.cells #[.int .u8 (k2:Nat),.string x2,.int .i64 n2,.slice G2 m2 c2] 39)=W8:=⟨_,rfl⟩
      rw [hW8] at N8 S8
      have S8':=Lib.hid (since_t S7.out S8.out)
      have L8:=Lib.hid ((L6.out.up h7).up S8.out)
      have A8:=Lib.hid ((A6.out.up h7).up S8.out)
      rw [HTB.out] at N8
      obtain ⟨v0,v1,v2,v3⟩:=N8.out.cells
      have KR8:=Lib.hid (KRO.out (zOf ta) _ W8 (by have:=HG.out.1.wt;omega) N8.out.is L8.out HP.out)
      clear hz h7
      go_wp2_with fail
      refine KR8.out.mono ?_
      rintro r0 w9 ⟨rfl,h9⟩
      have S9:=Lib.hid (since_t S8'.out h9)
      have A9:=Lib.hid (A8.out.up h9)
      have N9:=Lib.hid (N8.out.up h9)
      obtain ⟨u0,u1,u2,u3⟩:=A9.out.cells
      obtain ⟨v0,v1,v2,v3⟩:=N9.out.cells
      have KE:=Lib.hid (same_eq (zOf ta) w9 _ _ (by have:=HG.out.1.wt;omega) A9.out.is N9.out.is)
      have feq:((ofBytes (fz (zOf ta))).toList == (ofBytes (fz (zOf ta))).toList)=true:=beq_self_eq_true _
      clear h9
      go_wp2_with fail
      refine KE.out.mono ?_
      rintro r0 w10 ⟨rfl,h10⟩
      have S10:=Lib.hid (since_t S9.out h10)
      have KY10:=Lib.hid (KY.out w10)
      clear h10
      go_wp2_with fail
      refine KY10.out.mono ?_
      rintro r0 w11 ⟨rfl,h11⟩
      have S11:=Lib.hid (since_t S10.out h11)
      clear h11
      go_wp2_with fail
      go_ret
      exact ⟨rfl,S11.out⟩
     ·
      have hlen:1000 < (form ta).size:=by
       rcases Nat.lt_or_ge 1000 (form ta).size with h | h
       ·
        exact h
       ·
        exact absurd ⟨ta,by rw [HG.out.1.form];exact HG.out.1.back h,rfl⟩ hp
      have f4:(s.size:Int) > 400:=by have:=HG.out.2.2;omega
      have KR:=Lib.hid (KRN.out (zOf ta) _ W5 (by have:=HG.out.1.wt;omega) N5.out.is L5.out hp)
      clear hp hlen
      go_wp2_with fail
      refine KR.out.mono ?_
      rintro r0 w6 ⟨rfl,h6⟩
      have S6:=Lib.hid (since_t S5'.out h6)
      have KY6:=Lib.hid (KY.out w6)
      clear h6
      go_wp2_with fail
      refine KY6.out.mono ?_
      rintro r0 w7 ⟨rfl,h7⟩
      have S7:=Lib.hid (since_t S6.out h7)
      clear h7
      go_wp2_with fail
      go_ret
      exact ⟨rfl,S7.out⟩
end Go.Proofs.YthbdlnflmfchjaaGreatDoor
