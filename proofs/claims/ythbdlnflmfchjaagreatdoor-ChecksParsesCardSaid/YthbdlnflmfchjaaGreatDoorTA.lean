/- The specification's compared walked. -/
import Derived.Test.YthbdlnflmfchjaaGreatDoorDC
import Derived.Test.YthbdlnflmfchjaaGreatDoorFM9
import Derived.Lib.ItoaNum
set_option linter.unusedVariables false
set_option linter.unusedSimpArgs false
namespace Go.Proofs.YthbdlnflmfchjaaGreatDoor
open Go.Proofs.Tryz
open Go.RowKit Go.Proofs.Fm Go.Proofs.MapEnt
set_option maxHeartbeats 1600000
set_option maxRecDepth 1000000
def ff(x:BA)(a b:Nat):Bool:=if x=⟨#[61,61]⟩∨x=⟨#[33,61]⟩then decide (a=b∧(a=110∨a=115∨a=108))else if x=⟨#[105,110]⟩then decide (a=115∧b=108)else if x=⟨#[126]⟩then decide (a=108∧b=108)else decide (a=110∧b=110)
theorem Li{P:Prop}(h:P:=by subst k0;exact BJ):P:=h
theorem Lj{P:Prop}(h:P:=by clear hab h110 h115 h108;exact vu):P:=h
theorem Lk{P:Prop}(h:P:=by clear hab h110;exact vv):P:=h
theorem Ll{P:Prop}(h:P:=by clear hab h115 h110;exact vv):P:=h
theorem Lm{P:Prop}(h:P:=by clear hab h108 h110 h115;exact vv):P:=h
theorem Fs{P:Prop}(h:P:=by rw[HX.o];exact aA (fun h=>h.2.elim h110 (fun h=>h.elim h115 h108))):P:=h
theorem Ft{P:Prop}(h:P:=by clear hab;exact vu):P:=h
theorem Ln{P:Prop}(h:P:=by subst k1;exact BJ):P:=h
theorem Lo{P:Prop}(h:P:=by subst k2;exact BJ):P:=h
theorem zN{P:Prop}(h:P:=by clear ha hb;exact vv):P:=h
theorem zO{P:Prop}(h:P:=by clear ha hb;exact vu):P:=h
theorem zP{P:Prop}(h:P:=by clear ha;exact vu):P:=h
theorem Lp{P:Prop}(h:P:=by subst k3;exact BJ):P:=h
theorem BJ{P:Prop}(h:P:=by first|exact if_pos (.inl rfl)|exact if_pos (.inr rfl)|exact(if_neg (by decide)).trans (if_pos rfl)|exact(if_neg (by decide)).trans ((if_neg (by decide)).trans (if_pos rfl))):P:=h
theorem vu{P:Prop}(h:P:=by clear ne eq;go_enter func185,ntmps185;go_wp2_with fail;exact au (v:=.bool false) (by simp[results,results185,go_sem]) rfl ⟨by rw[HR.o],rfl⟩):P:=h
theorem vv{P:Prop}(h:P:=by clear ne eq;go_enter func185,ntmps185;go_wp2_with fail;exact au (v:=.bool true) (by simp[results,results185,go_sem]) rfl ⟨by rw[HR.o],rfl⟩):P:=h
theorem sU(x:BA)(a b:Nat)(w:World):Calls prog 185 #[.string x,.int .u8 (a:Nat),.int .u8 (b:Nat)] w fun E w'=>E=.returned (.bool (ff x a b))∧w'=w:=by
 have ne:∀{p q:Nat},p≠q→((p:Int)==(q:Int))=false:=fun h=>ae (fun e=>h (Int.ofNat.inj e));have eq:∀{p q:Nat},p=q→((p:Int)==(q:Int))=true:=fun h=>ag (by rw[h]);by_cases k0:x=⟨#[61,61]⟩;·
  have HX:Hid (ff x a b=decide (a=b∧(a=110∨a=115∨a=108))):=aa (by unfold ff;exact Li);subst k0;by_cases hab:a=b;·
   have fab:((a:Int)==(b:Int))=true:=eq hab;by_cases h110:a=110;·
    have f110:((a:Int)==110)=true:=eq (q:=110) h110;have HR:Hid (ff ⟨#[61,61]⟩ a b=true):=aa (by rw[HX.o];exact aB ⟨hab,.inl h110⟩);exact Lk
   have f110:((a:Int)==110)=false:=ne (q:=110) h110;by_cases h115:a=115;·
    have f115:((a:Int)==115)=true:=eq (q:=115) h115;have HR:Hid (ff ⟨#[61,61]⟩ a b=true):=aa (by rw[HX.o];exact aB ⟨hab,.inr (.inl h115)⟩);exact Ll
   have f115:((a:Int)==115)=false:=ne (q:=115) h115;by_cases h108:a=108;·
    have f108:((a:Int)==108)=true:=eq (q:=108) h108;have HR:Hid (ff ⟨#[61,61]⟩ a b=true):=aa (by rw[HX.o];exact aB ⟨hab,.inr (.inr h108)⟩);exact Lm
   have f108:((a:Int)==108)=false:=ne (q:=108) h108;have HR:Hid (ff ⟨#[61,61]⟩ a b=false):=aa (by exact Fs);exact Lj
  ·have fab:((a:Int)==(b:Int))=false:=ne hab;have HR:Hid (ff ⟨#[61,61]⟩ a b=false):=aa (by rw[HX.o];exact aA (fun h=>hab h.1));exact Ft
 by_cases k1:x=⟨#[33,61]⟩;·
  have HX:Hid (ff x a b=decide (a=b∧(a=110∨a=115∨a=108))):=aa (by unfold ff;exact Ln);subst k1;by_cases hab:a=b;·
   have fab:((a:Int)==(b:Int))=true:=eq hab;by_cases h110:a=110;·
    have f110:((a:Int)==110)=true:=eq (q:=110) h110;have HR:Hid (ff ⟨#[33,61]⟩ a b=true):=aa (by rw[HX.o];exact aB ⟨hab,.inl h110⟩);exact Lk
   have f110:((a:Int)==110)=false:=ne (q:=110) h110;by_cases h115:a=115;·
    have f115:((a:Int)==115)=true:=eq (q:=115) h115;have HR:Hid (ff ⟨#[33,61]⟩ a b=true):=aa (by rw[HX.o];exact aB ⟨hab,.inr (.inl h115)⟩);exact Ll
   have f115:((a:Int)==115)=false:=ne (q:=115) h115;by_cases h108:a=108;·
    have f108:((a:Int)==108)=true:=eq (q:=108) h108;have HR:Hid (ff ⟨#[33,61]⟩ a b=true):=aa (by rw[HX.o];exact aB ⟨hab,.inr (.inr h108)⟩);exact Lm
   have f108:((a:Int)==108)=false:=ne (q:=108) h108;have HR:Hid (ff ⟨#[33,61]⟩ a b=false):=aa (by exact Fs);exact Lj
  ·have fab:((a:Int)==(b:Int))=false:=ne hab;have HR:Hid (ff ⟨#[33,61]⟩ a b=false):=aa (by rw[HX.o];exact aA (fun h=>hab h.1));exact Ft
 by_cases k2:x=⟨#[105,110]⟩;·
  have HX:Hid (ff x a b=decide (a=115∧b=108)):=aa (by unfold ff;exact Lo);subst k2;by_cases ha:a=115;·
   have fa:((a:Int)==115)=true:=eq (q:=115) ha;by_cases hb:b=108;·
    have fb:((b:Int)==108)=true:=eq (q:=108) hb;have HR:Hid (ff ⟨#[105,110]⟩ a b=true):=aa (by rw[HX.o];exact aB ⟨ha,hb⟩);exact zN
   ·have fb:((b:Int)==108)=false:=ne (q:=108) hb;have HR:Hid (ff ⟨#[105,110]⟩ a b=false):=aa (by rw[HX.o];exact aA (fun h=>hb h.2));exact zO
  ·have fa:((a:Int)==115)=false:=ne (q:=115) ha;have HR:Hid (ff ⟨#[105,110]⟩ a b=false):=aa (by rw[HX.o];exact aA (fun h=>ha h.1));exact zP
 by_cases k3:x=⟨#[126]⟩;·
  have HX:Hid (ff x a b=decide (a=108∧b=108)):=aa (by unfold ff;exact Lp);subst k3;by_cases ha:a=108;·
   have fa:((a:Int)==108)=true:=eq (q:=108) ha;by_cases hb:b=108;·
    have fb:((b:Int)==108)=true:=eq (q:=108) hb;have HR:Hid (ff ⟨#[126]⟩ a b=true):=aa (by rw[HX.o];exact aB ⟨ha,hb⟩);exact zN
   ·have fb:((b:Int)==108)=false:=ne (q:=108) hb;have HR:Hid (ff ⟨#[126]⟩ a b=false):=aa (by rw[HX.o];exact aA (fun h=>hb h.2));exact zO
  ·have fa:((a:Int)==108)=false:=ne (q:=108) ha;have HR:Hid (ff ⟨#[126]⟩ a b=false):=aa (by rw[HX.o];exact aA (fun h=>ha h.1));exact zP
 have HX:Hid (ff x a b=decide (a=110∧b=110)):=aa (by unfold ff;rw[if_neg (fun h=>h.elim k0 k1),if_neg k2,if_neg k3]);have b0:=bJ x ⟨#[61,61]⟩;rw[aA k0,show(⟨#[61,61]⟩:BA).toList=[61,61]from by rw[Lib.toList_data]]at b0;have b1:=bJ x ⟨#[33,61]⟩;rw[aA k1,show(⟨#[33,61]⟩:BA).toList=[33,61]from by rw[Lib.toList_data]]at b1;have b2:=bJ x ⟨#[105,110]⟩;rw[aA k2,show(⟨#[105,110]⟩:BA).toList=[105,110]from by rw[Lib.toList_data]]at b2;have b3:=bJ x ⟨#[126]⟩;rw[aA k3,show(⟨#[126]⟩:BA).toList=[126]from by rw[Lib.toList_data]]at b3;clear k0 k1 k2 k3;by_cases ha:a=110;·
  have fa:((a:Int)==110)=true:=eq (q:=110) ha;by_cases hb:b=110;·
   have fb:((b:Int)==110)=true:=eq (q:=110) hb;have HR:Hid (ff x a b=true):=aa (by rw[HX.o];exact aB ⟨ha,hb⟩);exact zN
  ·have fb:((b:Int)==110)=false:=ne (q:=110) hb;have HR:Hid (ff x a b=false):=aa (by rw[HX.o];exact aA (fun h=>hb h.2));exact zO
 ·have fa:((a:Int)==110)=false:=ne (q:=110) ha;have HR:Hid (ff x a b=false):=aa (by rw[HX.o];exact aA (fun h=>ha h.1));exact zP
def eZ(x:BA)(a b:Nat):Bool:=if x=⟨#[61,61]⟩∨x=⟨#[33,61]⟩then decide (a=b∧a≠4)else if x=⟨#[105,110]⟩then decide (a=2∧b=3)else if x=⟨#[126]⟩then decide (a=3∧b=3)else decide (a=1∧b=1)
theorem Fu{P:Prop}(h:P:=by clear hab h4;exact Fv):P:=h
theorem Lq{P:Prop}(h:P:=by clear hab h4;exact vw):P:=h
theorem Fw{P:Prop}(h:P:=by clear hab;exact vw):P:=h
theorem zR{P:Prop}(h:P:=by clear ha hb;exact Fv):P:=h
theorem zV{P:Prop}(h:P:=by clear ha hb;exact vw):P:=h
theorem zW{P:Prop}(h:P:=by clear ha;exact vw):P:=h
theorem Fv{P:Prop}(h:P:=by clear ne eq;go_enter func100,ntmps100;go_wp2_with fail;exact au (v:=.bool true) (by simp[results,results100,go_sem]) rfl ⟨by rw[HR.o],rfl⟩):P:=h
theorem vw{P:Prop}(h:P:=by clear ne eq;go_enter func100,ntmps100;go_wp2_with fail;exact au (v:=.bool false) (by simp[results,results100,go_sem]) rfl ⟨by rw[HR.o],rfl⟩):P:=h
theorem rR(x:BA)(a b:Nat)(w:World):Calls prog 100 #[.string x,.int .u8 (a:Nat),.int .u8 (b:Nat)] w fun E w'=>E=.returned (.bool (eZ x a b))∧w'=w:=by
 have ne:∀{p q:Nat},p≠q→((p:Int)==(q:Int))=false:=fun h=>ae (fun e=>h (Int.ofNat.inj e));have eq:∀{p q:Nat},p=q→((p:Int)==(q:Int))=true:=fun h=>ag (by rw[h]);by_cases k0:x=⟨#[61,61]⟩;·
  have HX:Hid (eZ x a b=decide (a=b∧a≠4)):=aa (by unfold eZ;exact Li);subst k0;by_cases hab:a=b;·
   have fab:((a:Int)==(b:Int))=true:=eq hab;by_cases h4:a=4;·
    have f4:((a:Int)==4)=true:=eq (q:=4) h4;have g4:((a:Int)!=4)=false:=by unfold bne;rw[f4];rfl
    have HR:Hid (eZ ⟨#[61,61]⟩ a b=false):=aa (by rw[HX.o];exact aA (fun h=>h.2 h4));exact Lq
   have f4:((a:Int)==4)=false:=ne (q:=4) h4;have g4:((a:Int)!=4)=true:=by unfold bne;rw[f4];rfl
   have HR:Hid (eZ ⟨#[61,61]⟩ a b=true):=aa (by rw[HX.o];exact aB ⟨hab,h4⟩);exact Fu
  ·have fab:((a:Int)==(b:Int))=false:=ne hab;have HR:Hid (eZ ⟨#[61,61]⟩ a b=false):=aa (by rw[HX.o];exact aA (fun h=>hab h.1));exact Fw
 by_cases k1:x=⟨#[33,61]⟩;·
  have HX:Hid (eZ x a b=decide (a=b∧a≠4)):=aa (by unfold eZ;exact Ln);subst k1;by_cases hab:a=b;·
   have fab:((a:Int)==(b:Int))=true:=eq hab;by_cases h4:a=4;·
    have f4:((a:Int)==4)=true:=eq (q:=4) h4;have g4:((a:Int)!=4)=false:=by unfold bne;rw[f4];rfl
    have HR:Hid (eZ ⟨#[33,61]⟩ a b=false):=aa (by rw[HX.o];exact aA (fun h=>h.2 h4));exact Lq
   have f4:((a:Int)==4)=false:=ne (q:=4) h4;have g4:((a:Int)!=4)=true:=by unfold bne;rw[f4];rfl
   have HR:Hid (eZ ⟨#[33,61]⟩ a b=true):=aa (by rw[HX.o];exact aB ⟨hab,h4⟩);exact Fu
  ·have fab:((a:Int)==(b:Int))=false:=ne hab;have HR:Hid (eZ ⟨#[33,61]⟩ a b=false):=aa (by rw[HX.o];exact aA (fun h=>hab h.1));exact Fw
 by_cases k2:x=⟨#[105,110]⟩;·
  have HX:Hid (eZ x a b=decide (a=2∧b=3)):=aa (by unfold eZ;exact Lo);subst k2;by_cases ha:a=2;·
   have fa:((a:Int)==2)=true:=eq (q:=2) ha;by_cases hb:b=3;·
    have fb:((b:Int)==3)=true:=eq (q:=3) hb;have HR:Hid (eZ ⟨#[105,110]⟩ a b=true):=aa (by rw[HX.o];exact aB ⟨ha,hb⟩);exact zR
   ·have fb:((b:Int)==3)=false:=ne (q:=3) hb;have HR:Hid (eZ ⟨#[105,110]⟩ a b=false):=aa (by rw[HX.o];exact aA (fun h=>hb h.2));exact zV
  ·have fa:((a:Int)==2)=false:=ne (q:=2) ha;have HR:Hid (eZ ⟨#[105,110]⟩ a b=false):=aa (by rw[HX.o];exact aA (fun h=>ha h.1));exact zW
 by_cases k3:x=⟨#[126]⟩;·
  have HX:Hid (eZ x a b=decide (a=3∧b=3)):=aa (by unfold eZ;exact Lp);subst k3;by_cases ha:a=3;·
   have fa:((a:Int)==3)=true:=eq (q:=3) ha;by_cases hb:b=3;·
    have fb:((b:Int)==3)=true:=eq (q:=3) hb;have HR:Hid (eZ ⟨#[126]⟩ a b=true):=aa (by rw[HX.o];exact aB ⟨ha,hb⟩);exact zR
   ·have fb:((b:Int)==3)=false:=ne (q:=3) hb;have HR:Hid (eZ ⟨#[126]⟩ a b=false):=aa (by rw[HX.o];exact aA (fun h=>hb h.2));exact zV
  ·have fa:((a:Int)==3)=false:=ne (q:=3) ha;have HR:Hid (eZ ⟨#[126]⟩ a b=false):=aa (by rw[HX.o];exact aA (fun h=>ha h.1));exact zW
 have HX:Hid (eZ x a b=decide (a=1∧b=1)):=aa (by unfold eZ;rw[if_neg (fun h=>h.elim k0 k1),if_neg k2,if_neg k3]);have b0:=bJ x ⟨#[61,61]⟩;rw[aA k0,show(⟨#[61,61]⟩:BA).toList=[61,61]from by rw[Lib.toList_data]]at b0;have b1:=bJ x ⟨#[33,61]⟩;rw[aA k1,show(⟨#[33,61]⟩:BA).toList=[33,61]from by rw[Lib.toList_data]]at b1;have b2:=bJ x ⟨#[105,110]⟩;rw[aA k2,show(⟨#[105,110]⟩:BA).toList=[105,110]from by rw[Lib.toList_data]]at b2;have b3:=bJ x ⟨#[126]⟩;rw[aA k3,show(⟨#[126]⟩:BA).toList=[126]from by rw[Lib.toList_data]]at b3;clear k0 k1 k2 k3;by_cases ha:a=1;·
  have fa:((a:Int)==1)=true:=eq (q:=1) ha;by_cases hb:b=1;·
   have fb:((b:Int)==1)=true:=eq (q:=1) hb;have HR:Hid (eZ x a b=true):=aa (by rw[HX.o];exact aB ⟨ha,hb⟩);exact zR
  ·have fb:((b:Int)==1)=false:=ne (q:=1) hb;have HR:Hid (eZ x a b=false):=aa (by rw[HX.o];exact aA (fun h=>hb h.2));exact zV
 ·have fa:((a:Int)==1)=false:=ne (q:=1) ha;have HR:Hid (eZ x a b=false):=aa (by rw[HX.o];exact aA (fun h=>ha h.1));exact zW
def dI(k:Nat):Nat:=if k=1 then 110 else if k=2 then 115 else if k=3 then 108 else if k=4 then 100 else 98
theorem Fx:∀a,a<6→∀b,b<6→1≤a→1≤b→(dI a=dI b↔a=b):=by decide
theorem lh(a:Nat)(h1:1≤a)(h2:a≤5)(b:Nat)(h3:1≤b)(h4:b≤5):dI a=dI b↔a=b:=Fx a (by omega) b (by omega) h1 h3
theorem nO:∀a,1≤a→a≤5→(dI a=110↔a=1):=fun a h1 h2=>lh a h1 h2 1 (by decide) (by decide)
theorem Fy:∀a,1≤a→a≤5→(dI a=115↔a=2):=fun a h1 h2=>lh a h1 h2 2 (by decide) (by decide)
theorem rS:∀a,1≤a→a≤5→(dI a=108↔a=3):=fun a h1 h2=>lh a h1 h2 3 (by decide) (by decide)
theorem Fz(x:BA)(a b:Nat)(ha:1≤a)(ha5:a≤4)(hb:1≤b)(hb5:b≤4):ff x (dI a) (dI b)=eZ x a b:=by
 have h5:a≤5:=by omega
 have h6:b≤5:=by omega
 unfold ff eZ;have e0:=lh a ha h5 b hb h6;have e1:=nO a ha h5;have e2:=Fy a ha h5;have e3:=rS a ha h5;have f1:=nO b hb h6;have f3:=rS b hb h6;split;·
  apply decide_eq_decide.2;rw[e0,e1,e2,e3];constructor;·rintro⟨h,h'⟩;exact⟨h,by omega⟩
  ·rintro⟨h,h'⟩;exact⟨h,by omega⟩
 ·
  split;·apply decide_eq_decide.2;rw[e2,f3]
  ·
   split;·apply decide_eq_decide.2;rw[e3,f3]
   ·apply decide_eq_decide.2;rw[e1,f1]
end Go.Proofs.YthbdlnflmfchjaaGreatDoor
namespace Go.Proofs.Fm
section
variable{X:Lex}{s:BA}
theorem FC{i e:Nat}(h1:i≤e)(h2:e≤s.size):∃pre mid post:List UInt8,an s=pre++(mid++post)∧pre.length=i∧mid.length=e-i:=by
 have hl:=bd s;refine⟨(an s).take i,((an s).drop i).take (e-i),((an s).drop i).drop (e-i),?_,?_,?_⟩;·rw[List.take_append_drop,List.take_append_drop]
 ·rw[List.length_take];omega
 ·rw[List.length_take,List.length_drop];omega
theorem FD{pre mid post:List UInt8}(h:an s=pre++(mid++post)){c:UInt8}(hc:c∈mid):∃q,q<mid.length∧bc s (pre.length+q)=c.toNat:=by obtain⟨q,hq,rfl⟩:=List.getElem_of_mem hc;refine⟨q,hq,?_⟩;rw[uF,h,List.getElem?_append_right (Nat.le_add_right _ _),Nat.add_sub_cancel_left,List.getElem?_append_left hq,aD hq];rfl
theorem uc(lo hi:Nat):∀(k i:Nat),s.size-i≤k→∀j,i≤j→j<bC s lo hi i→lo≤bc s j∧bc s j≤hi
 |0,i,hk,j,h1,h2=>by rw[dg (by omega)]at h2;omega
 |k+1,i,hk,j,h1,h2=>by
  by_cases hc:i<s.size∧lo≤bc s i∧bc s i≤hi;·
   rw[ec hc]at h2;by_cases hj:j=i;·subst hj;exact hc.2
   ·exact uc lo hi k (i+1) (by omega) j (by omega) h2
  ·rw[dg hc]at h2;omega
theorem BK(lo hi i:Nat)(hi':i≤s.size):∃pre mid post:List UInt8,an s=pre++(mid++post)∧pre.length=i∧mid.length=bC s lo hi i-i∧(∀c∈mid,lo≤c.toNat∧c.toNat≤hi):=by obtain⟨pre,mid,post,h1,h2,h3⟩:=FC (s:=s) (dD s lo hi i) (d_ s lo hi i hi');refine⟨pre,mid,post,h1,h2,h3,fun c hc=>?_⟩;obtain⟨q,hq,h4⟩:=FD h1 hc;rw[←h4,h2];exact uc lo hi _ i (ai _) (i+q) (by omega) (by omega)
theorem xQ:∀(k:Nat)(d:List UInt8),d.length=k→d≠[]→(∀c∈d,48≤c.toNat∧c.toNat≤57)→(1<d.length→∀c,d.head?=some c→c.toNat≠48)→kG (jH 0 d)=d
 |0,d,hk,h0,_,_=>absurd (List.length_eq_zero_iff.1 hk) h0
 |k+1,d,hk,h0,h1,h2=>by
   obtain⟨r,c,rfl⟩:∃r c,d=r++[c]:=⟨d.dropLast,d.getLast h0,(List.dropLast_concat_getLast h0).symm⟩;have hc:=h1 c (by simp);have hlast:UInt8.ofNat (48+(c.toNat-48))=c:=by
    have:48+(c.toNat-48)=c.toNat:=by omega
    rw[this];exact UInt8.ofNat_toNat
   by_cases hr:r=[];·subst hr;rw[List.nil_append,lC,ni,mB (by omega),Nat.mul_zero,Nat.zero_add,hlast]
   ·
    have hrl:0<r.length:=List.length_pos_iff.2 hr;have hh:∀c',r.head?=some c'→c'.toNat≠48:=fun c' he=>h2 (by simp;omega) c' (by
     cases r with
     |nil=>exact absurd rfl hr
     |cons a q=>exact he);have ih:=xQ k r (by simp at hk;exact hk) hr (fun a ha=>h1 a (by simp[ha])) (fun _=>hh);have hpos:1≤jH 0 r:=by
     have hne:jH 0 r≠0:=by
      intro e;rw[e,mB (by decide)]at ih;have:=hh (UInt8.ofNat (48+0)) (by rw[←ih];rfl);exact this (by decide)
     omega
    rw[po,lC,ni,wj (by omega)];have e1:(10*jH 0 r+(c.toNat-48)) / 10=jH 0 r:=by omega
    have e2:(10*jH 0 r+(c.toNat-48))%10=c.toNat-48:=by omega
    rw[e1,e2,ih,hlast]
theorem mP{ok:BA→Bool}:∀(k i:Nat),s.size-i≤k→∀(acc t:BA)(e:Nat),quoted ok s i acc=some (t,e)→∃x,an t=an acc++x∧(ez x).length+1+i=e∧ok t=true
 |0,i,hk,acc,t,e,h=>by rw[quoted,dif_neg (by omega)]at h;cases h
 |k+1,i,hk,acc,t,e,h=>by
  rw[quoted]at h;split at h;·
   rename_i hl;split at h;·
    split at h;·
     rename_i hok;injection h with h;injection h with h1 h2;subst h1;exact⟨[],by rw[List.append_nil],by rw[←h2];simp[ez];omega,hok⟩
    ·cases h
   ·
    rename_i h34;split at h;·
     split at h;·
      rename_i hl2;split at h;·
       rename_i hc;obtain⟨x,h1,h2,h3⟩:=mP k (i+2) (by omega) _ _ _ h;refine⟨s[i+1]::x,?_,?_,h3⟩;·rw[h1];unfold an;simp[ByteArray.push]
       ·
        have hc2:s[i+1]=34∨s[i+1]=92:=by
         rw[bm hl2]at hc;rcases hc with hc|hc;·exact .inl (UInt8.toNat_inj.1 hc)
         ·exact .inr (UInt8.toNat_inj.1 hc)
        rw[ez,if_pos hc2];simp only[List.length_cons];omega
      ·cases h
     ·cases h
    ·
     rename_i h92;obtain⟨x,h1,h2,h3⟩:=mP k (i+1) (by omega) _ _ _ h;refine⟨s[i]::x,?_,?_,h3⟩;·rw[h1];unfold an;simp[ByteArray.push]
     ·
      have hc2:¬(s[i]=34∨s[i]=92):=by
       rw[bm hl]at h34 h92;rintro(hc|hc);·
        exact h34 (by rw[hc];rfl)
       ·exact h92 (by rw[hc];rfl)
      rw[ez,if_neg hc2];simp only[List.length_cons];omega
  ·cases h
theorem Du{i:Nat}(hi:i<s.size){w:Wd}{e:Nat}(h:bN X.ok X.kept s i=some (w,e)):j_ X w.kind w.text∧(ir w.kind w.text).length+i=e:=by
 have hge:=gZ X.ok X.kept s i hi h;unfold bN at h;dsimp only at h;split at h;·
  rename_i hc;split at h;·cases h
  ·
   rename_i hk;injection h with h;injection h with h1 h2;subst h1;obtain⟨pre,mid,post,g1,g2,g3,g4⟩:=BK (s:=s) 97 122 i (aP hi);have he:=kJ g1;have hr:=dD s 97 122 i;rw[g2,g3,show i+(bC s 97 122 i-i)=bC s 97 122 i by omega]at he;rw[he]at hk⊢;rw[h2]at g3 hk;have hsz:(ofBytes mid).size=mid.length:=by rw[←bd,de]
   refine⟨⟨by rw[hsz];omega,by rw[de];exact g4,fun h12=>?_⟩,?_⟩;·
    cases hx:X.kept (ofBytes mid)with
    |true=>rfl
    |false=>
     exact absurd ⟨by have h12':12<(ofBytes mid).size:=h12;omega,hx⟩ hk
   ·show(an (ofBytes mid)).length+i=e;rw[de];omega
 ·
  split at h;·
   rename_i hc;split at h;·cases h
   ·
    rename_i hk;injection h with h;injection h with h1 h2;subst h1;obtain⟨pre,mid,post,g1,g2,g3,g4⟩:=BK (s:=s) 48 57 i (aP hi);have he:=kJ g1;have hr:=dD s 48 57 i;have hv:=kK mid pre 0 g1;rw[g2,g3,show i+(bC s 48 57 i-i)=bC s 48 57 i by omega]at he hv;rw[he];rw[hv]at hk;rw[h2]at g3 hk;have hh:∀c,mid.head?=some c→bc s i=c.toNat:=fun c hc=>by
     cases mid with
     |nil=>cases hc
     |cons a r=>injection hc with hc;subst hc;rw[←g2];exact(nh (pre:=pre) (c:=a) (post:=r++post) (by simpa using g1)).1
    have hd:=xQ _ mid rfl (by rintro rfl;simp at g3;omega) g4 (fun h1 c hc h48=>hk (.inr ⟨by omega,by rw[hh c hc,h48]⟩));refine⟨⟨jH 0 mid,by omega,by rw[hd]⟩,?_⟩;show(an (ofBytes mid)).length+i=e;rw[de];omega
  ·
   split at h;·
    split at h;·rename_i t e' hq;injection h with h;injection h with h1 h2;subst h1;subst h2;obtain⟨x,g1,g2,g3⟩:=mP _ _ (ai _) _ _ _ hq;have g1':an t=x:=g1;refine⟨g3,?_⟩;show(34::(ez (an t)++[34])).length+i=e';rw[g1'];simp only[List.length_cons,List.length_append,List.length_nil];omega
    ·cases h
   ·
    split at h;·cases h
    ·
     rename_i hn;injection h with h;injection h with h1 h2;subst h1;have hsa:(eW s i=2∧(bc s i=61∨bc s i=33∨bc s i=60∨bc s i=62)∧bc s (i+1)=61)∨(eW s i=1∧(bc s i=60∨bc s i=62∨bc s i=126∨bc s i=43∨bc s i=45∨bc s i=42∨bc s i=40∨bc s i=41∨bc s i=44∨bc s i=58)):=by
      unfold eW at hn⊢;dsimp only at hn⊢;split;·rename_i hc;exact .inl ⟨rfl,hc.1,hc.2.1⟩
      ·
       split;·rename_i hc;exact .inr ⟨rfl,hc⟩
       ·rename_i h1 h2;rw[if_neg h1,if_neg h2]at hn;exact absurd rfl hn
     obtain⟨pre,mid,post,g1,g2,g3⟩:=FC (s:=s) (i:=i) (e:=e) (by omega) (by omega);have he:=kJ g1;rw[g2,g3,show i+(e-i)=i+eW s i by omega]at he;rw[he];refine⟨?_,by show(an (ofBytes mid)).length+i=e;rw[de];omega⟩;rcases hsa with⟨e1,e2,e3⟩|⟨e1,e2⟩;·
      match mid,g3 with
      |[a,b],_=>
       have ha:=(nh (s:=s) (pre:=pre) (c:=a) (post:=b::post) (by simpa using g1)).1;have hb:=(nh (s:=s) (pre:=pre++[a]) (c:=b) (post:=post) (by simpa using g1)).1;rw[List.length_append,List.length_cons,List.length_nil,Nat.zero_add,g2]at hb;rw[g2]at ha;have hb61:b=61:=UInt8.toNat_inj.1 (by rw[←hb,e3];rfl);subst hb61;refine .inr ⟨a,?_,rfl⟩;rw[ha]at e2;unfold AY;rcases e2 with h|h|h|h;·exact .inl (UInt8.toNat_inj.1 h)
       ·exact .inr (.inl (UInt8.toNat_inj.1 h))
       ·exact .inr (.inr (.inl (UInt8.toNat_inj.1 h)))
       ·exact .inr (.inr (.inr (UInt8.toNat_inj.1 h)))
      |[],g3=>simp at g3;omega
      |[a],g3=>simp at g3;omega
      |a::b::c::r,g3=>simp at g3;omega
     ·match mid,g3 with
       |[a],_=>
        have ha:=(nh (s:=s) (pre:=pre) (c:=a) (post:=post) (by simpa using g1)).1;rw[g2]at ha;refine .inl ⟨a,?_,rfl⟩;rw[ha]at e2;unfold AX;rcases e2 with h|h|h|h|h|h|h|h|h|h;·exact .inl (UInt8.toNat_inj.1 h)
        ·exact .inr (.inl (UInt8.toNat_inj.1 h))
        ·exact .inr (.inr (.inl (UInt8.toNat_inj.1 h)))
        ·exact .inr (.inr (.inr (.inl (UInt8.toNat_inj.1 h))))
        ·exact .inr (.inr (.inr (.inr (.inl (UInt8.toNat_inj.1 h)))))
        ·exact .inr (.inr (.inr (.inr (.inr (.inl (UInt8.toNat_inj.1 h))))))
        ·exact .inr (.inr (.inr (.inr (.inr (.inr (.inl (UInt8.toNat_inj.1 h)))))))
        ·exact .inr (.inr (.inr (.inr (.inr (.inr (.inr (.inl (UInt8.toNat_inj.1 h))))))))
        ·exact .inr (.inr (.inr (.inr (.inr (.inr (.inr (.inr (.inl (UInt8.toNat_inj.1 h)))))))))
        ·exact .inr (.inr (.inr (.inr (.inr (.inr (.inr (.inr (.inr (UInt8.toNat_inj.1 h)))))))))
       |[],g3=>simp at g3;omega
       |a::b::r,g3=>simp at g3;omega
theorem nP:∀(k i:Nat),s.size-i≤k→∀(l:List Wd),a_ X.ok X.kept s i=.ok l→(∀w∈l,j_ X w.kind w.text)∧bW l l.length≤2*(s.size-i)
 |k,i,hk,l,h=>by
   rw[a_]at h;split at h;·
    rename_i hi;cases k with
    |zero=>omega
    |succ k=>
      split at h;·have:=nP k (i+1) (by omega) l h;exact⟨this.1,by omega⟩
      ·
       split at h;·cases h
       ·rename_i w e hw;have h1:=Du hi hw;have h2:=gZ X.ok X.kept s i hi hw;cases hr:a_ X.ok X.kept s e with
         |error p=>rw[hr]at h;cases h
         |ok r=>
          rw[hr]at h;have h':Except.ok (ε:=Nat) (w::r)=.ok l:=h;injection h' with h';subst h';have ih:=nP k e (by omega) r hr;refine⟨fun a ha=>?_,?_⟩;·
           rcases List.mem_cons.1 ha with rfl|ha;·exact h1.1
           ·exact ih.1 a ha
          ·
           have e1:bW (w::r) (w::r).length=((ir w.kind w.text).length+1)+bW r r.length:=by unfold bW;rw[List.take_length,List.take_length,List.map_cons,List.sum_cons]
           rw[e1];omega
   ·injection h with h;subst h;exact⟨fun a ha=>(by cases ha),by unfold bW;simp⟩
theorem tU{K:dL}{e f m:Nat}(hO:∀x,K.oper x=true→j_ X .letters x→x=qp){l:List Wd}(hw:a_ X.ok X.kept s 0=.ok l){ts:List Tm}(h:parse K l e f (.several true) 0=some (.ok ts m)):∃t,ts=[t]∧D8 K X t∧(form t).size+1≤bW l m:=by
 have h1:=nP _ 0 (ai _) l hw;obtain⟨t,e1,h2,h3⟩:=tw hO h1.1 f _ _ _ _ h;refine⟨t,e1,h2,?_⟩;have:(form t).size=len (dW t):=by unfold form len;rw[←bd,de]
 rw[this];have:bW l 0=0:=rfl;omega
theorem zX{l:List Wd}{m:Nat}:bW l m≤bW l l.length:=by
 unfold bW;rw[List.take_length];have h:l.map (fun w=>(ir w.kind w.text).length+1)=(l.take m).map (fun w=>(ir w.kind w.text).length+1)++(l.drop m).map (fun w=>(ir w.kind w.text).length+1):=by rw[←List.map_append,List.take_append_drop]
 rw[h,List.sum_append_nat];omega
theorem xH{K:dL}{e f m:Nat}(hO:∀x,K.oper x=true→j_ X .letters x→x=qp){l:List Wd}(hw:a_ X.ok X.kept s 0=.ok l){t:Tm}(h:parse K l e f (.several true) 0=some (.ok [t] m)):(form t).size≤2*s.size:=by obtain⟨t',e1,_,h2⟩:=tU hO hw h;injection e1 with e1;subst e1;have h3:=(nP _ 0 (ai _) l hw).2;have h4:=zX (l:=l) (m:=m);omega
end
inductive Tz where|mk(kind:Nat)(text:BA)(num:Int)(subs:List Tz)
mutual
def iL:Tm→Tz
 |.mk k x n subs=> .mk k x n (eg subs)
def eg:List Tm→List Tz
 |[]=>[]
 |t::ts=>iL t::eg ts
end
theorem iX:∀ts:List Tm,(eg ts).length=ts.length
 |[]=>rfl
 |t::ts=>by rw[eg,List.length_cons,List.length_cons,iX ts]
def eK:Tz→Nat
 |.mk k _ _ _=>k
theorem e_(t:Tm):eK (iL t)=bV t:=by cases t;rfl
def gW(b k:Nat):Bool:=(decide (b=1)&&decide (k=14))||(decide (b=2)&&(decide (k=14)||decide (k=13)))
def cL(b k:Nat)(l:List UInt8):List UInt8:=if gW b k then 40::(l++[41])else l
mutual
def fz:Tz→List UInt8
 |.mk k x n subs=>if k=1 then Lib.itoa n else if k=2 then 34::(ez (an x)++[34])else if k=3 then an x else if k=4 then an dU else if k=5 then an dV else if k=6∨k=11 then an x++(40::(cO 0 [44,32] subs++[41]))else if k=7 then dk 0 subs 0++([32,43,32]++dk 0 subs 1)else if k=8 then dk 0 subs 0++([32,45,32]++dk 0 subs 1)else if k=9 then dk 0 subs 0++([32,42,32]++dk 0 subs 1)else if k=10 then dk 0 subs 0++((32::(an x++[32]))++dk 0 subs 1)else if k=12 then[110,111,116,32]++dk 2 subs 0 else if k=13 then cO 2 [32,97,110,100,32] subs else if k=14 then cO 1 [32,111,114,32] subs else if k=15∨k=16 then(if k=16 then[97,110,121,32]else[97,108,108,32])++(an x++([32,105,110,32]++(dk 0 subs 0++([58,32]++dk 2 subs 1))))else[]
def dk(b:Nat):List Tz→Nat→List UInt8
 |[],_=>[]
 |t::_,0=>cL b (eK t) (fz t)
 |_::ts,i+1=>dk b ts i
def cO(b:Nat)(sep:List UInt8):List Tz→List UInt8
 |[]=>[]
 |t::ts=>cL b (eK t) (fz t)++eY b sep ts
def eY(b:Nat)(sep:List UInt8):List Tz→List UInt8
 |[]=>[]
 |t::ts=>sep++(cL b (eK t) (fz t)++eY b sep ts)
end
def oN(t:Tm):Prop:=1≤bV t∧bV t≤9
structure rJ(K:dL)(k:Nat)(x:BA)(subs:List Tm):Prop where
 leaf:k≤5→subs=[]
 func:k=6→K.func x=true
 test:k=11→K.test x=true
 args:k=6∨k=11→subs≠[]∧∀a∈subs,oN a
 two:k=7∨k=8∨k=9∨k=10→∃a b,subs=[a,b]∧oN a∧oN b
 not_:k=12→∃a,subs=[a]
 many:k=13∨k=14→2≤subs.length
 each:k=15∨k=16→∃a b,subs=[a,b]∧oN a
 lo:1≤k
 hi:k≤16
 text:k=1∨k=4∨k=5∨k=7∨k=8∨k=9∨k=12∨k=13∨k=14→x=ByteArray.empty
mutual
def Wf(K:dL):Tm→Prop
 |.mk k x _ subs=>rJ K k x subs∧zv K subs
def zv(K:dL):List Tm→Prop
 |[]=>True
 |t::ts=>Wf K t∧zv K ts
end
theorem jw{K:dL}{k:Nat}{x:BA}{n:Nat}{subs:List Tm}:Wf K (.mk k x n subs)↔rJ K k x subs∧zv K subs:=by rw[Wf]
theorem lj{K:dL}:∀(ts:List Tm),(∀t∈ts,Wf K t)→zv K ts
 |[],_=>by rw[zv];trivial
 |t::ts,h=>by rw[zv];exact⟨h t (by simp),lj ts (fun u hu=>h u (by simp[hu]))⟩
theorem vg{K:dL}:∀(ts:List Tm),zv K ts→∀t∈ts,Wf K t
 |[],_,t,h=>by cases h
 |u::ts,hh,t,h=>by
  rw[zv]at hh;rcases List.mem_cons.1 h with rfl|h;·exact hh.1
  ·exact vg ts hh.2 t h
section
variable{K:dL}{dT:Nat→Prop}{okT:BA→Prop}{okV:Kd→BA→Prop}
theorem Lr{t:Tm}(h:ow K dT okT okV t):oN t:=by
 cases h<;>(unfold oN bV;dsimp only;omega)
theorem BM{t:Tm}(h:qH K dT okT okV t):oN t:=by
 cases h with
 |atom _ h=>exact Lr h
 |mul _ _ _ _=>
  exact⟨by show 1≤9;decide,by show 9≤9;decide⟩
theorem pR{t:Tm}(h:kx K dT okT okV t):oN t:=by
 cases h with
 |prod _ h=>exact BM h
 |add _ _ _ _=>
  exact⟨by show 1≤7;decide,by show 7≤9;decide⟩
 |sub _ _ _ _=>
  exact⟨by show 1≤8;decide,by show 8≤9;decide⟩
theorem nQ{k n:Nat}{x:BA}(h1:1≤k)(h2:k≤5)(hx:k=1∨k=4∨k=5→x=ByteArray.empty):Wf K (.mk k x n []):=jw.2 ⟨⟨fun _=>rfl,fun h=>by omega,fun h=>by omega,fun h=>by omega,fun h=>by omega,fun h=>by omega,fun h=>by omega,fun h=>by omega,h1,by omega,fun h=>hx (by omega)⟩,by rw[zv];trivial⟩
theorem vx{k n:Nat}{x:BA}{a b:Tm}(hk:k=7∨k=8∨k=9∨k=10)(ha:Wf K a)(hb:Wf K b)(ia:oN a)(ib:oN b)(hx:k≠10→x=ByteArray.empty):Wf K (.mk k x n [a,b]):=jw.2 ⟨⟨fun h=>by omega,fun h=>by omega,fun h=>by omega,fun h=>by omega,fun _=>⟨a,b,rfl,ia,ib⟩,fun h=>by omega,fun h=>by omega,fun h=>by omega,by omega,by omega,fun h=>hx (by omega)⟩,lj _ (fun t ht=>by
 rcases List.mem_cons.1 ht with rfl|ht;·exact ha
 ·rw[aK.1 ht];exact hb)⟩
theorem xR:∀(N:Nat)(t:Tm),SizeOf.sizeOf t<N→(ow K dT okT okV t→Wf K t)∧(qH K dT okT okV t→Wf K t)∧(kx K dT okT okV t→Wf K t)
 |0,_,h=>absurd h (aH _)
 |N+1,t,hN=>by
   have ih:=xR N;have h1:ow K dT okT okV t→Wf K t:=fun h=>by
    cases h with
    |num n _=>exact nQ (by decide) (by decide) (fun _=>rfl)
    |text x _=>exact nQ (by decide) (by decide) (fun h=>by omega)
    |name x _ _=>exact nQ (by decide) (by decide) (fun h=>by omega)
    |src=>exact nQ (by decide) (by decide) (fun _=>rfl)
    |tgt=>exact nQ (by decide) (by decide) (fun _=>rfl)
    |call x a asq hf _ _ _ ha has=>
     refine jw.2 ⟨⟨fun h=>by omega,fun _=>hf,fun h=>by omega,fun _=>⟨by simp,fun b hb=>?_⟩,fun h=>by omega,fun h=>by omega,fun h=>by omega,fun h=>by omega,by omega,by omega,fun h=>by omega⟩,lj _ (fun b hb=>?_)⟩;·
      rcases List.mem_cons.1 hb with rfl|hb;·exact pR ha
      ·exact pR (has b hb)
     ·
      have hsz:SizeOf.sizeOf b<N:=by
       have h1:SizeOf.sizeOf b<SizeOf.sizeOf (a::asq):=List.sizeOf_lt_of_mem hb;have h2:SizeOf.sizeOf (Tm.mk 6 x 0 (a::asq))=1+6+SizeOf.sizeOf x+0+SizeOf.sizeOf (a::asq):=by simp
       omega
      rcases List.mem_cons.1 hb with rfl|hb;·exact(ih b hsz).2.2 ha
      ·exact(ih b hsz).2.2 (has b hb)
   have h2:qH K dT okT okV t→Wf K t:=fun h=>by
    cases h with
    |atom _ h=>exact h1 h
    |mul p a hp ha=>
     have e:SizeOf.sizeOf (Tm.mk 9 ByteArray.empty 0 [p,a])=1+9+SizeOf.sizeOf ByteArray.empty+0+(1+SizeOf.sizeOf p+(1+SizeOf.sizeOf a+1)):=by simp
     exact vx (.inr (.inr (.inl rfl))) ((ih p (by omega)).2.1 hp) ((ih a (by omega)).1 ha) (BM hp) (Lr ha) (fun _=>rfl)
   refine⟨h1,h2,fun h=>?_⟩;cases h with
   |prod _ h=>exact h2 h
   |add u p hu hp=>
    have e:SizeOf.sizeOf (Tm.mk 7 ByteArray.empty 0 [u,p])=1+7+SizeOf.sizeOf ByteArray.empty+0+(1+SizeOf.sizeOf u+(1+SizeOf.sizeOf p+1)):=by simp
    exact vx (.inl rfl) ((ih u (by omega)).2.2 hu) ((ih p (by omega)).2.1 hp) (pR hu) (BM hp) (fun _=>rfl)
   |sub u p hu hp=>
    have e:SizeOf.sizeOf (Tm.mk 8 ByteArray.empty 0 [u,p])=1+8+SizeOf.sizeOf ByteArray.empty+0+(1+SizeOf.sizeOf u+(1+SizeOf.sizeOf p+1)):=by simp
    exact vx (.inr (.inl rfl)) ((ih u (by omega)).2.2 hu) ((ih p (by omega)).2.1 hp) (pR hu) (BM hp) (fun _=>rfl)
theorem BN{t:Tm}(h:kx K dT okT okV t):Wf K t:=(xR _ t (aG _)).2.2 h
theorem FE{P:Prop}(h:P:=by
 rcases List.mem_cons.1 hc with rfl|hc;·exact ih c hsz ha
 ·
  rcases List.mem_cons.1 hc with rfl|hc;·exact ih c hsz hb
  ·exact ih c hsz (has c hc)):P:=h
theorem Ls:∀(N:Nat)(t:Tm),SizeOf.sizeOf t<N→kI K dT okT okV t→Wf K t
 |0,_,h,_=>absurd h (aH _)
 |N+1,t,hN,h=>by
   have ih:=Ls N;cases h with
   |cmp x a b _ _ ha hb=>exact vx (.inr (.inr (.inr rfl))) (BN ha) (BN hb) (pR ha) (pR hb) (fun h=>absurd rfl h)
   |test x a asq ht _ ha has=>
    have hall:∀b∈a::asq,kx K dT okT okV b:=fun b hb=>by
     rcases List.mem_cons.1 hb with rfl|hb;·exact ha
     ·exact has b hb
    exact jw.2 ⟨⟨fun h=>by omega,fun h=>by omega,fun _=>ht,fun _=>⟨by simp,fun b hb=>pR (hall b hb)⟩,fun h=>by omega,fun h=>by omega,fun h=>by omega,fun h=>by omega,by omega,by omega,fun h=>by omega⟩,lj _ (fun b hb=>BN (hall b hb))⟩
   |not a ha=>
    have e:SizeOf.sizeOf (Tm.mk 12 ByteArray.empty 0 [a])=1+12+SizeOf.sizeOf ByteArray.empty+0+(1+SizeOf.sizeOf a+1):=by simp
    exact jw.2 ⟨⟨fun h=>by omega,fun h=>by omega,fun h=>by omega,fun h=>by omega,fun h=>by omega,fun _=>⟨a,rfl⟩,fun h=>by omega,fun h=>by omega,by omega,by omega,fun _=>rfl⟩,lj _ (fun b hb=>by rw[aK.1 hb];exact ih a (by omega) ha)⟩
   |and a b asq ha hb has=>
    refine jw.2 ⟨⟨fun h=>by omega,fun h=>by omega,fun h=>by omega,fun h=>by omega,fun h=>by omega,fun h=>by omega,fun _=>by simp,fun h=>by omega,by omega,by omega,fun _=>rfl⟩,lj _ (fun c hc=>?_)⟩;have hsz:SizeOf.sizeOf c<N:=by
     have h1:SizeOf.sizeOf c<SizeOf.sizeOf (a::b::asq):=List.sizeOf_lt_of_mem hc;have h2:SizeOf.sizeOf (Tm.mk 13 ByteArray.empty 0 (a::b::asq))=1+13+SizeOf.sizeOf ByteArray.empty+0+SizeOf.sizeOf (a::b::asq):=by simp
     omega
    exact FE
   |or a b asq ha hb has=>
    refine jw.2 ⟨⟨fun h=>by omega,fun h=>by omega,fun h=>by omega,fun h=>by omega,fun h=>by omega,fun h=>by omega,fun _=>by simp,fun h=>by omega,by omega,by omega,fun _=>rfl⟩,lj _ (fun c hc=>?_)⟩;have hsz:SizeOf.sizeOf c<N:=by
     have h1:SizeOf.sizeOf c<SizeOf.sizeOf (a::b::asq):=List.sizeOf_lt_of_mem hc;have h2:SizeOf.sizeOf (Tm.mk 14 ByteArray.empty 0 (a::b::asq))=1+14+SizeOf.sizeOf ByteArray.empty+0+SizeOf.sizeOf (a::b::asq):=by simp
     omega
    exact FE
   |each k x a b hk _ _ ha hb=>
    have e:SizeOf.sizeOf (Tm.mk k x 0 [a,b])=1+k+SizeOf.sizeOf x+0+(1+SizeOf.sizeOf a+(1+SizeOf.sizeOf b+1)):=by simp
    exact jw.2 ⟨⟨fun h=>by omega,fun h=>by omega,fun h=>by omega,fun h=>by omega,fun h=>by omega,fun h=>by omega,fun h=>by omega,fun _=>⟨a,b,rfl,pR ha⟩,by omega,by omega,fun h=>by omega⟩,lj _ (fun c hc=>by
     rcases List.mem_cons.1 hc with rfl|hc;·exact BN ha
     ·rw[aK.1 hc];exact ih b (by omega) hb)⟩
theorem OB{t:Tm}(h:kI K dT okT okV t):Wf K t:=Ls _ t (aG _) h
end
theorem qz{t:Tm}(h:oN t)(b:Nat):gW b (bV t)=false:=by obtain⟨h1,h2⟩:=h;unfold gW;simp;omega
theorem FF(k:Nat):gW 0 k=false:=by unfold gW;simp
theorem fU(k:Nat)(x:BA)(n:Int)(subs:List Tz):fz (.mk k x n subs)=if k=1 then Lib.itoa n else if k=2 then 34::(ez (an x)++[34])else if k=3 then an x else if k=4 then an dU else if k=5 then an dV else if k=6∨k=11 then an x++(40::(cO 0 [44,32] subs++[41]))else if k=7 then dk 0 subs 0++([32,43,32]++dk 0 subs 1)else if k=8 then dk 0 subs 0++([32,45,32]++dk 0 subs 1)else if k=9 then dk 0 subs 0++([32,42,32]++dk 0 subs 1)else if k=10 then dk 0 subs 0++((32::(an x++[32]))++dk 0 subs 1)else if k=12 then[110,111,116,32]++dk 2 subs 0 else if k=13 then cO 2 [32,97,110,100,32] subs else if k=14 then cO 1 [32,111,114,32] subs else if k=15∨k=16 then(if k=16 then[97,110,121,32]else[97,108,108,32])++(an x++([32,105,110,32]++(dk 0 subs 0++([58,32]++dk 2 subs 1))))else[]:=by rw[fz]
theorem nJ(b:Nat)(s t:Tm):dk b (eg [s,t]) 0=cL b (bV s) (fz (iL s))∧dk b (eg [s,t]) 1=cL b (bV t) (fz (iL t)):=by rw[eg,eg,eg,dk,dk,dk,e_,e_];exact⟨rfl,rfl⟩
theorem Fe(b:Nat)(s:Tm):dk b (eg [s]) 0=cL b (bV s) (fz (iL s)):=by rw[eg,eg,dk,e_]
theorem nK{b k:Nat}{l:List UInt8}(h:gW b k=false):cL b k l=l:=by unfold cL;rw[h];rfl
mutual
def Nd:Tm→Nat
 |.mk _ _ _ subs=>xG subs+1
def xG:List Tm→Nat
 |[]=>0
 |t::ts=>Nd t+xG ts
end
mutual
def vR(B:Nat):Tm→Prop
 |.mk _ x _ subs=>x.size≤B∧lY B subs
def lY(B:Nat):List Tm→Prop
 |[]=>True
 |t::ts=>vR B t∧lY B ts
end
mutual
theorem vR.mono{A B:Nat}(h:A≤B):∀t:Tm,vR A t→vR B t
 |.mk _ x _ subs,hh=>by rw[vR]at hh⊢;exact⟨ay hh.1 h,lY.mono h subs hh.2⟩
theorem lY.mono{A B:Nat}(h:A≤B):∀ts:List Tm,lY A ts→lY B ts
 |[],_=>by rw[lY];trivial
 |t::ts,hh=>by rw[lY]at hh⊢;exact⟨vR.mono h t hh.1,lY.mono h ts hh.2⟩
end
theorem BO{B:Nat}:∀(ts:List Tm),(∀t∈ts,vR B t)→lY B ts
 |[],_=>by rw[lY];trivial
 |t::ts,h=>by rw[lY];exact⟨h t (by simp),BO ts (fun u hu=>h u (by simp[hu]))⟩
theorem mq(b:Nat)(t:Tm):len (dW t)≤len (c_ b t):=by rw[iu];split<;>omega
theorem BP(b:Nat)(sep:List Pc):∀ts:List Tm,(ts.map fun t=>len (dW t)).sum+ts.length*len sep≤len (fE b sep ts)
 |[]=>by rw[ft,dm];simp
 |t::ts=>by have:=BP b sep ts;have:=mq b t;rw[eS,cQ,cQ,List.map_cons,List.sum_cons,List.length_cons,Nat.add_mul,Nat.one_mul];omega
theorem qx(b:Nat)(sep:List Pc)(ts:List Tm):(ts.map fun t=>len (dW t)).sum+(ts.length-1)*len sep≤len (dz b sep ts):=by
 cases ts with
 |nil=>rw[wh,dm];simp
 |cons t ts=>have:=BP b sep ts;have:=mq b t;rw[ek,cQ,List.map_cons,List.sum_cons,List.length_cons,Nat.add_sub_cancel];omega
theorem qy(k:Nat)(x:BA)(n:Nat)(subs:List Tm):len (dW (.mk k x n subs))=len (dv k x n)+(len (dz (if k=14 then 1 else 2) (dB k x) subs)+len (jc k)):=by rw[iq,cQ,cQ]
theorem Nn{ts:List Tm}{t:Tm}(h:t∈ts):len (dW t)≤(ts.map fun t=>len (dW t)).sum:=by
 induction ts with
 |nil=>cases h
 |cons u ts ih=>
  rw[List.map_cons,List.sum_cons];rcases List.mem_cons.1 h with rfl|h;·omega
  ·have:=ih h;omega
theorem FG{k:Nat}{x:BA}{n:Nat}{subs:List Tm}{t:Tm}(h:t∈subs):len (dW t)≤len (dW (.mk k x n subs)):=by have h1:=Nn h;have h2:=qx (if k=14 then 1 else 2) (dB k x) subs;rw[qy];omega
theorem BQ:∀ts:List Tm,(∀t∈ts,Nd t≤2*len (dW t)+1)→xG ts≤2*(ts.map fun t=>len (dW t)).sum+ts.length
 |[],_=>by rw[xG];simp
 |t::ts,h=>by have:=BQ ts (fun u hu=>h u (by simp[hu]));have:=h t (by simp);rw[xG,List.map_cons,List.sum_cons,List.length_cons];omega
theorem FH{K:dL}{k:Nat}{x:BA}{n:Nat}{subs:List Tm}(h:rJ K k x subs):x.size≤len (dW (.mk k x n subs)):=by
 have hlo:=h.lo;have hhi:=h.hi;have h0:ByteArray.empty.size=0:=rfl;by_cases ht:k=1∨k=4∨k=5∨k=7∨k=8∨k=9∨k=12∨k=13∨k=14;·rw[h.text ht];omega
 rw[qy];have hc:k=2∨k=3∨k=6∨k=10∨k=11∨k=15∨k=16:=by omega
 rcases hc with rfl|rfl|rfl|rfl|rfl|rfl|rfl;·
  have e:len (dv 2 x n)=(34::(ez (an x)++[34])).length:=by show(dX [.word .string x]).length=_;rw[dX,dX,List.append_nil];rfl
  have:(an x).length≤(ez (an x)).length:=by
   generalize an x=l;induction l with
   |nil=>exact aI _
   |cons c l ih=>rw[ez];split<;>simp<;>omega
  rw[bd]at this;rw[e];simp;omega
 ·
  have e:len (dv 3 x n)=x.size:=by show len [lt x]=_;rw[dh,dm];rfl
  omega
 ·
  have e:len (dv 6 x n)=x.size+(1+0):=by show len [lt x,sg dS]=_;rw[dh,jd,dm];rfl
  omega
 ·obtain⟨a,b,e,_,_⟩:=h.two (by decide);have h2:=qx (if 10=14 then 1 else 2) (dB 10 x) subs;have h3:=iQ x;rw[e]at h2⊢;simp only[List.length_cons,List.length_nil]at h2;omega
 ·
  have e:len (dv 11 x n)=x.size+(1+0):=by show len [lt x,sg dS]=_;rw[dh,jd,dm];rfl
  omega
 ·
  have e:len (dv 15 x n)=3+(1+(x.size+(1+(2+(1+0))))):=by show len [lt sAll,.blank,lt x,.blank,lt qp,.blank]=_;rw[dh,cD,dh,cD,dh,cD,dm];rfl
  omega
 ·
  have e:len (dv 16 x n)=3+(1+(x.size+(1+(2+(1+0))))):=by show len [lt i_,.blank,lt x,.blank,lt qp,.blank]=_;rw[dh,cD,dh,cD,dh,cD,dm];rfl
  omega
theorem EV{K:dL}:∀(N:Nat)(t:Tm),SizeOf.sizeOf t<N→Wf K t→Nd t≤2*len (dW t)+1∧vR (len (dW t)) t
 |0,_,h,_=>absurd h (aH _)
 |N+1,.mk k x n subs,hN,h=>by
  obtain⟨hh,hs⟩:=jw.1 h;have ih:∀t∈subs,Nd t≤2*len (dW t)+1∧vR (len (dW t)) t:=fun t ht=>by
   have h1:SizeOf.sizeOf t<SizeOf.sizeOf subs:=List.sizeOf_lt_of_mem ht;have h2:SizeOf.sizeOf (Tm.mk k x n subs)=1+SizeOf.sizeOf k+SizeOf.sizeOf x+SizeOf.sizeOf n+SizeOf.sizeOf subs:=by simp
   exact EV N t (by omega) (vg subs hs t ht)
  have hT:vR (len (dW (.mk k x n subs))) (.mk k x n subs):=by rw[vR];refine⟨FH hh,BO _ (fun t ht=>?_)⟩;have h1:=(ih t ht).2;have h2:len (dW t)≤len (dW (.mk k x n subs)):=FG ht;exact vR.mono h2 t h1
  refine⟨?_,hT⟩;have hL:=BQ subs (fun t ht=>(ih t ht).1);have hJ:=qx (if k=14 then 1 else 2) (dB k x) subs;have hlo:=hh.lo;have hhi:=hh.hi;rw[Nd,qy];by_cases h5:k≤5;·rw[hh.leaf h5,xG];omega
  by_cases h6:k=6∨k=11;·
   have e1:dv k x n=[lt x,sg dS]:=by rcases h6 with rfl|rfl<;>rfl
   have e2:dB k x=[sg ou,.blank]:=by rcases h6 with rfl|rfl<;>rfl
   have e3:len (dv k x n)=x.size+(1+0):=by rw[e1,dh,jd,dm];rfl
   have e4:len (dB k x)=2:=by rw[e2];rfl
   rw[e4]at hJ;omega
  by_cases h7:k=7∨k=8∨k=9∨k=10;·
   obtain⟨a,b,e,_,_⟩:=hh.two h7;have e4:2≤len (dB k x):=by
    rcases h7 with rfl|rfl|rfl|rfl;·exact(by decide:2≤3)
    ·exact(by decide:2≤3)
    ·exact(by decide:2≤3)
    ·rw[iQ];omega
   rw[e]at hJ hL⊢;simp only[List.length_cons,List.length_nil,Nat.add_sub_cancel,Nat.one_mul]at hJ hL;omega
  by_cases h12:k=12;·
   obtain⟨a,e⟩:=hh.not_ h12;have e3:len (dv k x n)=4:=by subst h12;rfl
   rw[e]at hJ hL⊢;simp only[List.length_cons,List.length_nil]at hJ hL;omega
  by_cases h13:k=13∨k=14;·
   have h2:=hh.many h13;have e4:4≤len (dB k x):=by
    rcases h13 with rfl|rfl;·exact(by decide:4≤5)
    ·exact(by decide:4≤4)
   have:(subs.length-1)*4≤(subs.length-1)*len (dB k x):=Nat.mul_le_mul_left _ e4;omega
  ·
   obtain⟨a,b,e,_⟩:=hh.each (by omega);have e4:len (dB k x)=2:=by rcases(by omega:k=15∨k=16)with rfl|rfl<;>rfl
   rw[e4]at hJ;rw[e]at hJ hL⊢;simp only[List.length_cons,List.length_nil]at hJ hL;omega
end Go.Proofs.Fm
namespace Go.Proofs.YthbdlnflmfchjaaGreatDoor
open Go.RowKit Go.Proofs.Fm Go.Proofs.MapEnt Go.Proofs.Uni
def cls(c:Nat):Bool:=c=97||c=117||c=108||c=100||c=115||c=112||c=104||c=46||c=37||c=98
def kh:List Nat→Option Nat
 |[]=>some 0
 |[r]=>if r=37 then none else some 1
 |r::c::l=>if r=37 then(if cls c then(kh l).map (·+1)else none)else(kh (c::l)).map (·+1)
def fL(s:BA):Nat:=match kh (bB s.data.toList)with
 |none=>4
 |some n=>if cU s=false then 4 else if 32<n then 3 else 0
def pS:Tm→Bool
 |.mk k x _ _=>decide (k=2)&&decide (fL x=0)
def nR:BA:=⟨#[104,97,115]⟩
def cF(k:Nat)(x:BA)(subs:List Tm)(l:List Nat)(ns:List BA):Except Nat Nat:=if k=1 then .ok 1 else if k=2 then .ok 2 else if k=3 then(if ns.any fun y=>decide (y=x)then .ok 2 else .error 5)else if k=4∨k=5 then .ok 4 else if k=6∨k=11 then match dx x with
 |none=> .error 1
 |some e=>if(l.map fun(a:Nat)=>(a:Int))=e.args∧(x=nR→(subs[1]?.map pS)=some true)then .ok e.gives.toNat else .error 1 else if k=7∨k=8∨k=9 then(if l.all fun a=>decide (a=1)then .ok 1 else .error 1)else if k=10 then(if eZ x (l[0]?.getD 0) (l[1]?.getD 0)then .ok 5 else .error 1)else if k=15∨k=16 then(if l[0]?.getD 0=3 then .ok 5 else .error 1)else .ok 5
def eO(k:Nat):Bool:=decide (k=15)||decide (k=16)
mutual
def fQ:Tm→List BA→Except Nat Nat
 |.mk k x _ subs,ns=>match je (eO k) x subs 0 ns with
  |.error e=> .error e
  |.ok l=>cF k x subs l ns
def je(q:Bool)(x:BA):List Tm→Nat→List BA→Except Nat (List Nat)
 |[],_,_=> .ok []
 |t::ts,i,ns=>match fQ t (if decide (i=1)&&q then ns++[x]else ns)with
  |.error e=> .error e
  |.ok a=>match je q x ts (i+1) ns with
   |.error e=> .error e
   |.ok l=> .ok (a::l)
end
theorem lM(k:Nat)(x:BA)(n:Nat)(subs:List Tm)(ns:List BA):fQ (.mk k x n subs) ns=match je (eO k) x subs 0 ns with
 |.error e=> .error e
 |.ok l=>cF k x subs l ns:=by rw[fQ]
theorem nS(q:Bool)(x:BA)(i:Nat)(ns:List BA):je q x [] i ns=.ok []:=by rw[je]
theorem ij(q:Bool)(x:BA)(t:Tm)(ts:List Tm)(i:Nat)(ns:List BA):je q x (t::ts) i ns=match fQ t (if decide (i=1)&&q then ns++[x]else ns)with
 |.error e=> .error e
 |.ok a=>match je q x ts (i+1) ns with
  |.error e=> .error e
  |.ok l=> .ok (a::l):=by rw[je]
theorem nT(q:Bool)(x:BA):∀(ts:List Tm)(i:Nat)(ns:List BA)(l:List Nat),je q x ts i ns=.ok l→l.length=ts.length
 |[],i,ns,l,h=>by rw[nS]at h;injection h with h;subst h;rfl
 |t::ts,i,ns,l,h=>by
  rw[ij]at h;split at h;·cases h
  ·
   split at h;·cases h
   ·rename_i l' h2;injection h with h;subst h;rw[List.length_cons,List.length_cons,nT q x ts (i+1) ns l' h2]
def ll(q:Bool)(x:BA)(i:Nat)(ns:List BA):List BA:=if decide (i=1)&&q then ns++[x]else ns
def mQ(q:Bool)(x:BA)(subs:List Tm)(ns:List BA)(r:Except Nat (List Nat))(i:Nat)(l0:List Nat):Prop:=l0.length=i∧r=(je q x (subs.drop i) i ns).map (l0++·)
theorem mQ.start(q:Bool)(x:BA)(subs:List Tm)(ns:List BA):mQ q x subs ns (je q x subs 0 ns) 0 []:=⟨rfl,by rw[List.drop_zero];cases je q x subs 0 ns<;>rfl⟩
theorem mQ.bad{q:Bool}{x:BA}{subs:List Tm}{ns:List BA}{r:Except Nat (List Nat)}{i:Nat}{l0:List Nat}(h:mQ q x subs ns r i l0)(hi:i<subs.length){e:Nat}(he:fQ subs[i] (ll q x i ns)=.error e):r=.error e:=by rw[h.2,aO hi,ij];unfold ll at he;rw[he];rfl
theorem mQ.next{q:Bool}{x:BA}{subs:List Tm}{ns:List BA}{r:Except Nat (List Nat)}{i:Nat}{l0:List Nat}(h:mQ q x subs ns r i l0)(hi:i<subs.length){a:Nat}(he:fQ subs[i] (ll q x i ns)=.ok a):mQ q x subs ns r (i+1) (l0++[a]):=by
 refine⟨by rw[List.length_append,h.1];rfl,?_⟩;rw[h.2,aO hi,ij];unfold ll at he;rw[he];dsimp only;cases je q x (subs.drop (i+1)) (i+1) ns with
 |error e=>rfl
 |ok l=>show Except.ok (l0++a::l)=.ok (l0++[a]++l);rw[List.append_assoc];rfl
theorem mQ.all{q:Bool}{x:BA}{subs:List Tm}{ns:List BA}{r:Except Nat (List Nat)}{i:Nat}{l0:List Nat}(h:mQ q x subs ns r i l0)(hi:¬i<subs.length):r=.ok l0:=by rw[h.2,List.drop_of_length_le (by omega),nS];exact congrArg Except.ok (List.append_nil l0)
abbrev zY(t:Tm):Prop:=oN t
def zZ(k:Nat)(x:BA)(subs:List Tm):Prop:=(k=6→lang.func x=true)∧(k=11→lang.test x=true)∧(k=7∨k=8∨k=9→subs.length=2)∧(k=10→∃a b,subs=[a,b]∧zY a∧zY b)∧(k=15∨k=16→subs.length=2)∧x.size≤100000
mutual
def nH:Tm→Prop
 |.mk k x _ subs=>zZ k x subs∧ln subs
def ln:List Tm→Prop
 |[]=>True
 |t::ts=>nH t∧ln ts
end
theorem nU:∀(ts:List Tm),ln ts→∀i(h:i<ts.length),nH ts[i]
 |[],_,i,h=>absurd h (aH _)
 |t::ts,hh,0,h=>by rw[ln]at hh;exact hh.1
 |t::ts,hh,i+1,h=>by rw[ln]at hh;exact nU ts hh.2 i (Nat.lt_of_succ_lt_succ h)
theorem rT{x:BA}(h:lang.func x=true):∃e,dx x=some e∧e.gives≠5:=by
 unfold lang at h;dsimp only at h;cases hx:dx x with
 |none=>rw[hx]at h;cases h
 |some e=>rw[hx]at h;exact⟨e,rfl,fun h5=>by simp[h5]at h⟩
theorem xS{x:BA}(h:lang.test x=true):∃e,dx x=some e∧e.gives=5:=by
 unfold lang at h;dsimp only at h;cases hx:dx x with
 |none=>rw[hx]at h;cases h
 |some e=>rw[hx]at h;exact⟨e,rfl,of_decide_eq_true h⟩
theorem xT:∀e∈fW,1≤e.gives∧e.gives≤5:=by decide+kernel
theorem FI{P:Prop}(h:P:=by
 split at h;·injection h with h;have:=xT e (eM he).1;omega
 ·cases h):P:=h
theorem z_{k:Nat}{x:BA}{subs:List Tm}{l:List Nat}{ns:List BA}{a:Nat}(h:cF k x subs l ns=.ok a):1≤a∧a≤5:=by
 unfold cF at h;split at h;·injection h with h;omega
 split at h;·injection h with h;omega
 split at h;·
  split at h;·injection h with h;omega
  ·cases h
 split at h;·injection h with h;omega
 split at h;·
  split at h;·cases h
  ·rename_i e he;exact FI
 split at h;·
  split at h;·injection h with h;omega
  ·cases h
 split at h;·
  split at h;·injection h with h;omega
  ·cases h
 split at h;·
  split at h;·injection h with h;omega
  ·cases h
 ·injection h with h;omega
theorem rU{t:Tm}{ns:List BA}{a:Nat}(h:fQ t ns=.ok a):1≤a∧a≤5:=by
 cases t with
 |mk k x n subs=>
  rw[lM]at h;split at h;·cases h
  ·exact z_ h
theorem ud{t:Tm}(ht:nH t)(hi:zY t){ns:List BA}{a:Nat}(h:fQ t ns=.ok a):1≤a∧a≤4:=by
 have h1:=rU h;refine⟨h1.1,?_⟩;cases t with
 |mk k x n subs=>
  rw[lM]at h;rw[nH]at ht;obtain⟨⟨g6,-⟩,-⟩:=ht;have hi:1≤k∧k≤9:=hi;split at h;·cases h
  ·
   rename_i l hl;unfold cF at h;split at h;·injection h with h;omega
   split at h;·injection h with h;omega
   split at h;·
    split at h;·injection h with h;omega
    ·cases h
   split at h;·injection h with h;omega
   split at h;·
    rename_i hk;have hk6:k=6:=by omega
    obtain⟨e,he,h5⟩:=rT (g6 hk6);rw[he]at h;dsimp only at h;exact FI
   split at h;·
    split at h;·injection h with h;omega
    ·cases h
   ·omega
theorem mR(q:Bool)(x:BA):∀(ts:List Tm)(i:Nat)(ns:List BA)(l:List Nat),je q x ts i ns=.ok l→∀a∈l,1≤a∧a≤5
 |[],i,ns,l,h=>by rw[nS]at h;injection h with h;subst h;intro a ha;cases ha
 |t::ts,i,ns,l,h=>by
  rw[ij]at h;split at h;·cases h
  ·
   rename_i a ha;split at h;·cases h
   ·
    rename_i l' h2;injection h with h;subst h;intro b hb;rcases List.mem_cons.1 hb with rfl|hb;·exact rU ha
    ·exact mR q x ts (i+1) ns l' h2 b hb
mutual
theorem Bn{B:Nat}(hB:B≤100000):∀t:Tm,Wf lang t→vR B t→nH t
 |.mk k x n subs,h,ht=>by
  obtain⟨hh,hs⟩:=jw.1 h;rw[vR]at ht;rw[nH];refine⟨⟨hh.func,hh.test,fun hk=>?_,fun hk=>hh.two (by omega),fun hk=>?_,by omega⟩,ue hB subs hs ht.2⟩;·obtain⟨a,b,e,_,_⟩:=hh.two (by omega);rw[e];rfl
  ·obtain⟨a,b,e,_⟩:=hh.each hk;rw[e];rfl
theorem ue{B:Nat}(hB:B≤100000):∀ts:List Tm,zv lang ts→lY B ts→ln ts
 |[],_,_=>by rw[ln];trivial
 |t::ts,h,ht=>by rw[zv]at h;rw[lY]at ht;rw[ln];exact⟨Bn hB t h.1 ht.1,ue hB ts h.2 ht.2⟩
end
