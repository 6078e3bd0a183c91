/- The library's numerals and beginnings, laid at this program. -/
import Derived.Test.YthbdlnflmfchjaaGreatDoorWD
import Derived.Shelf.Strings.Prefix
import Derived.Shelf.Strconv.ParseIntPublic10
import Derived.Shelf.Unicode.ValidAny
import Derived.Shelf.Unicode.DecodeAny
set_option linter.unusedVariables false
set_option linter.unusedSimpArgs false
namespace Go.Proofs.YthbdlnflmfchjaaGreatDoor
open Go.Proofs.Tryz
open Go Go.Shelf Go.RowKit Go.Proofs.Fm Go.Proofs.MapEnt
set_option maxHeartbeats 3200000
set_option maxRecDepth 1000000
def Tryz.lays99_ren:Go.Shelf.Ren:=⟨fun|99=>89|206=>166|n=>n,fun|9=>9|4=>4|3=>3|n=>n,fun|n=>n⟩
theorem Tryz.lays99 : Go.Proofs.Lays.n99 prog Tryz.lays99_ren := {
  mixed := by kernel_rfl
  f99 := func89.trans (congrArg some (by kernel_rfl))
  f206 := func166.trans (congrArg some (by kernel_rfl))
  t3 := underlying3
  a3 := isAgg3
  z3 := sizeOf3
  v3 := zeroValue3
  t4 := underlying4
  a4 := isAgg4
  z4 := sizeOf4
  v4 := zeroValue4
  t9 := underlying9
  a9 := isAgg9
  z9 := sizeOf9
  v9 := zeroValue9 }
def Tryz.laysC174_ren:Go.Shelf.Ren:=⟨fun|174=>87|247=>163|245=>164|287=>229|279=>230|280=>231|281=>232|282=>233|321=>268|322=>269|316=>270|171=>272|205=>271|243=>320|246=>241|283=>288|284=>289|285=>290|286=>291|129=>317|317=>322|318=>323|319=>324|320=>325|337=>346|338=>347|n=>n,fun|9=>9|3=>3|2=>2|75=>166|85=>167|4=>4|167=>290|5=>5|53=>291|175=>292|46=>262|168=>294|37=>190|0=>0|210=>349|21=>21|127=>255|145=>381|143=>379|171=>357|173=>360|212=>383|51=>310|20=>20|213=>384|232=>426|233=>427|80=>198|n=>n,fun|15=>2|16=>3|17=>5|18=>6|19=>7|n=>n⟩
theorem Tryz.laysC174 : Go.Proofs.LaysC.n174 prog Tryz.laysC174_ren := {
  mixed := by kernel_rfl
  f129 := func317.trans (congrArg some (by kernel_rfl))
  f171 := func272.trans (congrArg some (by kernel_rfl))
  f174 := func87.trans (congrArg some (by kernel_rfl))
  f205 := func271.trans (congrArg some (by kernel_rfl))
  f243 := func320.trans (congrArg some (by kernel_rfl))
  f245 := func164.trans (congrArg some (by kernel_rfl))
  f246 := func241.trans (congrArg some (by kernel_rfl))
  f247 := func163.trans (congrArg some (by kernel_rfl))
  f279 := func230.trans (congrArg some (by kernel_rfl))
  f280 := func231.trans (congrArg some (by kernel_rfl))
  f281 := func232.trans (congrArg some (by kernel_rfl))
  f282 := func233.trans (congrArg some (by kernel_rfl))
  f283 := func288.trans (congrArg some (by kernel_rfl))
  f284 := func289.trans (congrArg some (by kernel_rfl))
  f285 := func290.trans (congrArg some (by kernel_rfl))
  f286 := func291.trans (congrArg some (by kernel_rfl))
  f287 := func229.trans (congrArg some (by kernel_rfl))
  f316 := func270.trans (congrArg some (by kernel_rfl))
  f317 := func322.trans (congrArg some (by kernel_rfl))
  f318 := func323.trans (congrArg some (by kernel_rfl))
  f319 := func324.trans (congrArg some (by kernel_rfl))
  f320 := func325.trans (congrArg some (by kernel_rfl))
  f321 := func268.trans (congrArg some (by kernel_rfl))
  f322 := func269.trans (congrArg some (by kernel_rfl))
  f337 := func346.trans (congrArg some (by kernel_rfl))
  f338 := func347.trans (congrArg some (by kernel_rfl))
  t0 := underlying0
  a0 := isAgg0
  z0 := sizeOf0
  v0 := zeroValue0
  t2 := underlying2
  a2 := isAgg2
  z2 := sizeOf2
  v2 := zeroValue2
  t3 := underlying3
  a3 := isAgg3
  z3 := sizeOf3
  v3 := zeroValue3
  t4 := underlying4
  a4 := isAgg4
  z4 := sizeOf4
  v4 := zeroValue4
  t5 := underlying5
  a5 := isAgg5
  z5 := sizeOf5
  v5 := zeroValue5
  t9 := underlying9
  a9 := isAgg9
  z9 := sizeOf9
  v9 := zeroValue9
  t20 := underlying20
  a20 := isAgg20
  z20 := sizeOf20
  v20 := zeroValue20
  t21 := underlying21
  a21 := isAgg21
  z21 := sizeOf21
  v21 := zeroValue21
  t37 := underlying190
  a37 := isAgg190
  z37 := sizeOf190
  v37 := zeroValue190
  t46 := underlying262
  a46 := isAgg262
  z46 := sizeOf262
  v46 := zeroValue262
  t51 := underlying310
  a51 := isAgg310
  z51 := sizeOf310
  v51 := zeroValue310
  t53 := underlying291
  a53 := isAgg291
  z53 := sizeOf291
  v53 := zeroValue291
  t75 := underlying166
  a75 := isAgg166
  z75 := sizeOf166
  v75 := zeroValue166
  t85 := underlying167
  a85 := isAgg167
  z85 := sizeOf167
  v85 := zeroValue167
  t127 := underlying255
  a127 := isAgg255
  z127 := sizeOf255
  v127 := zeroValue255
  t143 := underlying379
  a143 := isAgg379
  z143 := sizeOf379
  v143 := zeroValue379
  t145 := underlying381
  a145 := isAgg381
  z145 := sizeOf381
  v145 := zeroValue381
  t167 := underlying290
  a167 := isAgg290
  z167 := sizeOf290
  v167 := zeroValue290
  t168 := underlying294
  a168 := isAgg294
  z168 := sizeOf294
  v168 := zeroValue294
  t171 := underlying357
  a171 := isAgg357
  z171 := sizeOf357
  v171 := zeroValue357
  t173 := underlying360
  a173 := isAgg360
  z173 := sizeOf360
  v173 := zeroValue360
  t175 := underlying292
  a175 := isAgg292
  z175 := sizeOf292
  v175 := zeroValue292
  t210 := underlying349
  a210 := isAgg349
  z210 := sizeOf349
  v210 := zeroValue349
  t212 := underlying383
  a212 := isAgg383
  z212 := sizeOf383
  v212 := zeroValue383
  t213 := underlying384
  a213 := isAgg384
  z213 := sizeOf384
  t232 := underlying426
  a232 := isAgg426
  z232 := sizeOf426
  v232 := zeroValue426
  t233 := underlying427
  a233 := isAgg427
  z233 := sizeOf427
  v233 := zeroValue427
  g15 := by kernel_rfl
  g16 := by kernel_rfl
  g17 := by kernel_rfl
  g18 := by kernel_rfl
  g19 := by kernel_rfl
  t80 := underlying198
  a80 := isAgg198
  z80 := sizeOf198
  v80 := zeroValue198
  i0 := by kernel_rfl
  i2 := by kernel_rfl
  i3 := by kernel_rfl
  i4 := by kernel_rfl
  i5 := by kernel_rfl
  i9 := by kernel_rfl
  i20 := by kernel_rfl
  i21 := by kernel_rfl
  i37 := by kernel_rfl
  i46 := by kernel_rfl
  i51 := by kernel_rfl
  i53 := by kernel_rfl
  i75 := by kernel_rfl
  i80 := by kernel_rfl
  i85 := by kernel_rfl
  i127 := by kernel_rfl
  i143 := by kernel_rfl
  i145 := by kernel_rfl
  i167 := by kernel_rfl
  i168 := by kernel_rfl
  i171 := by kernel_rfl
  i173 := by kernel_rfl
  i175 := by kernel_rfl
  i210 := by kernel_rfl
  i212 := by kernel_rfl
  i232 := by kernel_rfl
  i233 := by kernel_rfl
  m15 := by kernel_rfl
  m16 := by kernel_rfl
  m17 := by kernel_rfl
  m18 := by kernel_rfl
  m19 := by kernel_rfl
  c0 := by kernel_rfl
  c2 := by kernel_rfl
  c3 := by kernel_rfl
  c4 := by kernel_rfl
  c5 := by kernel_rfl
  c9 := by kernel_rfl
  c20 := by kernel_rfl
  c21 := by kernel_rfl
  c37 := by kernel_rfl
  c46 := by kernel_rfl
  c51 := by kernel_rfl
  c53 := by kernel_rfl
  c75 := by kernel_rfl
  c80 := by kernel_rfl
  c85 := by kernel_rfl
  c127 := by kernel_rfl
  c143 := by kernel_rfl
  c145 := by kernel_rfl
  c167 := by kernel_rfl
  c168 := by kernel_rfl
  c171 := by kernel_rfl
  c173 := by kernel_rfl
  c175 := by kernel_rfl
  c210 := by kernel_rfl
  c212 := by kernel_rfl
  c213 := by kernel_rfl
  c232 := by kernel_rfl
  c233 := by kernel_rfl }
open Go.RowKit Go.Proofs.Fm
def ErrV(w:World):Prop:=∃ev,w.cell? ⟨Tryz.laysC174_ren.g 16,0,none⟩=some ev∧(ev=.nilIface∨∃te pe,ev=.iface te pe)
theorem ErrV.up{w w':World}(h:ErrV w)(hs:w.Since w.heap.size w'):ErrV w':=by obtain⟨ev,h1,h2⟩:=h;exact⟨ev,(hs.cell (a:=⟨Tryz.laysC174_ren.g 16,0,none⟩) (Lib.lt_of_cell h1)).trans h1,h2⟩
theorem uk(s:BA)(hd:∀i(h:i<s.size),48≤s[i].toNat∧s[i].toNat≤57):∀(k i acc:Nat),s.size-i=k→i≤s.size→acc≤18446744073709551615→Lib.parseUintM 18446744073709551615 acc (s.data.toList.drop i)=if bh s i s.size acc≤18446744073709551615 then .ok (bh s i s.size acc)else .range
 |0,i,acc,hk,hi,ha=>by
  have e:i=s.size:=by omega
  have hl:s.data.toList.length=s.size:=Array.length_toList;rw[List.drop_of_length_le (by omega),bh,dif_neg (by omega),if_pos ha];rfl
 |k+1,i,acc,hk,hi,ha=>by
  have hlt:i<s.size:=by omega
  have hl:i<s.data.toList.length:=by rw[Array.length_toList];exact hlt
  have hg:=hd i hlt;rw[aO hl];have hc:s.data.toList[i]=s[i]:=by rw[Array.getElem_toList];rfl
  rw[hc];have hv:bh s i s.size acc=bh s (i+1) s.size (10*acc+(s[i].toNat-48)):=by rw[bh,dif_pos hlt,bm hlt]
  have hge:=mO s s.size (s.size-(i+1)) (i+1) (10*acc+(s[i].toNat-48)) (ai _);rw[Lib.parseUintM,if_pos hg];by_cases h1:1844674407370955162≤acc;·rw[if_pos h1,if_neg (by omega)]
  ·
   rw[if_neg h1];by_cases h2:18446744073709551615<acc*10+(s[i].toNat-48);·rw[if_pos h2,if_neg (by omega)]
   ·rw[if_neg h2,uk s hd k (i+1) _ (by omega) (by omega) (by omega),hv,show acc*10=10*acc by omega]
theorem Dx(s:BA)(h0:0<s.size)(hd:∀i(h:i<s.size),48≤s[i].toNat∧s[i].toNat≤57):Lib.parseIntB 64 s.data.toList=if bh s 0 s.size 0<9223372036854775808 then .ok (bh s 0 s.size 0:Nat)else .range:=by
 have hl:0<s.data.toList.length:=by rw[Array.length_toList];exact h0
 have hp:=uk s hd s.size 0 0 (by omega) (aI _) (aI _);rw[List.drop_zero]at hp;generalize hV:bh s 0 s.size 0=V at hp⊢;have hg:=hd 0 h0;have hc:s.data.toList[0]=s[0]:=by rw[Array.getElem_toList];rfl
 rw[←hc]at hg;cases hL:s.data.toList with
 |nil=>rw[hL]at hl;exact absurd hl (by decide)
 |cons c r=>
  rw[hL]at hp;have hc2:48≤c.toNat∧c.toNat≤57:=by
   have:s.data.toList[0]=c:=by simp[hL]
   rw[this]at hg;exact hg
  unfold Lib.parseIntB;dsimp only;rw[if_neg (by omega)];unfold Lib.parseUintB;rw[if_neg (by simp),show(2^64-1:Nat)=18446744073709551615 by decide,hp];by_cases h1:V≤18446744073709551615;·
   rw[if_pos h1];dsimp only;by_cases h2:V<9223372036854775808;·
    rw[if_neg (by simp;omega),if_neg (by simp;omega),if_pos h2,if_neg (by omega)]
   ·rw[if_pos (by simp;omega),if_neg h2]
  ·rw[if_neg h1,if_neg (by omega)]
theorem FR(s:BA)(w:World)(h0:0<s.size)(hs:s.size≤100000)(hd:∀i(h:i<s.size),48≤s[i].toNat∧s[i].toNat≤57)(hE:ErrV w):Calls prog 87 #[.string s,.int .i64 10,.int .i64 64] w fun E w'=>∃(v:Nat)(ev:Value),E=.returned (.tuple #[.int .i64 (v:Nat),ev])∧w.Since w.heap.size w'∧((bh s 0 s.size 0<9223372036854775808∧ev=.nilIface∧v=bh s 0 s.size 0)∨(9223372036854775808≤bh s 0 s.size 0∧v=9223372036854775807∧∃te pe,ev=.iface te pe)):=by
 have hp:=Dx s h0 hd;by_cases h1:bh s 0 s.size 0<9223372036854775808;·
  rw[if_pos h1]at hp;refine(Any.strconv_ParseInt_10_at64_ok Tryz.laysC174 s (by omega) _ hp w).mono ?_;rintro e w'⟨rfl,hw⟩;refine⟨_,_,rfl,?_,.inl ⟨h1,rfl,rfl⟩⟩;rcases hw with rfl|⟨t,rfl⟩;·exact ah _ _
  ·have hb:=Lib.bytesWorld_below w (Tryz.laysC174_ren.t 5) t;exact⟨hb.os,hb.tape,hb.output,hb.size,hb.block⟩
 ·
  rw[if_neg h1]at hp;obtain⟨ev,hv,hev⟩:=hE;refine(Any.strconv_ParseInt_10_at64_range Tryz.laysC174 s (by omega) hp ev w hv hev).mono ?_;rintro e w'⟨N,rfl,h2,h3,hb⟩;have hsat:Lib.intSat 64 s.data.toList=((9223372036854775807:Nat):Int):=by
   unfold Lib.intSat;rw[if_neg];·
    have hl:0<s.data.toList.length:=by rw[Array.length_toList];exact h0
    have hg:=hd 0 h0;have hc:s.data.toList[0]=s[0]:=by rw[Array.getElem_toList];rfl
    rw[←hc]at hg;intro hh;cases hL:s.data.toList with
    |nil=>rw[hL]at hl;exact absurd hl (by decide)
    |cons c r=>
     have:s.data.toList[0]=c:=by simp[hL]
     rw[this]at hg;rw[hL]at hh;simp at hh;omega
  rw[hsat];exact⟨_,_,rfl,⟨hb.os,hb.tape,hb.output,hb.size,hb.block⟩,.inr ⟨by omega,rfl,_,_,rfl⟩⟩
theorem xV(s p:BA)(w:World):Calls prog 89 #[.string s,.string p] w fun e w'=>e=.returned (.bool (Lib.hasPrefix s.data.toList p.data.toList))∧w'=w:=Any.strings_HasPrefix Tryz.lays99 s p w
def Tryz.lays196_ren:Go.Shelf.Ren:=⟨fun|196=>109|259=>195|n=>n,fun|9=>9|4=>4|3=>3|5=>5|12=>12|119=>258|0=>0|46=>262|139=>261|138=>260|53=>291|n=>n,fun|3=>0|4=>1|n=>n⟩
theorem Tryz.lays196 : Go.Proofs.Lays.n196 prog Tryz.lays196_ren := {
  mixed := by kernel_rfl
  f196 := func109.trans (congrArg some (by kernel_rfl))
  f259 := func195.trans (congrArg some (by kernel_rfl))
  t0 := underlying0
  a0 := isAgg0
  z0 := sizeOf0
  v0 := zeroValue0
  t3 := underlying3
  a3 := isAgg3
  z3 := sizeOf3
  v3 := zeroValue3
  t4 := underlying4
  a4 := isAgg4
  z4 := sizeOf4
  v4 := zeroValue4
  t5 := underlying5
  a5 := isAgg5
  z5 := sizeOf5
  v5 := zeroValue5
  t9 := underlying9
  a9 := isAgg9
  z9 := sizeOf9
  v9 := zeroValue9
  t12 := underlying12
  a12 := isAgg12
  z12 := sizeOf12
  v12 := zeroValue12
  t46 := underlying262
  a46 := isAgg262
  z46 := sizeOf262
  v46 := zeroValue262
  t53 := underlying291
  a53 := isAgg291
  z53 := sizeOf291
  v53 := zeroValue291
  t119 := underlying258
  a119 := isAgg258
  z119 := sizeOf258
  t138 := underlying260
  a138 := isAgg260
  z138 := sizeOf260
  v138 := zeroValue260
  t139 := underlying261
  a139 := isAgg261
  z139 := sizeOf261
  v139 := zeroValue261
  g3 := by kernel_rfl
  g4 := by kernel_rfl }
open Go.RowKit Go.Proofs.Uni Go.Proofs.StrIt
theorem xW{w w':World}(h:Below w.heap.size w w'):w.Since w.heap.size w':=⟨h.os▸rfl,h.tape,h.output,h.size,h.block⟩
def Tabs(w:World):Prop:=Lib.Utf8Tabs (Tryz.lays196_ren.g 3) (Tryz.lays196_ren.g 4) w
theorem pU(s:BA)(w:World)(hs:s.size≤100000000)(hT:Tabs w):Calls prog 52 #[.string s] w fun e w'=>e=.returned (.bool (cU s))∧w.Since w.heap.size w':=by
 have K:Calls prog 109 #[.string s] w _:=Any.utf8_ValidString Tryz.lays196 s w (by omega) hT;have HK:=aa K;have HC:=aa (fun wx=>nV s wx (by omega));have HT:Hid (cU s=(decide (cat (bB s.data.toList)=s.data.toList)&&!(bB s.data.toList).any jT)):=aa rfl;have hV:=um s.data.toList;clear K hT;cases hv:Lib.validD s.data.toList;·
  rw[hv]at hV HK;have HT2:Hid (cU s=false):=aa (by
   rw[HT.o,aA (fun h=>by have:=hV.2 h;cases this)];rfl);rw[HT2.o];clear HT HT2 hV hv HC;go_enter func52,ntmps52;go_wp2_with(go_at_call 109;refine HK.o.mono ?_;rintro e w'⟨rfl,hb⟩);go_ret;exact⟨rfl,xW hb⟩
 ·rw[hv]at hV HK;have HT2:Hid (cU s=!(bB s.data.toList).any jT):=aa (by rw[HT.o,aB (hV.1 rfl)];rfl);rw[HT2.o];clear HT HT2 hV hv;generalize(bB s.data.toList).any jT=b at*;go_enter func52,ntmps52;go_wp2_with(
    first
    |(go_at_call 109;refine HK.o.mono ?_;rintro e w'⟨rfl,hb⟩;have hb2:=aa (xW hb);clear hb)
    |(go_at_call 110;refine(HC.o _).mono ?_;rintro e w2⟨rfl,hs2⟩;have hs3:=aa (aZ hb2.o hs2);clear hs2));go_ret;exact⟨rfl,hs3.o⟩
theorem Tabs.up{w w':World}(h:Tabs w)(hb:w.Since w.heap.size w'):Tabs w':=Utf8Tabs_below h ⟨hb.os,hb.tape,hb.output,hb.size,hb.block⟩
theorem Nt{T:TypeId}{B b:Nat}{l:List UInt8}{W W':World}(h:gr T B b l W)(hb:W.Since W.heap.size W'):gr T B b l W':=by
 have key:∀p,Lib.BuilderAtF T 5 B b p (Lib.byteCells l) W→Lib.BuilderAtF T 5 B b p (Lib.byteCells l) W':=fun p h=>by have hlt:=h.lt;obtain⟨hB,v,hv,hown,hne⟩:=h;exact⟨hB,v,(hb.block b hlt).trans hv,hown.kept (row:=none) ⟨hb.os,hb.tape,hb.output,hb.size,fun k hk _=>hb.block k hk⟩ (Classical.em _),hne⟩
 exact h.elim (fun x=> .inl (key _ x)) (fun x=> .inr (key _ x))
theorem It(w:World)(T:TypeId):gr T w.heap.size w.heap.size [] (w.alloc (.cells #[.pointer none,.slice none 0 0] T)):=.inl ⟨ai _,.slice none 0 0,aq w _,World.ownsRowF_nil _ _ _ _,by simp[Value.ownBlock]⟩
theorem gI{B:Nat}{w w1 w2:World}(h:w.Since B w1)(h2:Below B w1 w2):w.Since B w2:=h.trans ⟨h2.os,h2.tape,h2.output,h2.size,h2.block⟩
def FT(o:Option (BA×Nat)):Value:=match o with
 |some (t,e)=> .tuple #[.int .i64 (e:Nat),.string t]
 |none=> .tuple #[.int .i64 0,.string ⟨#[]⟩]
theorem BZ(l:List UInt8)(c:UInt8):(⟨l.toArray⟩:BA).push c=⟨(l++[c]).toArray⟩:=by apply ByteArray.ext;rw[ByteArray.data_push];simp
theorem LB{P:Prop}(h:P:=by
 go_wp2_with fail;refine K1.o.mono ?_;rintro r0 w2⟨rfl,hb2,hk2⟩;have W2:=aa (gI hW.o hk2.below);have B2:=aa hb2;clear hb2 hk2;go_wp2_with fail;go_roundg(s.size-(i+1+1));case measure=>omega
 case rel=>
  exact⟨i+1+1,l++[s[i+1]],rfl,by omega,by simp,aa (by have:=hA.o;rw[List.length_append];simp;omega),hR,B2,W2⟩):P:=h
theorem FU{P:Prop}(h:P:=by go_wp2_with fail;refine au (v:=(.tuple #[.int .i64 0,.string ⟨#[]⟩])) (by simp[results,results88,go_sem]) rfl ⟨?_,hW.o⟩;rw[hR.o];rfl):P:=h
theorem vB(s:BA)(w:World)(hs:s.size≤100000)(hs1:1≤s.size)(hT:Tabs w):Calls prog 88 #[.string s] w fun e w'=>e=.returned (FT (Fm.quoted cU s 1 ByteArray.empty))∧w.Since w.heap.size w':=by
 have HT:=aa hT;have B0:=aa (It w 194);have S0:Hid (w.Since w.heap.size (w.alloc (.cells #[.pointer none,.slice none 0 0] 194))):=aa ((ah _ _).alloc (ai _) _);have HR:Hid (Fm.quoted cU s 1 ByteArray.empty=Fm.quoted cU s 1 ⟨([]:List UInt8).toArray⟩):=aa rfl;generalize Fm.quoted cU s 1 ByteArray.empty=R at HR⊢;clear hT;go_enter func88,ntmps88;go_wp2_with fail;go_loopg[5](s.size-1)(fun gg o5 wr=>∃(i:Nat)(l:List UInt8),gg=s.size-i∧i≤s.size∧o5=.int .i64 (i:Nat)∧Hid (l.length≤i)∧Hid (R=Fm.quoted cU s i ⟨l.toArray⟩)∧Hid (gr 194 w.heap.size w.heap.size l wr)∧Hid (w.Since w.heap.size wr));case atStart=>exact⟨1,[],rfl,hs1,rfl,aa (aI _),HR,B0,S0⟩
 case round=>
  obtain⟨i,l,rfl,hi,rfl,hA,hE,hB,hW⟩:=hrel;by_cases h1:i<s.size;·
   have i1:(i:Int)<(s.size:Int):=by omega
   have z5:IntKind.i64.wrap ((i:Int)+1)=(i:Int)+1:=ax _ (by omega);have hbt:=bm h1;have hq:Fm.quoted cU s i ⟨l.toArray⟩=if s[i].toNat=34 then(if cU ⟨l.toArray⟩then some (⟨l.toArray⟩,i+1)else none)else if s[i].toNat=92 then(if h2:i+1<s.size then(if bc s (i+1)=34∨bc s (i+1)=92 then Fm.quoted cU s (i+2) (ByteArray.push ⟨l.toArray⟩ s[i+1])else none)else none)else Fm.quoted cU s (i+1) (ByteArray.push ⟨l.toArray⟩ s[i]):=by rw[Fm.quoted,dif_pos h1,hbt]
   have KB:=aa (fun W(c:UInt8)(h:gr 194 w.heap.size w.heap.size l W)(hw:w.heap.size≤W.heap.size)=>OS OT w.heap.size w.heap.size l c W h (by have:=hA.o;omega) hw);have KS:=aa (fun W(h:gr 194 w.heap.size w.heap.size l W)(hw:w.heap.size≤W.heap.size)=>B_ w.heap.size w.heap.size l W h hw);by_cases h2:s[i].toNat=34;·
    rw[if_pos h2]at hq;have b1:(s[i].toNat:Int)=34:=by omega
    have hsz:Hid ((⟨l.toArray⟩:BA).size≤100000000):=aa (by show l.toArray.size≤_;rw[List.size_toArray];have:=hA.o;omega);have K1:=aa (KS.o wr hB.o hW.o.size);cases ht:cU ⟨l.toArray⟩with
    |true=>rw[ht]at hq;have hR:Hid (R=some (⟨l.toArray⟩,i+1)):=aa (hE.o.trans hq);have K:=aa (fun W(h:w.Since w.heap.size W)=>pU ⟨l.toArray⟩ W hsz.o (HT.o.up h));rw[ht]at K;clear hq h2 ht;go_wp2_with fail;refine K1.o.mono ?_;rintro r0 w2⟨rfl,hb2,hk2⟩;have W2:=aa (gI hW.o hk2.below);have B2:=aa hb2;clear hb2 hk2;go_wp2_with fail;refine(K.o _ W2.o).mono ?_;rintro r0 w3⟨rfl,hs3⟩;have W3:=aa (aZ W2.o hs3);have B3:=aa (Nt B2.o hs3);have K3:=aa (KS.o w3 B3.o W3.o.size);clear hs3;go_wp2_with fail;refine K3.o.mono ?_;rintro r0 w4⟨rfl,hb4,hk4⟩;have W4:=aa (gI W3.o hk4.below);clear hb4 hk4;go_wp2_with fail;refine au (v:=(.tuple #[.int .i64 ((i:Int)+1),.string ⟨l.toArray⟩])) (by simp[results,results88,go_sem]) rfl ⟨?_,W4.o⟩;rw[hR.o];rfl
    |false=>rw[ht]at hq;have hR:Hid (R=none):=aa (hE.o.trans hq);have K:=aa (fun W(h:w.Since w.heap.size W)=>pU ⟨l.toArray⟩ W hsz.o (HT.o.up h));rw[ht]at K;clear hq h2 ht;go_wp2_with fail;refine K1.o.mono ?_;rintro r0 w2⟨rfl,hb2,hk2⟩;have W2:=aa (gI hW.o hk2.below);clear hb2 hk2;go_wp2_with fail;refine(K.o _ W2.o).mono ?_;rintro r0 w3⟨rfl,hs3⟩;have W3:=aa (aZ W2.o hs3);clear hs3;go_wp2_with fail;refine au (v:=(.tuple #[.int .i64 0,.string ⟨#[]⟩])) (by simp[results,results88,go_sem]) rfl ⟨?_,W3.o⟩;rw[hR.o];rfl
   ·
    rw[if_neg h2]at hq;have b1:¬(s[i].toNat:Int)=34:=by omega
    by_cases h3:s[i].toNat=92;·
     have b2:(s[i].toNat:Int)=92:=by omega
     rw[if_pos h3]at hq;clear b1;by_cases h4:i+1<s.size;·
      have i2:(i:Int)+1<(s.size:Int):=by omega
      have i3:¬(i:Int)+1=(s.size:Int):=by omega
      have i4:(0:Int)≤(i:Int)+1:=by omega
      have i5:((i:Int)+1).toNat=i+1:=by omega
      have z6:IntKind.i64.wrap ((i:Int)+1+1)=(i:Int)+1+1:=ax _ (by omega);rw[dif_pos h4,bm h4]at hq;have c0:(((i:Int)+1)==(s.size:Int))=false:=ae i3;have K1:=aa (KB.o wr s[i+1] hB.o hW.o.size);have hP:=BZ l s[i+1];rw[hP]at hq;by_cases h5:s[i+1].toNat=34;·rw[if_pos (.inl h5)]at hq;have hR:=aa (hE.o.trans hq);have c1:(((s[i+1].toNat:Nat):Int)!=34)=false:=bne_eq_false_iff_eq.2 (by omega);clear hq h2 h3 h5 hP;exact LB
      ·
       by_cases h6:s[i+1].toNat=92;·rw[if_pos (.inr h6)]at hq;have hR:=aa (hE.o.trans hq);have c1:(((s[i+1].toNat:Nat):Int)!=34)=true:=bne_iff_ne.2 (by omega);have c2:(((s[i+1].toNat:Nat):Int)!=92)=false:=bne_eq_false_iff_eq.2 (by omega);clear hq h2 h3 h5 h6 hP;exact LB
       ·rw[if_neg (fun h=>h.elim h5 h6)]at hq;have hR:Hid (R=none):=aa (hE.o.trans hq);have c1:(((s[i+1].toNat:Nat):Int)!=34)=true:=bne_iff_ne.2 (by omega);have c2:(((s[i+1].toNat:Nat):Int)!=92)=true:=bne_iff_ne.2 (by omega);clear hq h2 h3 h5 h6 hP;exact FU
     ·
      rw[dif_neg h4]at hq;have hR:Hid (R=none):=aa (hE.o.trans hq);have i3:(i:Int)+1=(s.size:Int):=by omega
      have c0:(((i:Int)+1)==(s.size:Int))=true:=ag i3;clear hq h2 h3 i3;exact FU
    ·
     rw[if_neg h3]at hq;have b2:¬(s[i].toNat:Int)=92:=by omega
     have hP:=BZ l s[i];rw[hP]at hq;have hR:=aa (hE.o.trans hq);have K1:=aa (KB.o wr s[i] hB.o hW.o.size);clear hq h2 h3 hP;go_wp2_with fail;refine K1.o.mono ?_;rintro r0 w2⟨rfl,hb2,hk2⟩;have W2:=aa (gI hW.o hk2.below);have B2:=aa hb2;clear hb2 hk2;go_wp2_with fail;go_roundg(s.size-(i+1));case measure=>omega
     case rel=>
      exact⟨i+1,l++[s[i]],rfl,by omega,by simp,aa (by have:=hA.o;rw[List.length_append];simp;omega),hR,B2,W2⟩
  ·
   have i1:¬(i:Int)<(s.size:Int):=by omega
   have hR:Hid (R=none):=aa (by rw[hE.o,Fm.quoted,dif_neg h1]);exact FU
theorem oS(s:BA)(lo hi i:Nat)(hi':i≤s.size):∀(k j:Nat),s.size-(i+j)=k→bC (s.extract i s.size) lo hi j=bC s lo hi (i+j)-i
 |0,j,hk=>by
  have hsz:=ed s i s.size (ai _);rw[dg (by rw[hsz];omega),dg (by omega)];omega
 |k+1,j,hk=>by
  have hsz:=ed s i s.size (ai _);have hb:=ej s i s.size j (ai _) (by omega);by_cases h:lo≤bc s (i+j)∧bc s (i+j)≤hi;·
   rw[ec ⟨by omega,by rw[hb];exact h⟩,ec (n:=i+j) ⟨by omega,h⟩,oS s lo hi i hi' k (j+1) (by omega)];rfl
  ·rw[dg (fun hh=>h (by rw[←hb];exact hh.2)),dg (fun hh=>h hh.2)];omega
theorem jU(ok:BA→Bool)(s:BA)(i:Nat)(hi:i≤s.size):∀(k j:Nat)(acc:BA),s.size-(i+j)≤k→Fm.quoted ok (s.extract i s.size) j acc=(Fm.quoted ok s (i+j) acc).map fun p=>(p.1,p.2-i)
 |k,j,acc,hk=>by
   have hsz:=ed s i s.size (ai _);rw[Fm.quoted];conv=>rhs;rw[Fm.quoted]
   by_cases h:i+j<s.size;·
    have h':j<(s.extract i s.size).size:=by omega
    have hb:=ej s i s.size j (ai _) h;have hg:(s.extract i s.size)[j]=s[i+j]:=ByteArray.getElem_extract h';rw[dif_pos h,dif_pos h',hb];by_cases c1:bc s (i+j)=34;·
     rw[if_pos c1,if_pos c1];by_cases c2:ok acc=true;·rw[if_pos c2,if_pos c2];show some (acc,j+1)=some (acc,i+j+1-i);rw[show i+j+1-i=j+1 by omega]
     ·rw[if_neg c2,if_neg c2];rfl
    ·
     rw[if_neg c1,if_neg c1];by_cases c3:bc s (i+j)=92;·
      rw[if_pos c3,if_pos c3];by_cases h2:i+j+1<s.size;·
       have h2':j+1<(s.extract i s.size).size:=by omega
       have hb2:=ej s i s.size (j+1) (ai _) (by omega);have hg2:(s.extract i s.size)[j+1]=s[i+j+1]:=ByteArray.getElem_extract h2';rw[dif_pos h2,dif_pos h2',hb2,show i+(j+1)=i+j+1 by omega];by_cases c4:bc s (i+j+1)=34∨bc s (i+j+1)=92;·
        rw[if_pos c4,if_pos c4,hg2];cases k with
        |zero=>omega
        |succ k=>rw[jU ok s i hi k (j+2) _ (by omega)];rfl
       ·rw[if_neg c4,if_neg c4];rfl
      ·
       have h2':¬j+1<(s.extract i s.size).size:=by omega
       rw[dif_neg h2,dif_neg h2'];rfl
     ·rw[if_neg c3,if_neg c3,hg];cases k with
       |zero=>omega
       |succ k=>rw[jU ok s i hi k (j+1) _ (by omega)];rfl
   ·rw[dif_neg h,dif_neg (by omega)];rfl
theorem Ab(s:BA)(i:Nat)(hi:i≤s.size)(x:BA):Lib.hasPrefix (s.extract i s.size).data.toList x.data.toList=iN s i x:=by
 rw[←Lib.hasPrefix_raw,ed s i s.size (ai _),bJ];unfold iN;by_cases h:i+x.size≤s.size;·
  have e:(s.extract i s.size).extract 0 x.size=s.extract i (i+x.size):=by apply ByteArray.ext;rw[ByteArray.data_extract,ByteArray.data_extract,ByteArray.data_extract,Array.extract_extract];congr 1;have:s.data.size=s.size:=rfl;omega
  rw[e,aB h,aB (show x.size≤s.size-i by omega)]
 ·rw[aA h,aA (show¬x.size≤s.size-i by omega)];rfl
structure Tok where
 place:Nat
 word:BA
 isN:Bool
 num:Nat
 isX:Bool
 text:BA
 bad:Bool
def fX(x:Wd):Tok:=⟨x.place,wS x,vC x,wN x,xX x,wT x,false⟩
def fy(x:Tok):Array Value:=#[.int .i64 (x.place:Nat),.string x.word,.bool x.isN,.int .i64 (x.num:Nat),.bool x.isX,.string x.text,.bool x.bad]
def jA(s:BA)(i:Nat)(x:Tok)(n:Nat):Prop:=x.place=i∧(x.bad=false→∃wd,bN cU lang.kept s i=some (wd,i+n)∧x=fX wd)∧(x.bad=true→bN cU lang.kept s i=none)
theorem xY{s:BA}{i e:Nat}(hi:i<s.size)(hc:97≤s[i].toNat∧s[i].toNat≤122)(he:bC s 97 122 i=e):jA s i ⟨i,s.extract i e,false,0,false,ByteArray.empty,decide (12<e-i)&&!lang.kept (s.extract i e)⟩ (e-i):=by
 have hge:i≤e:=by rw[←he];exact dD _ _ _ _
 have hw:bN cU lang.kept s i=if 12<e-i∧lang.kept (s.extract i e)=false then none else some (⟨.letters,s.extract i e,i⟩,e):=by unfold bN;simp only;rw[bm hi,if_pos hc,he]
 refine⟨rfl,fun h=>?_,fun h=>?_⟩;·
  have h:(decide (12<e-i)&&!lang.kept (s.extract i e))=false:=h;rw[if_neg (fun hh=>by rw[aB hh.1,hh.2]at h;cases h)]at hw;exact⟨_,by rw[hw,show i+(e-i)=e by omega],by unfold fX;rw[h];rfl⟩
 ·have h:(decide (12<e-i)&&!lang.kept (s.extract i e))=true:=h;rw[Bool.and_eq_true,decide_eq_true_eq,Bool.not_eq_true']at h;rw[hw,if_pos h]
theorem Ac{s:BA}{i e v:Nat}(hi:i<s.size)(hc:48≤s[i].toNat∧s[i].toNat≤57)(he:bC s 48 57 i=e)(b:Bool)(hb:b=decide (1000000<bh s i e 0∨(1<e-i∧s[i].toNat=48)))(hv:b=false→v=bh s i e 0):jA s i ⟨i,ByteArray.empty,true,v,false,ByteArray.empty,b⟩ (e-i):=by
 have hge:i≤e:=by rw[←he];exact dD _ _ _ _
 have hle:e≤s.size:=by rw[←he];exact d_ _ _ _ _ (by omega)
 have hw:bN cU lang.kept s i=if 1000000<bh s i e 0∨1<e-i∧s[i].toNat=48 then none else some (⟨.number,s.extract i e,i⟩,e):=by unfold bN;simp only;rw[bm hi,if_neg (by omega),if_pos hc,he]
 refine⟨rfl,fun h=>?_,fun h=>?_⟩;·
  have h:b=false:=h;have hv:=hv h;rw[hb,decide_eq_false_iff_not]at h;rw[if_neg h]at hw;refine⟨_,by rw[hw,show i+(e-i)=e by omega],?_⟩;unfold fX;have e1:wN ⟨.number,s.extract i e,i⟩=v:=by show bh (s.extract i e) 0 (s.extract i e).size 0=v;rw[ed s i e hle,gT s i e hle _ 0 0 rfl,hv];rfl
  rw[e1,hb,aA h];rfl
 ·have h:b=true:=h;rw[hb,decide_eq_true_eq]at h;rw[hw,if_pos h]
theorem uo{s:BA}{i n:Nat}{x:Tok}(hx:x.place=i)(hb:x.bad=true)(h:bN cU lang.kept s i=none):jA s i x n:=⟨hx,fun h2=>(by rw[hb]at h2;cases h2),fun _=>h⟩
theorem rX{s:BA}{i n:Nat}{x:Tok}(hx:x.place=i)(hb:x.bad=false)(wd:Wd)(h:bN cU lang.kept s i=some (wd,i+n))(e:x=fX wd):jA s i x n:=⟨hx,fun _=>⟨wd,h,e⟩,fun h2=>by rw[hb]at h2;cases h2⟩
theorem LC{P:Prop}(h:P:=by unfold bN;simp only;rw[bm hi,if_neg (by omega),if_neg (by omega),if_pos hc,h]):P:=h
theorem Ad{s:BA}{i:Nat}(hi:i<s.size)(hc:s[i].toNat=34):(∀t e,Fm.quoted cU s (i+1) ByteArray.empty=some (t,e)→i<e∧jA s i ⟨i,ByteArray.empty,false,0,true,t,false⟩ (e-i))∧(Fm.quoted cU s (i+1) ByteArray.empty=none→jA s i ⟨i,ByteArray.empty,false,0,true,ByteArray.empty,true⟩ 0):=by
 refine⟨fun t e h=>?_,fun h=>?_⟩;·
  have hg:=jl cU s (i+1) _ h;have hw:bN cU lang.kept s i=some (⟨.string,t,i⟩,e):=by exact LC
  exact⟨by omega,rX rfl rfl _ (by rw[hw,show i+(e-i)=e by omega]) rfl⟩
 ·
  have hw:bN cU lang.kept s i=none:=by exact LC
  exact uo rfl rfl hw
theorem FV{s:BA}{i:Nat}(hi:i<s.size)(h1:¬(97≤s[i].toNat∧s[i].toNat≤122))(h2:¬(48≤s[i].toNat∧s[i].toNat≤57))(h3:¬s[i].toNat=34):(∀x,dp.find? (iN s i)=some x→0<x.size∧jA s i ⟨i,x,false,0,false,ByteArray.empty,false⟩ x.size)∧(dp.find? (iN s i)=none→jA s i ⟨i,ByteArray.empty,false,0,false,ByteArray.empty,true⟩ 0):=by
 have hw:bN cU lang.kept s i=if eW s i=0 then none else some (⟨.sign,s.extract i (i+eW s i),i⟩,i+eW s i):=by unfold bN;simp only;rw[bm hi,if_neg h1,if_neg h2,if_neg h3]
 rcases oj s i hi with⟨x,e1,e2,e3,e4⟩|⟨e1,e2⟩;·rw[e1];refine⟨fun y hy=>?_,fun h=>by cases h⟩;injection hy with hy;subst hy;rw[if_neg (by omega),e3,e2]at hw;exact⟨e4,rX rfl rfl _ hw rfl⟩
 ·rw[e1];refine⟨fun y hy=>(by cases hy),fun _=>?_⟩;rw[if_pos e2]at hw;exact uo rfl rfl hw
def lO(r:Except Nat Nat):Ending:=match r with
 |.ok a=> .returned (.tuple #[.int .u8 (a:Nat),.int .u8 0])
 |.error e=> .returned (.tuple #[.int .u8 0,.int .u8 (e:Nat)])
def lq(K:Nat):Prop:=∀(t:Tm)(ns:List BA)(w:World)(A:Nat→Prop)(lo:Nat)(cs:List Value)(Gn:Option Addr)(cn:Nat),mh t≤K→nH t→ns.length+iO t≤1000→aY w A lo t cs→lp w Gn ns→(Gn=none→cn=0)→Tabs w→Calls prog 41 #[.agg cs.toArray,.slice Gn ns.length cn] w fun E w'=>E=lO (fQ t ns)∧w.Since w.heap.size w'
def Tryz.lays197_ren:Go.Shelf.Ren:=⟨fun|197=>247|260=>296|n=>n,fun|9=>9|21=>21|3=>3|4=>4|5=>5|105=>327|119=>258|0=>0|46=>262|139=>261|138=>260|n=>n,fun|3=>0|4=>1|n=>n⟩
theorem Tryz.lays197 : Go.Proofs.Lays.n197 prog Tryz.lays197_ren := {
  mixed := by kernel_rfl
  f197 := func247.trans (congrArg some (by kernel_rfl))
  f260 := func296.trans (congrArg some (by kernel_rfl))
  t0 := underlying0
  a0 := isAgg0
  z0 := sizeOf0
  v0 := zeroValue0
  t3 := underlying3
  a3 := isAgg3
  z3 := sizeOf3
  v3 := zeroValue3
  t4 := underlying4
  a4 := isAgg4
  z4 := sizeOf4
  v4 := zeroValue4
  t5 := underlying5
  a5 := isAgg5
  z5 := sizeOf5
  v5 := zeroValue5
  t9 := underlying9
  a9 := isAgg9
  z9 := sizeOf9
  v9 := zeroValue9
  t21 := underlying21
  a21 := isAgg21
  z21 := sizeOf21
  v21 := zeroValue21
  t46 := underlying262
  a46 := isAgg262
  z46 := sizeOf262
  v46 := zeroValue262
  t105 := underlying327
  a105 := isAgg327
  z105 := sizeOf327
  v105 := zeroValue327
  t119 := underlying258
  a119 := isAgg258
  z119 := sizeOf258
  t138 := underlying260
  a138 := isAgg260
  z138 := sizeOf260
  v138 := zeroValue260
  t139 := underlying261
  a139 := isAgg261
  z139 := sizeOf261
  v139 := zeroValue261
  g3 := by kernel_rfl
  g4 := by kernel_rfl }
open Go.RowKit Go.Proofs.Uni Go.Proofs.StrIt Go.Lib
def qi(p:Nat×Nat):Bool:=decide (p.1=65533∧p.2<2)||decide (p.1<32)||decide (p.1=127)
def pV:Nat→List UInt8→Bool
 |0,_=>true
 |f+1,l=>if l=[]then true else if qi (decodeL l)then false else pV f (l.drop (decodeL l).2)
theorem mU:∀(f g:Nat)(l:List UInt8),l.length≤f→l.length≤g→pV f l=pV g l
 |0,0,l,_,_=>rfl
 |0,g+1,l,h,_=>by have:l=[]:=List.eq_nil_of_length_eq_zero (by omega);subst this;rfl
 |f+1,0,l,_,h=>by have:l=[]:=List.eq_nil_of_length_eq_zero (by omega);subst this;rfl
 |f+1,g+1,l,h1,h2=>by
  by_cases hl:l=[];·subst hl;rfl
  ·have hw:=decodeL_width l;have hlp:1≤l.length:=List.length_pos_iff.2 hl;simp only[pV,if_neg hl];rw[mU f g (l.drop (decodeL l).2) (by simp only[List.length_drop];omega) (by simp only[List.length_drop];omega)]
theorem xZ:∀(f:Nat)(l:List UInt8),pV f l=(validGoD f l&&!(eQ f l).any jT)
 |0,l=>rfl
 |f+1,l=>by
  by_cases hl:l=[];·subst hl;rfl
  ·
   have hw:=decodeL_width l;simp only[pV,validGoD,eQ,if_neg hl,List.any_cons];rw[xZ f];by_cases h1:(decodeL l).1=65533∧(decodeL l).2=1;·
    rw[if_pos h1,if_pos (by unfold qi;rw[aB ⟨h1.1,by omega⟩];rfl)];rfl
   ·
    rw[if_neg h1];have h2:qi (decodeL l)=jT (decodeL l).1:=by unfold qi jT;rw[aA (fun h=>h1 ⟨h.1,by omega⟩),Bool.false_or];rfl
    rw[h2];cases jT (decodeL l).1<;>simp
def pW(l:List UInt8):Bool:=pV l.length l
theorem Ae{l:List UInt8}(h:l≠[]):pW l=if qi (decodeL l)then false else pW (l.drop (decodeL l).2):=by
 unfold pW;have hw:=decodeL_width l;have hlp:1≤l.length:=List.length_pos_iff.2 h;rw[mU l.length (l.length-1+1) l (ai _) (by omega)];simp only[pV,if_neg h];rw[mU (l.length-1) (l.drop (decodeL l).2).length (l.drop (decodeL l).2) (by simp only[List.length_drop];omega) (ai _)]
theorem FX(s:BA):cU s=pW s.data.toList:=by
 unfold pW;rw[xZ];unfold cU;have hv:=um s.data.toList;unfold validD at hv;unfold bB at hv⊢;cases h:validGoD s.data.toList.length s.data.toList with
 |true=>rw[aB (hv.1 h)]
 |false=>
  rw[aA (fun e=>by have:=hv.2 e;rw[h]at this;cases this)]
theorem Dy(s:BA)(i:Nat)(h:i<s.size):Lib.decodeGo (s.extract i s.size)=decodeL (s.data.toList.drop i):=by
 have hz:(s.extract i s.size).size≠0:=by rw[ByteArray.size_extract];omega
 unfold Lib.decodeGo decodeL;rw[if_neg hz];congr 1;apply ByteArray.ext;rw[ByteArray.data_extract];apply Array.toList_inj.1;rw[Array.toList_extract,List.extract_eq_take_drop,List.take_of_length_le];rw[List.length_drop,Array.length_toList];exact ai _
theorem Af{w wr:World}(hT:Tabs w)(h:w.Since w.heap.size wr):Lib.Utf8Tabs (Tryz.lays197_ren.g 3) (Tryz.lays197_ren.g 4) wr:=Utf8Tabs_below (show Lib.Utf8Tabs (Tryz.lays197_ren.g 3) (Tryz.lays197_ren.g 4) w from hT) ⟨h.os,h.tape,h.output,h.size,h.block⟩
theorem FY{P:Prop}(h:P:=by
 go_wp2_with fail;refine K1.o.mono ?_;rintro r0 w2⟨rfl,hb⟩;have W2:=aa (aZ hW.o ⟨hb.os,hb.tape,hb.output,hb.size,hb.block⟩);clear hb;go_wp2_with fail;go_ret;exact⟨by rw[hE3.o];rfl,W2.o⟩):P:=h
theorem LD{P:Prop}(h:P:=by
 go_wp2_with fail;refine K1.o.mono ?_;rintro r0 w2⟨rfl,hb⟩;have W2:=aa (aZ hW.o ⟨hb.os,hb.tape,hb.output,hb.size,hb.block⟩);clear hb;go_wp2_with fail;go_roundg(s.size-(i+k));case measure=>omega
 case rel=>exact⟨i+k,rfl,by omega,by simp,hE3,W2⟩):P:=h
theorem Ag(s:BA)(w:World)(hs:s.size≤100000000)(hT:Tabs w):Calls prog 197 #[.string s] w fun e w'=>e=.returned (.bool (cU s))∧w.Since w.heap.size w':=by
 have HT:=aa hT;have KD:=aa (fun(t:BA)W(h:Lib.Utf8Tabs (Tryz.lays197_ren.g 3) (Tryz.lays197_ren.g 4) W)=>(Any.utf8_DecodeRuneInString Tryz.lays197 t W h:Calls prog 247 #[.string t] W _));have HR:Hid (cU s=pW (s.data.toList.drop 0)):=aa (FX s);have hlen:s.data.toList.length=s.size:=Array.length_toList;generalize cU s=R at HR⊢;clear hT;go_enter func197,ntmps197;go_wp2_with fail;go_loopg[3]s.size(fun gg o3 wr=>∃(i:Nat),gg=s.size-i∧i≤s.size∧o3=.int .i64 (i:Nat)∧Hid (R=pW (s.data.toList.drop i))∧Hid (w.Since w.heap.size wr));case atStart=>exact⟨0,rfl,aI _,rfl,HR,aa (ah _ _)⟩
 case round=>
  obtain⟨i,rfl,hi,rfl,hE,hW⟩:=hrel;by_cases h1:i<s.size;·
   have i1:(i:Int)<(s.size:Int):=by omega
   have i2:(i:Int)≤(s.size:Int):=by omega
   have hne:s.data.toList.drop i≠[]:=fun e=>by have:=congrArg List.length e;rw[List.length_drop]at this;simp at this;omega
   have hst:=Ae hne;have hdw:=decodeL_width (s.data.toList.drop i);have hdl:(decodeL (s.data.toList.drop i)).2≤s.size-i:=by
    have hl2:(s.data.toList.drop i).length=s.size-i:=by rw[List.length_drop,hlen]
    by_cases hv:(decodeL (s.data.toList.drop i)).1=65533∧(decodeL (s.data.toList.drop i)).2=1;·omega
    ·rw[←hl2];exact(vD _ hne hv).2.1
   have K1:=aa (KD.o (s.extract i s.size) wr (Af HT.o hW.o));rw[Dy s i h1]at K1;rw[List.drop_drop]at hst;generalize decodeL (s.data.toList.drop i)=p at hst hdw hdl K1;obtain⟨r,k⟩:=p;have hE2:=aa (hE.o.trans hst);have hdl:k≤s.size-i:=hdl;have hdw:1≤k:=by have:=hdw;omega
   have z5:IntKind.i64.wrap ((i:Int)+(k:Int))=(i:Int)+(k:Int):=ax _ (by omega);clear hst hne;have bad:∀(E:Hid (qi (r,k)=true)),Hid (R=false):=fun E=>aa (by rw[hE2.o,E.o];rfl);have good:∀(E:Hid (qi (r,k)=false)),Hid (R=pW (s.data.toList.drop (i+k))):=fun E=>aa (by rw[hE2.o,E.o];rfl);by_cases q1:r=65533;·
    have f1:((r:Int)==65533)=true:=ag (by omega);by_cases q2:k<2;·
     have f2:(k:Int)<2:=by omega
     have hE3:=bad (aa (by unfold qi;rw[aB ⟨q1,q2⟩];rfl));clear q1 q2 bad good;exact FY
    ·
     have f2:¬(k:Int)<2:=by omega
     have f3:¬(r:Int)<32:=by omega
     have f4:((r:Int)==127)=false:=ae (by omega);have hE3:=good (aa (by
      unfold qi;rw[aA (fun h=>q2 h.2),aA (by dsimp only;omega),aA (by dsimp only;omega)];rfl));clear q1 q2 bad good;exact LD
   ·
    have f1:((r:Int)==65533)=false:=ae (by omega);by_cases q3:r<32;·
     have f3:(r:Int)<32:=by omega
     have hE3:=bad (aa (by unfold qi;rw[aB q3];simp));clear q1 q3 bad good;exact FY
    ·
     have f3:¬(r:Int)<32:=by omega
     by_cases q4:r=127;·
      have f4:((r:Int)==127)=true:=ag (by omega);have hE3:=bad (aa (by unfold qi;rw[aB q4];simp));clear q1 q3 q4 bad good;exact FY
     ·have f4:((r:Int)==127)=false:=ae (by omega);have hE3:=good (aa (by unfold qi;rw[aA (fun h=>q1 h.1),aA q3,aA q4];rfl));clear q1 q3 q4 bad good;exact LD
  ·
   have i1:¬(i:Int)<(s.size:Int):=by omega
   have hE3:Hid (R=true):=aa (by rw[hE.o,List.drop_of_length_le (by omega)];rfl);go_wp2_with fail;go_ret;exact⟨by rw[hE3.o];rfl,hW.o⟩
