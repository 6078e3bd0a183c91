/- The library's numerals and beginnings, laid at this program. -/
import Derived.Test.YthbdlnflmfchjaaGreatDoorZ7
import Derived.Test.YthbdlnflmfchjaaGreatDoorRL
import Derived.Shelf.Strings.Prefix
import Derived.Shelf.Strconv.ParseIntPublic10
import Derived.Test.YthbdlnflmfchjaaGreatDoorV5
import Derived.Shelf.Unicode.ValidAny
import Derived.Test.YthbdlnflmfchjaaGreatDoorBX
import Derived.Shelf.Unicode.DecodeAny
set_option linter.unusedVariables false
set_option linter.unusedSimpArgs false
namespace Go.Proofs.YthbdlnflmfchjaaGreatDoor
open Go Go.Shelf
def Tryz.lays99_ren:Go.Shelf.Ren:=⟨fun | 99=>89 | 206=>166 | n=>n,fun | 9=>9 | 4=>4 | 3=>3 | n=>n,fun | n=>n⟩
theorem Tryz.lays99:Go.Proofs.Lays.n99 Tryz.prog Tryz.lays99_ren:={
 mixed:=by kernel_rfl
 f99:=Tryz.func89.trans (congrArg some (by kernel_rfl))
 f206:=Tryz.func166.trans (congrArg some (by kernel_rfl))
 t3:=Tryz.underlying3
 a3:=Tryz.isAgg3
 z3:=Tryz.sizeOf3
 v3:=Tryz.zeroValue3
 t4:=Tryz.underlying4
 a4:=Tryz.isAgg4
 z4:=Tryz.sizeOf4
 v4:=Tryz.zeroValue4
 t9:=Tryz.underlying9
 a9:=Tryz.isAgg9
 z9:=Tryz.sizeOf9
 v9:=Tryz.zeroValue9 }
def Tryz.laysC174_ren:Go.Shelf.Ren:=⟨fun | 174=>87 | 247=>163 | 245=>164 | 287=>229 | 279=>230 | 280=>231 | 281=>232 | 282=>233 | 321=>268 | 322=>269 | 316=>270 | 171=>272 | 205=>271 | 243=>320 | 246=>241 | 283=>288 | 284=>289 | 285=>290 | 286=>291 | 129=>317 | 317=>322 | 318=>323 | 319=>324 | 320=>325 | 337=>346 | 338=>347 | n=>n,fun | 9=>9 | 3=>3 | 2=>2 | 75=>166 | 85=>167 | 4=>4 | 167=>290 | 5=>5 | 53=>291 | 175=>292 | 46=>262 | 168=>294 | 37=>190 | 0=>0 | 210=>349 | 21=>21 | 127=>255 | 145=>381 | 143=>379 | 171=>357 | 173=>360 | 212=>383 | 51=>310 | 20=>20 | 213=>384 | 232=>426 | 233=>427 | 80=>198 | n=>n,fun | 15=>2 | 16=>3 | 17=>5 | 18=>6 | 19=>7 | n=>n⟩
theorem Tryz.laysC174:Go.Proofs.LaysC.n174 Tryz.prog Tryz.laysC174_ren:={
 mixed:=by kernel_rfl
 f129:=Tryz.func317.trans (congrArg some (by kernel_rfl))
 f171:=Tryz.func272.trans (congrArg some (by kernel_rfl))
 f174:=Tryz.func87.trans (congrArg some (by kernel_rfl))
 f205:=Tryz.func271.trans (congrArg some (by kernel_rfl))
 f243:=Tryz.func320.trans (congrArg some (by kernel_rfl))
 f245:=Tryz.func164.trans (congrArg some (by kernel_rfl))
 f246:=Tryz.func241.trans (congrArg some (by kernel_rfl))
 f247:=Tryz.func163.trans (congrArg some (by kernel_rfl))
 f279:=Tryz.func230.trans (congrArg some (by kernel_rfl))
 f280:=Tryz.func231.trans (congrArg some (by kernel_rfl))
 f281:=Tryz.func232.trans (congrArg some (by kernel_rfl))
 f282:=Tryz.func233.trans (congrArg some (by kernel_rfl))
 f283:=Tryz.func288.trans (congrArg some (by kernel_rfl))
 f284:=Tryz.func289.trans (congrArg some (by kernel_rfl))
 f285:=Tryz.func290.trans (congrArg some (by kernel_rfl))
 f286:=Tryz.func291.trans (congrArg some (by kernel_rfl))
 f287:=Tryz.func229.trans (congrArg some (by kernel_rfl))
 f316:=Tryz.func270.trans (congrArg some (by kernel_rfl))
 f317:=Tryz.func322.trans (congrArg some (by kernel_rfl))
 f318:=Tryz.func323.trans (congrArg some (by kernel_rfl))
 f319:=Tryz.func324.trans (congrArg some (by kernel_rfl))
 f320:=Tryz.func325.trans (congrArg some (by kernel_rfl))
 f321:=Tryz.func268.trans (congrArg some (by kernel_rfl))
 f322:=Tryz.func269.trans (congrArg some (by kernel_rfl))
 f337:=Tryz.func346.trans (congrArg some (by kernel_rfl))
 f338:=Tryz.func347.trans (congrArg some (by kernel_rfl))
 t0:=Tryz.underlying0
 a0:=Tryz.isAgg0
 z0:=Tryz.sizeOf0
 v0:=Tryz.zeroValue0
 t2:=Tryz.underlying2
 a2:=Tryz.isAgg2
 z2:=Tryz.sizeOf2
 v2:=Tryz.zeroValue2
 t3:=Tryz.underlying3
 a3:=Tryz.isAgg3
 z3:=Tryz.sizeOf3
 v3:=Tryz.zeroValue3
 t4:=Tryz.underlying4
 a4:=Tryz.isAgg4
 z4:=Tryz.sizeOf4
 v4:=Tryz.zeroValue4
 t5:=Tryz.underlying5
 a5:=Tryz.isAgg5
 z5:=Tryz.sizeOf5
 v5:=Tryz.zeroValue5
 t9:=Tryz.underlying9
 a9:=Tryz.isAgg9
 z9:=Tryz.sizeOf9
 v9:=Tryz.zeroValue9
 t20:=Tryz.underlying20
 a20:=Tryz.isAgg20
 z20:=Tryz.sizeOf20
 v20:=Tryz.zeroValue20
 t21:=Tryz.underlying21
 a21:=Tryz.isAgg21
 z21:=Tryz.sizeOf21
 v21:=Tryz.zeroValue21
 t37:=Tryz.underlying190
 a37:=Tryz.isAgg190
 z37:=Tryz.sizeOf190
 v37:=Tryz.zeroValue190
 t46:=Tryz.underlying262
 a46:=Tryz.isAgg262
 z46:=Tryz.sizeOf262
 v46:=Tryz.zeroValue262
 t51:=Tryz.underlying310
 a51:=Tryz.isAgg310
 z51:=Tryz.sizeOf310
 v51:=Tryz.zeroValue310
 t53:=Tryz.underlying291
 a53:=Tryz.isAgg291
 z53:=Tryz.sizeOf291
 v53:=Tryz.zeroValue291
 t75:=Tryz.underlying166
 a75:=Tryz.isAgg166
 z75:=Tryz.sizeOf166
 v75:=Tryz.zeroValue166
 t85:=Tryz.underlying167
 a85:=Tryz.isAgg167
 z85:=Tryz.sizeOf167
 v85:=Tryz.zeroValue167
 t127:=Tryz.underlying255
 a127:=Tryz.isAgg255
 z127:=Tryz.sizeOf255
 v127:=Tryz.zeroValue255
 t143:=Tryz.underlying379
 a143:=Tryz.isAgg379
 z143:=Tryz.sizeOf379
 v143:=Tryz.zeroValue379
 t145:=Tryz.underlying381
 a145:=Tryz.isAgg381
 z145:=Tryz.sizeOf381
 v145:=Tryz.zeroValue381
 t167:=Tryz.underlying290
 a167:=Tryz.isAgg290
 z167:=Tryz.sizeOf290
 v167:=Tryz.zeroValue290
 t168:=Tryz.underlying294
 a168:=Tryz.isAgg294
 z168:=Tryz.sizeOf294
 v168:=Tryz.zeroValue294
 t171:=Tryz.underlying357
 a171:=Tryz.isAgg357
 z171:=Tryz.sizeOf357
 v171:=Tryz.zeroValue357
 t173:=Tryz.underlying360
 a173:=Tryz.isAgg360
 z173:=Tryz.sizeOf360
 v173:=Tryz.zeroValue360
 t175:=Tryz.underlying292
 a175:=Tryz.isAgg292
 z175:=Tryz.sizeOf292
 v175:=Tryz.zeroValue292
 t210:=Tryz.underlying349
 a210:=Tryz.isAgg349
 z210:=Tryz.sizeOf349
 v210:=Tryz.zeroValue349
 t212:=Tryz.underlying383
 a212:=Tryz.isAgg383
 z212:=Tryz.sizeOf383
 v212:=Tryz.zeroValue383
 t213:=Tryz.underlying384
 a213:=Tryz.isAgg384
 z213:=Tryz.sizeOf384
 t232:=Tryz.underlying426
 a232:=Tryz.isAgg426
 z232:=Tryz.sizeOf426
 v232:=Tryz.zeroValue426
 t233:=Tryz.underlying427
 a233:=Tryz.isAgg427
 z233:=Tryz.sizeOf427
 v233:=Tryz.zeroValue427
 g15:=by kernel_rfl
 g16:=by kernel_rfl
 g17:=by kernel_rfl
 g18:=by kernel_rfl
 g19:=by kernel_rfl
 t80:=Tryz.underlying198
 a80:=Tryz.isAgg198
 z80:=Tryz.sizeOf198
 v80:=Tryz.zeroValue198
 i0:=by kernel_rfl
 i2:=by kernel_rfl
 i3:=by kernel_rfl
 i4:=by kernel_rfl
 i5:=by kernel_rfl
 i9:=by kernel_rfl
 i20:=by kernel_rfl
 i21:=by kernel_rfl
 i37:=by kernel_rfl
 i46:=by kernel_rfl
 i51:=by kernel_rfl
 i53:=by kernel_rfl
 i75:=by kernel_rfl
 i80:=by kernel_rfl
 i85:=by kernel_rfl
 i127:=by kernel_rfl
 i143:=by kernel_rfl
 i145:=by kernel_rfl
 i167:=by kernel_rfl
 i168:=by kernel_rfl
 i171:=by kernel_rfl
 i173:=by kernel_rfl
 i175:=by kernel_rfl
 i210:=by kernel_rfl
 i212:=by kernel_rfl
 i232:=by kernel_rfl
 i233:=by kernel_rfl
 m15:=by kernel_rfl
 m16:=by kernel_rfl
 m17:=by kernel_rfl
 m18:=by kernel_rfl
 m19:=by kernel_rfl
 c0:=by kernel_rfl
 c2:=by kernel_rfl
 c3:=by kernel_rfl
 c4:=by kernel_rfl
 c5:=by kernel_rfl
 c9:=by kernel_rfl
 c20:=by kernel_rfl
 c21:=by kernel_rfl
 c37:=by kernel_rfl
 c46:=by kernel_rfl
 c51:=by kernel_rfl
 c53:=by kernel_rfl
 c75:=by kernel_rfl
 c80:=by kernel_rfl
 c85:=by kernel_rfl
 c127:=by kernel_rfl
 c143:=by kernel_rfl
 c145:=by kernel_rfl
 c167:=by kernel_rfl
 c168:=by kernel_rfl
 c171:=by kernel_rfl
 c173:=by kernel_rfl
 c175:=by kernel_rfl
 c210:=by kernel_rfl
 c212:=by kernel_rfl
 c213:=by kernel_rfl
 c232:=by kernel_rfl
 c233:=by kernel_rfl }
open Go.RowKit Go.Proofs.Fm
def ErrV (w:World):Prop:=∃ ev,w.cell? ⟨Tryz.laysC174_ren.g 16,0,none⟩=some ev∧(ev=.nilIface ∨ ∃ te pe,ev=.iface te pe)
theorem ErrV.up {w w':World} (h:ErrV w) (hs:w.Since w.heap.size w'):ErrV w':=by
 obtain ⟨ev,h1,h2⟩:=h
 exact ⟨ev,(hs.cell (a:=⟨Tryz.laysC174_ren.g 16,0,none⟩) (Lib.lt_of_cell h1)).trans h1,h2⟩
theorem pu_digits (s:ByteArray) (hd:∀ i (h:i < s.size),48≤s[i].toNat∧s[i].toNat≤57):∀ (k i acc:Nat),s.size - i=k→i≤s.size→acc≤18446744073709551615 →
  Lib.parseUintM 18446744073709551615 acc (s.data.toList.drop i)=if digitsV s i s.size acc≤18446744073709551615 then .ok (digitsV s i s.size acc) else .range
 | 0,i,acc,hk,hi,ha=>by
  have e:i=s.size:=by omega
  have hl:s.data.toList.length=s.size:=Array.length_toList
  rw [List.drop_of_length_le (by omega),digitsV,dif_neg (by omega),if_pos ha]
  rfl
 | k+1,i,acc,hk,hi,ha=>by
  have hlt:i < s.size:=by omega
  have hl:i < s.data.toList.length:=by rw [Array.length_toList];exact hlt
  have hg:=hd i hlt
  rw [List.drop_eq_getElem_cons hl]
  have hc:s.data.toList[i]=s[i]:=by rw [Array.getElem_toList];rfl
  rw [hc]
  have hv:digitsV s i s.size acc=digitsV s (i+1) s.size (10 * acc+(s[i].toNat - 48)):=by rw [digitsV,dif_pos hlt,byteAt_lt hlt]
  have hge:=digitsV_ge s s.size (s.size - (i+1)) (i+1) (10 * acc+(s[i].toNat - 48)) (Nat.le_refl _)
  rw [Lib.parseUintM,if_pos hg]
  by_cases h1:1844674407370955162≤acc
  ·
   rw [if_pos h1,if_neg (by omega)]
  ·
   rw [if_neg h1]
   by_cases h2:18446744073709551615 < acc * 10+(s[i].toNat - 48)
   ·
    rw [if_pos h2,if_neg (by omega)]
   ·
    rw [if_neg h2,pu_digits s hd k (i+1) _ (by omega) (by omega) (by omega),hv,show acc * 10=10 * acc by omega]
theorem pi_digits (s:ByteArray) (h0:0 < s.size) (hd:∀ i (h:i < s.size),48≤s[i].toNat∧s[i].toNat≤57):
  Lib.parseIntB 64 s.data.toList=if digitsV s 0 s.size 0 < 9223372036854775808 then .ok (digitsV s 0 s.size 0:Nat) else .range:=by
 have hl:0 < s.data.toList.length:=by rw [Array.length_toList];exact h0
 have hp:=pu_digits s hd s.size 0 0 (by omega) (Nat.zero_le _) (Nat.zero_le _)
 rw [List.drop_zero] at hp
 generalize hV:digitsV s 0 s.size 0=V at hp ⊢
 have hg:=hd 0 h0
 have hc:s.data.toList[0]=s[0]:=by rw [Array.getElem_toList];rfl
 rw [← hc] at hg
 cases hL:s.data.toList with
 | nil=>rw [hL] at hl;exact absurd hl (by decide)
 | cons c r=>
  rw [hL] at hp
  have hc2:48≤c.toNat∧c.toNat≤57:=by
   have:s.data.toList[0]=c:=by simp [hL]
   rw [this] at hg;exact hg
  unfold Lib.parseIntB
  dsimp only
  rw [if_neg (by omega)]
  unfold Lib.parseUintB
  rw [if_neg (by simp),show (2 ^ 64 - 1:Nat)=18446744073709551615 by decide,hp]
  by_cases h1:V≤18446744073709551615
  ·
   rw [if_pos h1]
   dsimp only
   by_cases h2:V < 9223372036854775808
   ·
    rw [if_neg (by simp;omega),if_neg (by simp;omega),if_pos h2,if_neg (by omega)]
   ·
    rw [if_pos (by simp;omega),if_neg h2]
  ·
   rw [if_neg h1,if_neg (by omega)]
theorem num_says (s:ByteArray) (w:World) (h0:0 < s.size) (hs:s.size≤100000) (hd:∀ i (h:i < s.size),48≤s[i].toNat∧s[i].toNat≤57) (hE:ErrV w):
  Calls Tryz.prog 87 #[.string s,.int .i64 10,.int .i64 64] w fun E w'=>∃ (v:Nat) (ev:Value),E=.returned (.tuple #[.int .i64 (v:Nat),ev])∧w.Since w.heap.size w'∧((digitsV s 0 s.size 0 < 9223372036854775808∧ev=.nilIface∧v=digitsV s 0 s.size 0) ∨ (9223372036854775808≤digitsV s 0 s.size 0∧v=9223372036854775807∧∃ te pe,ev=.iface te pe)):=by
 have hp:=pi_digits s h0 hd
 by_cases h1:digitsV s 0 s.size 0 < 9223372036854775808
 ·
  rw [if_pos h1] at hp
  refine (Any.strconv_ParseInt_10_at64_ok Tryz.laysC174 s (by omega) _ hp w).mono ?_
  rintro e w' ⟨rfl,hw⟩
  refine ⟨_,_,rfl,?_,.inl ⟨h1,rfl,rfl⟩⟩
  rcases hw with rfl | ⟨t,rfl⟩
  ·
   exact World.Since.refl _ _
  ·
   have hb:=Lib.bytesWorld_below w (Tryz.laysC174_ren.t 5) t
   exact ⟨hb.os,hb.tape,hb.output,hb.size,hb.block⟩
 ·
  rw [if_neg h1] at hp
  obtain ⟨ev,hv,hev⟩:=hE
  refine (Any.strconv_ParseInt_10_at64_range Tryz.laysC174 s (by omega) hp ev w hv hev).mono ?_
  rintro e w' ⟨N,rfl,h2,h3,hb⟩
  have hsat:Lib.intSat 64 s.data.toList=((9223372036854775807:Nat):Int):=by
   unfold Lib.intSat
   rw [if_neg]
   ·
    have hl:0 < s.data.toList.length:=by rw [Array.length_toList];exact h0
    have hg:=hd 0 h0
    have hc:s.data.toList[0]=s[0]:=by rw [Array.getElem_toList];rfl
    rw [← hc] at hg
    intro hh
    cases hL:s.data.toList with
    | nil=>rw [hL] at hl;exact absurd hl (by decide)
    | cons c r=>
     have:s.data.toList[0]=c:=by simp [hL]
     rw [this] at hg
     rw [hL] at hh
     simp at hh
     omega
  rw [hsat]
  exact ⟨_,_,rfl,⟨hb.os,hb.tape,hb.output,hb.size,hb.block⟩,.inr ⟨by omega,rfl,_,_,rfl⟩⟩
theorem prefix_says (s p:ByteArray) (w:World):Calls Tryz.prog 89 #[.string s,.string p] w fun e w'=>e=.returned (.bool (Lib.hasPrefix s.data.toList p.data.toList))∧w'=w:=Any.strings_HasPrefix Tryz.lays99 s p w
end Go.Proofs.YthbdlnflmfchjaaGreatDoor
namespace Go.Proofs.YthbdlnflmfchjaaGreatDoor
open Go Go.Shelf
set_option maxHeartbeats 1600000
set_option maxRecDepth 1000000
def Tryz.lays196_ren:Go.Shelf.Ren:=⟨fun | 196=>109 | 259=>195 | n=>n,fun | 9=>9 | 4=>4 | 3=>3 | 5=>5 | 12=>12 | 119=>258 | 0=>0 | 46=>262 | 139=>261 | 138=>260 | 53=>291 | n=>n,fun | 3=>0 | 4=>1 | n=>n⟩
theorem Tryz.lays196:Go.Proofs.Lays.n196 Tryz.prog Tryz.lays196_ren:={
 mixed:=by kernel_rfl
 f196:=Tryz.func109.trans (congrArg some (by kernel_rfl))
 f259:=Tryz.func195.trans (congrArg some (by kernel_rfl))
 t0:=Tryz.underlying0
 a0:=Tryz.isAgg0
 z0:=Tryz.sizeOf0
 v0:=Tryz.zeroValue0
 t3:=Tryz.underlying3
 a3:=Tryz.isAgg3
 z3:=Tryz.sizeOf3
 v3:=Tryz.zeroValue3
 t4:=Tryz.underlying4
 a4:=Tryz.isAgg4
 z4:=Tryz.sizeOf4
 v4:=Tryz.zeroValue4
 t5:=Tryz.underlying5
 a5:=Tryz.isAgg5
 z5:=Tryz.sizeOf5
 v5:=Tryz.zeroValue5
 t9:=Tryz.underlying9
 a9:=Tryz.isAgg9
 z9:=Tryz.sizeOf9
 v9:=Tryz.zeroValue9
 t12:=Tryz.underlying12
 a12:=Tryz.isAgg12
 z12:=Tryz.sizeOf12
 v12:=Tryz.zeroValue12
 t46:=Tryz.underlying262
 a46:=Tryz.isAgg262
 z46:=Tryz.sizeOf262
 v46:=Tryz.zeroValue262
 t53:=Tryz.underlying291
 a53:=Tryz.isAgg291
 z53:=Tryz.sizeOf291
 v53:=Tryz.zeroValue291
 t119:=Tryz.underlying258
 a119:=Tryz.isAgg258
 z119:=Tryz.sizeOf258
 t138:=Tryz.underlying260
 a138:=Tryz.isAgg260
 z138:=Tryz.sizeOf260
 v138:=Tryz.zeroValue260
 t139:=Tryz.underlying261
 a139:=Tryz.isAgg261
 z139:=Tryz.sizeOf261
 v139:=Tryz.zeroValue261
 g3:=by kernel_rfl
 g4:=by kernel_rfl }
open Go.RowKit Go.Proofs.Uni Go.Proofs.StrIt
theorem since_of {w w':World} (h:Below w.heap.size w w'):w.Since w.heap.size w':=⟨h.os ▸ rfl,h.tape,h.output,h.size,h.block⟩
def Tabs (w:World):Prop:=Lib.Utf8Tabs (Tryz.lays196_ren.g 3) (Tryz.lays196_ren.g 4) w
theorem isText_says (s:ByteArray) (w:World) (hs:s.size≤100000000) (hT:Tabs w):Calls Tryz.prog 52 #[.string s] w fun e w'=>e=.returned (.bool (isT s))∧w.Since w.heap.size w':=by
 have K:Calls Tryz.prog 109 #[.string s] w _:=Any.utf8_ValidString Tryz.lays196 s w (by omega) hT
 have HK:=Lib.hid K
 have HC:=Lib.hid (fun wx=>containsFunc_says s wx (by omega))
 have HT:Hid (isT s=(decide (cat (runes s.data.toList)=s.data.toList) && !(runes s.data.toList).any ctl)):=Lib.hid rfl
 have hV:=valid_iff s.data.toList
 clear K hT
 cases hv:Lib.validD s.data.toList
 ·
  rw [hv] at hV HK
  have HT2:Hid (isT s=false):=Lib.hid (by rw [HT.out,decide_eq_false (fun h=>by have:=hV.2 h;cases this)];rfl)
  rw [HT2.out]
  clear HT HT2 hV hv HC
  go_enter Tryz.func52,Tryz.ntmps52
  go_wp2_with (go_at_call 109;refine HK.out.mono ?_;rintro e w' ⟨rfl,hb⟩)
  go_ret
  exact ⟨rfl,since_of hb⟩
 ·
  rw [hv] at hV HK
  have HT2:Hid (isT s=!(runes s.data.toList).any ctl):=Lib.hid (by rw [HT.out,decide_eq_true (hV.1 rfl)];rfl)
  rw [HT2.out]
  clear HT HT2 hV hv
  generalize (runes s.data.toList).any ctl=b at *
  go_enter Tryz.func52,Tryz.ntmps52
  go_wp2_with (first
   | (go_at_call 109;refine HK.out.mono ?_;rintro e w' ⟨rfl,hb⟩;have hb2:=Lib.hid (since_of hb);clear hb)
   | (go_at_call 110;refine (HC.out _).mono ?_;rintro e w2 ⟨rfl,hs2⟩;have hs3:=Lib.hid (wr_since hb2.out hs2);clear hs2))
  go_ret
  exact ⟨rfl,hs3.out⟩
end Go.Proofs.YthbdlnflmfchjaaGreatDoor
namespace Go.Proofs.YthbdlnflmfchjaaGreatDoor
open Go.RowKit Go.Proofs.Fm Go.Proofs.MapEnt
set_option maxHeartbeats 3200000
set_option maxRecDepth 1000000
theorem Tabs.up {w w':World} (h:Tabs w) (hb:w.Since w.heap.size w'):Tabs w':=Utf8Tabs_below h ⟨hb.os,hb.tape,hb.output,hb.size,hb.block⟩
theorem bis_up {T:TypeId} {B b:Nat} {l:List UInt8} {W W':World} (h:BIs T B b l W) (hb:W.Since W.heap.size W'):BIs T B b l W':=by
 have key:∀ p,Lib.BuilderAtF T 5 B b p (Lib.byteCells l) W→Lib.BuilderAtF T 5 B b p (Lib.byteCells l) W':=fun p h=>by
  have hlt:=h.lt
  obtain ⟨hB,v,hv,hown,hne⟩:=h
  exact ⟨hB,v,(hb.block b hlt).trans hv,hown.kept (row:=none) ⟨hb.os,hb.tape,hb.output,hb.size,fun k hk _=>hb.block k hk⟩ (Classical.em _),hne⟩
 exact h.elim (fun x=>.inl (key _ x)) (fun x=>.inr (key _ x))
theorem bis_new (w:World) (T:TypeId):BIs T w.heap.size w.heap.size [] (w.alloc (.cells #[.pointer none,.slice none 0 0] T)):=
 .inl ⟨Nat.le_refl _,.slice none 0 0,heap_alloc_new w _,World.ownsRowF_nil _ _ _ _,by simp [Value.ownBlock]⟩
theorem since_below {B:Nat} {w w1 w2:World} (h:w.Since B w1) (h2:Below B w1 w2):w.Since B w2:=h.trans ⟨h2.os,h2.tape,h2.output,h2.size,h2.block⟩
def pquotR (o:Option (ByteArray × Nat)):Value:=match o with
 | some (t,e)=>.tuple #[.int .i64 (e:Nat),.string t]
 | none=>.tuple #[.int .i64 0,.string ⟨#[]⟩]
theorem push_of (l:List UInt8) (c:UInt8):(⟨l.toArray⟩:ByteArray).push c=⟨(l ++ [c]).toArray⟩:=by
 apply ByteArray.ext
 rw [ByteArray.data_push]
 simp
theorem pquoted_says (s:ByteArray) (w:World) (hs:s.size≤100000) (hs1:1≤s.size) (hT:Tabs w):
  Calls Tryz.prog 88 #[.string s] w fun e w'=>e=.returned (pquotR (Fm.quoted isT s 1 ByteArray.empty))∧w.Since w.heap.size w':=by
 have HT:=Lib.hid hT
 have B0:=Lib.hid (bis_new w 194)
 have S0:Hid (w.Since w.heap.size (w.alloc (.cells #[.pointer none,.slice none 0 0] 194))):=Lib.hid ((World.Since.refl _ _).alloc (Nat.le_refl _) _)
 have HR:Hid (Fm.quoted isT s 1 ByteArray.empty=Fm.quoted isT s 1 ⟨([]:List UInt8).toArray⟩):=Lib.hid rfl
 generalize Fm.quoted isT s 1 ByteArray.empty=R at HR ⊢
 clear hT
 go_enter Tryz.func88,Tryz.ntmps88
 go_wp2_with fail
 go_loopg [5] (s.size - 1) (fun gg o5 wr=>∃ (i:Nat) (l:List UInt8),gg=s.size - i∧i≤s.size∧o5=.int .i64 (i:Nat)∧Hid (l.length≤i)∧Hid (R=Fm.quoted isT s i ⟨l.toArray⟩)∧Hid (BIs 194 w.heap.size w.heap.size l wr)∧Hid (w.Since w.heap.size wr))
 case atStart=>exact ⟨1,[],rfl,hs1,rfl,Lib.hid (Nat.zero_le _),HR,B0,S0⟩
 case round=>
  obtain ⟨i,l,rfl,hi,rfl,hA,hE,hB,hW⟩:=hrel
  by_cases h1:i < s.size
  ·
   have i1:(i:Int) < (s.size:Int):=by omega
   have z5:IntKind.i64.wrap ((i:Int)+1)=(i:Int)+1:=IntWalk.i64_in _ (by omega)
   have hbt:=byteAt_lt h1
   have hq:Fm.quoted isT s i ⟨l.toArray⟩=if s[i].toNat=34 then (if isT ⟨l.toArray⟩ then some (⟨l.toArray⟩,i+1) else none) else if s[i].toNat=92 then (if h2:i+1 < s.size then (if byteAt s (i+1)=34 ∨ byteAt s (i+1)=92 then Fm.quoted isT s (i+2) (ByteArray.push ⟨l.toArray⟩ s[i+1]) else none) else none) else Fm.quoted isT s (i+1) (ByteArray.push ⟨l.toArray⟩ s[i]):=by rw [Fm.quoted,dif_pos h1,hbt]
   have KB:=Lib.hid (fun W (c:UInt8) (h:BIs 194 w.heap.size w.heap.size l W) (hw:w.heap.size≤W.heap.size)=>bbyte bt194 w.heap.size w.heap.size l c W h (by have:=hA.out;omega) hw)
   have KS:=Lib.hid (fun W (h:BIs 194 w.heap.size w.heap.size l W) (hw:w.heap.size≤W.heap.size)=>bstring w.heap.size w.heap.size l W h hw)
   by_cases h2:s[i].toNat=34
   ·
    rw [if_pos h2] at hq
    have b1:(s[i].toNat:Int)=34:=by omega
    have hsz:Hid ((⟨l.toArray⟩:ByteArray).size≤100000000):=Lib.hid (by show l.toArray.size≤_;rw [List.size_toArray];have:=hA.out;omega)
    have K1:=Lib.hid (KS.out wr hB.out hW.out.size)
    cases ht:isT ⟨l.toArray⟩ with
    | true=>
     rw [ht] at hq
     have hR:Hid (R=some (⟨l.toArray⟩,i+1)):=Lib.hid (hE.out.trans hq)
     have K:=Lib.hid (fun W (h:w.Since w.heap.size W)=>isText_says ⟨l.toArray⟩ W hsz.out (HT.out.up h))
     rw [ht] at K
     clear hq h2 ht
     go_wp2_with fail
     refine K1.out.mono ?_
     rintro r0 w2 ⟨rfl,hb2,hk2⟩
     have W2:=Lib.hid (since_below hW.out hk2.below)
     have B2:=Lib.hid hb2
     clear hb2 hk2
     go_wp2_with fail
     refine (K.out _ W2.out).mono ?_
     rintro r0 w3 ⟨rfl,hs3⟩
     have W3:=Lib.hid (wr_since W2.out hs3)
     have B3:=Lib.hid (bis_up B2.out hs3)
     have K3:=Lib.hid (KS.out w3 B3.out W3.out.size)
     clear hs3
     go_wp2_with fail
     refine K3.out.mono ?_
     rintro r0 w4 ⟨rfl,hb4,hk4⟩
     have W4:=Lib.hid (since_below W3.out hk4.below)
     clear hb4 hk4
     go_wp2_with fail
     refine bodyPost_ret (v:=(.tuple #[.int .i64 ((i:Int)+1),.string ⟨l.toArray⟩])) (by simp [results,Tryz.results88,go_sem]) rfl ⟨?_,W4.out⟩
     rw [hR.out]
     rfl
    | false=>
     rw [ht] at hq
     have hR:Hid (R=none):=Lib.hid (hE.out.trans hq)
     have K:=Lib.hid (fun W (h:w.Since w.heap.size W)=>isText_says ⟨l.toArray⟩ W hsz.out (HT.out.up h))
     rw [ht] at K
     clear hq h2 ht
     go_wp2_with fail
     refine K1.out.mono ?_
     rintro r0 w2 ⟨rfl,hb2,hk2⟩
     have W2:=Lib.hid (since_below hW.out hk2.below)
     clear hb2 hk2
     go_wp2_with fail
     refine (K.out _ W2.out).mono ?_
     rintro r0 w3 ⟨rfl,hs3⟩
     have W3:=Lib.hid (wr_since W2.out hs3)
     clear hs3
     go_wp2_with fail
     refine bodyPost_ret (v:=(.tuple #[.int .i64 0,.string ⟨#[]⟩])) (by simp [results,Tryz.results88,go_sem]) rfl ⟨?_,W3.out⟩
     rw [hR.out]
     rfl
   ·
    rw [if_neg h2] at hq
    have b1:¬ (s[i].toNat:Int)=34:=by omega
    by_cases h3:s[i].toNat=92
    ·
     have b2:(s[i].toNat:Int)=92:=by omega
     rw [if_pos h3] at hq
     clear b1
     by_cases h4:i+1 < s.size
     ·
      have i2:(i:Int)+1 < (s.size:Int):=by omega
      have i3:¬ (i:Int)+1=(s.size:Int):=by omega
      have i4:(0:Int)≤(i:Int)+1:=by omega
      have i5:((i:Int)+1).toNat=i+1:=by omega
      have z6:IntKind.i64.wrap ((i:Int)+1+1)=(i:Int)+1+1:=IntWalk.i64_in _ (by omega)
      rw [dif_pos h4,byteAt_lt h4] at hq
      have c0:(((i:Int)+1) == (s.size:Int))=false:=beq_eq_false_iff_ne.2 i3
      have K1:=Lib.hid (KB.out wr s[i+1] hB.out hW.out.size)
      have hP:=push_of l s[i+1]
      rw [hP] at hq
      by_cases h5:s[i+1].toNat=34
      ·
       rw [if_pos (.inl h5)] at hq
       have hR:=Lib.hid (hE.out.trans hq)
       have c1:(((s[i+1].toNat:Nat):Int) != 34)=false:=bne_eq_false_iff_eq.2 (by omega)
       clear hq h2 h3 h5 hP
       go_wp2_with fail
       refine K1.out.mono ?_
       rintro r0 w2 ⟨rfl,hb2,hk2⟩
       have W2:=Lib.hid (since_below hW.out hk2.below)
       have B2:=Lib.hid hb2
       clear hb2 hk2
       go_wp2_with fail
       go_roundg (s.size - (i+1+1))
       case measure=>omega
       case rel=>exact ⟨i+1+1,l ++ [s[i+1]],rfl,by omega,by simp,Lib.hid (by have:=hA.out;rw [List.length_append];simp;omega),hR,B2,W2⟩
      ·
       by_cases h6:s[i+1].toNat=92
       ·
        rw [if_pos (.inr h6)] at hq
        have hR:=Lib.hid (hE.out.trans hq)
        have c1:(((s[i+1].toNat:Nat):Int) != 34)=true:=bne_iff_ne.2 (by omega)
        have c2:(((s[i+1].toNat:Nat):Int) != 92)=false:=bne_eq_false_iff_eq.2 (by omega)
        clear hq h2 h3 h5 h6 hP
        go_wp2_with fail
        refine K1.out.mono ?_
        rintro r0 w2 ⟨rfl,hb2,hk2⟩
        have W2:=Lib.hid (since_below hW.out hk2.below)
        have B2:=Lib.hid hb2
        clear hb2 hk2
        go_wp2_with fail
        go_roundg (s.size - (i+1+1))
        case measure=>omega
        case rel=>exact ⟨i+1+1,l ++ [s[i+1]],rfl,by omega,by simp,Lib.hid (by have:=hA.out;rw [List.length_append];simp;omega),hR,B2,W2⟩
       ·
        rw [if_neg (fun h=>h.elim h5 h6)] at hq
        have hR:Hid (R=none):=Lib.hid (hE.out.trans hq)
        have c1:(((s[i+1].toNat:Nat):Int) != 34)=true:=bne_iff_ne.2 (by omega)
        have c2:(((s[i+1].toNat:Nat):Int) != 92)=true:=bne_iff_ne.2 (by omega)
        clear hq h2 h3 h5 h6 hP
        go_wp2_with fail
        refine bodyPost_ret (v:=(.tuple #[.int .i64 0,.string ⟨#[]⟩])) (by simp [results,Tryz.results88,go_sem]) rfl ⟨?_,hW.out⟩
        rw [hR.out]
        rfl
     ·
      rw [dif_neg h4] at hq
      have hR:Hid (R=none):=Lib.hid (hE.out.trans hq)
      have i3:(i:Int)+1=(s.size:Int):=by omega
      have c0:(((i:Int)+1) == (s.size:Int))=true:=beq_iff_eq.2 i3
      clear hq h2 h3 i3
      go_wp2_with fail
      refine bodyPost_ret (v:=(.tuple #[.int .i64 0,.string ⟨#[]⟩])) (by simp [results,Tryz.results88,go_sem]) rfl ⟨?_,hW.out⟩
      rw [hR.out]
      rfl
    ·
     rw [if_neg h3] at hq
     have b2:¬ (s[i].toNat:Int)=92:=by omega
     have hP:=push_of l s[i]
     rw [hP] at hq
     have hR:=Lib.hid (hE.out.trans hq)
     have K1:=Lib.hid (KB.out wr s[i] hB.out hW.out.size)
     clear hq h2 h3 hP
     go_wp2_with fail
     refine K1.out.mono ?_
     rintro r0 w2 ⟨rfl,hb2,hk2⟩
     have W2:=Lib.hid (since_below hW.out hk2.below)
     have B2:=Lib.hid hb2
     clear hb2 hk2
     go_wp2_with fail
     go_roundg (s.size - (i+1))
     case measure=>omega
     case rel=>exact ⟨i+1,l ++ [s[i]],rfl,by omega,by simp,Lib.hid (by have:=hA.out;rw [List.length_append];simp;omega),hR,B2,W2⟩
  ·
   have i1:¬ (i:Int) < (s.size:Int):=by omega
   have hR:Hid (R=none):=Lib.hid (by rw [hE.out,Fm.quoted,dif_neg h1])
   go_wp2_with fail
   refine bodyPost_ret (v:=(.tuple #[.int .i64 0,.string ⟨#[]⟩])) (by simp [results,Tryz.results88,go_sem]) rfl ⟨?_,hW.out⟩
   rw [hR.out]
   rfl
end Go.Proofs.YthbdlnflmfchjaaGreatDoor
namespace Go.Proofs.YthbdlnflmfchjaaGreatDoor
open Go Go.Shelf
set_option maxHeartbeats 1600000
set_option maxRecDepth 1000000
def Tryz.lays197_ren:Go.Shelf.Ren:=⟨fun | 197=>247 | 260=>296 | n=>n,fun | 9=>9 | 21=>21 | 3=>3 | 4=>4 | 5=>5 | 105=>327 | 119=>258 | 0=>0 | 46=>262 | 139=>261 | 138=>260 | n=>n,fun | 3=>0 | 4=>1 | n=>n⟩
theorem Tryz.lays197:Go.Proofs.Lays.n197 Tryz.prog Tryz.lays197_ren:={
 mixed:=by kernel_rfl
 f197:=Tryz.func247.trans (congrArg some (by kernel_rfl))
 f260:=Tryz.func296.trans (congrArg some (by kernel_rfl))
 t0:=Tryz.underlying0
 a0:=Tryz.isAgg0
 z0:=Tryz.sizeOf0
 v0:=Tryz.zeroValue0
 t3:=Tryz.underlying3
 a3:=Tryz.isAgg3
 z3:=Tryz.sizeOf3
 v3:=Tryz.zeroValue3
 t4:=Tryz.underlying4
 a4:=Tryz.isAgg4
 z4:=Tryz.sizeOf4
 v4:=Tryz.zeroValue4
 t5:=Tryz.underlying5
 a5:=Tryz.isAgg5
 z5:=Tryz.sizeOf5
 v5:=Tryz.zeroValue5
 t9:=Tryz.underlying9
 a9:=Tryz.isAgg9
 z9:=Tryz.sizeOf9
 v9:=Tryz.zeroValue9
 t21:=Tryz.underlying21
 a21:=Tryz.isAgg21
 z21:=Tryz.sizeOf21
 v21:=Tryz.zeroValue21
 t46:=Tryz.underlying262
 a46:=Tryz.isAgg262
 z46:=Tryz.sizeOf262
 v46:=Tryz.zeroValue262
 t105:=Tryz.underlying327
 a105:=Tryz.isAgg327
 z105:=Tryz.sizeOf327
 v105:=Tryz.zeroValue327
 t119:=Tryz.underlying258
 a119:=Tryz.isAgg258
 z119:=Tryz.sizeOf258
 t138:=Tryz.underlying260
 a138:=Tryz.isAgg260
 z138:=Tryz.sizeOf260
 v138:=Tryz.zeroValue260
 t139:=Tryz.underlying261
 a139:=Tryz.isAgg261
 z139:=Tryz.sizeOf261
 v139:=Tryz.zeroValue261
 g3:=by kernel_rfl
 g4:=by kernel_rfl }
open Go.RowKit Go.Proofs.Uni Go.Proofs.StrIt Go.Lib
def badR (p:Nat × Nat):Bool:=decide (p.1=65533∧p.2 < 2) || decide (p.1 < 32) || decide (p.1=127)
def textF:Nat→List UInt8→Bool
 | 0,_=>true
 | f+1,l=>if l=[] then true else if badR (decodeL l) then false else textF f (l.drop (decodeL l).2)
theorem textF_fuel:∀ (f g:Nat) (l:List UInt8),l.length≤f→l.length≤g→textF f l=textF g l
 | 0,0,l,_,_=>rfl
 | 0,g+1,l,h,_=>by
  have:l=[]:=List.eq_nil_of_length_eq_zero (by omega)
  subst this;rfl
 | f+1,0,l,_,h=>by
  have:l=[]:=List.eq_nil_of_length_eq_zero (by omega)
  subst this;rfl
 | f+1,g+1,l,h1,h2=>by
  by_cases hl:l=[]
  ·
   subst hl;rfl
  ·
   have hw:=decodeL_width l
   have hlp:1≤l.length:=List.length_pos_iff.2 hl
   simp only [textF,if_neg hl]
   rw [textF_fuel f g (l.drop (decodeL l).2) (by simp only [List.length_drop];omega) (by simp only [List.length_drop];omega)]
theorem textF_eq:∀ (f:Nat) (l:List UInt8),textF f l=(validGoD f l && !(runesF f l).any ctl)
 | 0,l=>rfl
 | f+1,l=>by
  by_cases hl:l=[]
  ·
   subst hl;rfl
  ·
   have hw:=decodeL_width l
   simp only [textF,validGoD,runesF,if_neg hl,List.any_cons]
   rw [textF_eq f]
   by_cases h1:(decodeL l).1=65533∧(decodeL l).2=1
   ·
    rw [if_pos h1,if_pos (by unfold badR;rw [decide_eq_true ⟨h1.1,by omega⟩];rfl)];rfl
   ·
    rw [if_neg h1]
    have h2:badR (decodeL l)=ctl (decodeL l).1:=by
     unfold badR ctl
     rw [decide_eq_false (fun h=>h1 ⟨h.1,by omega⟩),Bool.false_or]
     rfl
    rw [h2]
    cases ctl (decodeL l).1 <;> simp
def textT (l:List UInt8):Bool:=textF l.length l
theorem textT_step {l:List UInt8} (h:l ≠ []):textT l=if badR (decodeL l) then false else textT (l.drop (decodeL l).2):=by
 unfold textT
 have hw:=decodeL_width l
 have hlp:1≤l.length:=List.length_pos_iff.2 h
 rw [textF_fuel l.length (l.length - 1+1) l (Nat.le_refl _) (by omega)]
 simp only [textF,if_neg h]
 rw [textF_fuel (l.length - 1) (l.drop (decodeL l).2).length (l.drop (decodeL l).2) (by simp only [List.length_drop];omega) (Nat.le_refl _)]
theorem isT_text (s:ByteArray):isT s=textT s.data.toList:=by
 unfold textT
 rw [textF_eq]
 unfold isT
 have hv:=valid_iff s.data.toList
 unfold validD at hv
 unfold runes at hv ⊢
 cases h:validGoD s.data.toList.length s.data.toList with
 | true=>rw [decide_eq_true (hv.1 h)]
 | false=>rw [decide_eq_false (fun e=>by have:=hv.2 e;rw [h] at this;cases this)]
theorem decode_at (s:ByteArray) (i:Nat) (h:i < s.size):Lib.decodeGo (s.extract i s.size)=decodeL (s.data.toList.drop i):=by
 have hz:(s.extract i s.size).size ≠ 0:=by rw [ByteArray.size_extract];omega
 unfold Lib.decodeGo decodeL
 rw [if_neg hz]
 congr 1
 apply ByteArray.ext
 rw [ByteArray.data_extract]
 apply Array.toList_inj.1
 rw [Array.toList_extract,List.extract_eq_take_drop,List.take_of_length_le]
 rw [List.length_drop,Array.length_toList]
 exact Nat.le_refl _
theorem since_tabs {w wr:World} (hT:Tabs w) (h:w.Since w.heap.size wr):Lib.Utf8Tabs (Tryz.lays197_ren.g 3) (Tryz.lays197_ren.g 4) wr:=Utf8Tabs_below (show Lib.Utf8Tabs (Tryz.lays197_ren.g 3) (Tryz.lays197_ren.g 4) w from hT) ⟨h.os,h.tape,h.output,h.size,h.block⟩
theorem dtext_says (s:ByteArray) (w:World) (hs:s.size≤100000000) (hT:Tabs w):Calls Tryz.prog 197 #[.string s] w fun e w'=>e=.returned (.bool (isT s))∧w.Since w.heap.size w':=by
 have HT:=Lib.hid hT
 have KD:=Lib.hid (fun (t:ByteArray) W (h:Lib.Utf8Tabs (Tryz.lays197_ren.g 3) (Tryz.lays197_ren.g 4) W)=>(Any.utf8_DecodeRuneInString Tryz.lays197 t W h:Calls Tryz.prog 247 #[.string t] W _))
 have HR:Hid (isT s=textT (s.data.toList.drop 0)):=Lib.hid (isT_text s)
 have hlen:s.data.toList.length=s.size:=Array.length_toList
 generalize isT s=R at HR ⊢
 clear hT
 go_enter Tryz.func197,Tryz.ntmps197
 go_wp2_with fail
 go_loopg [3] s.size (fun gg o3 wr=>∃ (i:Nat),gg=s.size - i∧i≤s.size∧o3=.int .i64 (i:Nat)∧Hid (R=textT (s.data.toList.drop i))∧Hid (w.Since w.heap.size wr))
 case atStart=>exact ⟨0,rfl,Nat.zero_le _,rfl,HR,Lib.hid (World.Since.refl _ _)⟩
 case round=>
  obtain ⟨i,rfl,hi,rfl,hE,hW⟩:=hrel
  by_cases h1:i < s.size
  ·
   have i1:(i:Int) < (s.size:Int):=by omega
   have i2:(i:Int)≤(s.size:Int):=by omega
   have hne:s.data.toList.drop i ≠ []:=fun e=>by have:=congrArg List.length e;rw [List.length_drop] at this;simp at this;omega
   have hst:=textT_step hne
   have hdw:=decodeL_width (s.data.toList.drop i)
   have hdl:(decodeL (s.data.toList.drop i)).2≤s.size - i:=by
    have hl2:(s.data.toList.drop i).length=s.size - i:=by rw [List.length_drop,hlen]
    by_cases hv:(decodeL (s.data.toList.drop i)).1=65533∧(decodeL (s.data.toList.drop i)).2=1
    ·
     omega
    ·
     rw [← hl2];exact (dec_enc _ hne hv).2.1
   have K1:=Lib.hid (KD.out (s.extract i s.size) wr (since_tabs HT.out hW.out))
   rw [decode_at s i h1] at K1
   rw [List.drop_drop] at hst
   generalize decodeL (s.data.toList.drop i)=p at hst hdw hdl K1
   obtain ⟨r,k⟩:=p
   have hE2:=Lib.hid (hE.out.trans hst)
   have hdl:k≤s.size - i:=hdl
   have hdw:1≤k:=by
    have:=hdw
    omega
   have z5:IntKind.i64.wrap ((i:Int)+(k:Int))=(i:Int)+(k:Int):=IntWalk.i64_in _ (by omega)
   clear hst hne
   have bad:∀ (E:Hid (badR (r,k)=true)),Hid (R=false):=fun E=>Lib.hid (by rw [hE2.out,E.out];rfl)
   have good:∀ (E:Hid (badR (r,k)=false)),Hid (R=textT (s.data.toList.drop (i+k))):=fun E=>Lib.hid (by rw [hE2.out,E.out];rfl)
   by_cases q1:r=65533
   ·
    have f1:((r:Int) == 65533)=true:=beq_iff_eq.2 (by omega)
    by_cases q2:k < 2
    ·
     have f2:(k:Int) < 2:=by omega
     have hE3:=bad (Lib.hid (by unfold badR;rw [decide_eq_true ⟨q1,q2⟩];rfl))
     clear q1 q2 bad good
     go_wp2_with fail
     refine K1.out.mono ?_
     rintro r0 w2 ⟨rfl,hb⟩
     have W2:=Lib.hid (wr_since hW.out ⟨hb.os,hb.tape,hb.output,hb.size,hb.block⟩)
     clear hb
     go_wp2_with fail
     go_ret
     exact ⟨by rw [hE3.out];rfl,W2.out⟩
    ·
     have f2:¬ (k:Int) < 2:=by omega
     have f3:¬ (r:Int) < 32:=by omega
     have f4:((r:Int) == 127)=false:=beq_eq_false_iff_ne.2 (by omega)
     have hE3:=good (Lib.hid (by unfold badR;rw [decide_eq_false (fun h=>q2 h.2),decide_eq_false (by dsimp only;omega),decide_eq_false (by dsimp only;omega)];rfl))
     clear q1 q2 bad good
     go_wp2_with fail
     refine K1.out.mono ?_
     rintro r0 w2 ⟨rfl,hb⟩
     have W2:=Lib.hid (wr_since hW.out ⟨hb.os,hb.tape,hb.output,hb.size,hb.block⟩)
     clear hb
     go_wp2_with fail
     go_roundg (s.size - (i+k))
     case measure=>omega
     case rel=>exact ⟨i+k,rfl,by omega,by simp,hE3,W2⟩
   ·
    have f1:((r:Int) == 65533)=false:=beq_eq_false_iff_ne.2 (by omega)
    by_cases q3:r < 32
    ·
     have f3:(r:Int) < 32:=by omega
     have hE3:=bad (Lib.hid (by unfold badR;rw [decide_eq_true q3];simp))
     clear q1 q3 bad good
     go_wp2_with fail
     refine K1.out.mono ?_
     rintro r0 w2 ⟨rfl,hb⟩
     have W2:=Lib.hid (wr_since hW.out ⟨hb.os,hb.tape,hb.output,hb.size,hb.block⟩)
     clear hb
     go_wp2_with fail
     go_ret
     exact ⟨by rw [hE3.out];rfl,W2.out⟩
    ·
     have f3:¬ (r:Int) < 32:=by omega
     by_cases q4:r=127
     ·
      have f4:((r:Int) == 127)=true:=beq_iff_eq.2 (by omega)
      have hE3:=bad (Lib.hid (by unfold badR;rw [decide_eq_true q4];simp))
      clear q1 q3 q4 bad good
      go_wp2_with fail
      refine K1.out.mono ?_
      rintro r0 w2 ⟨rfl,hb⟩
      have W2:=Lib.hid (wr_since hW.out ⟨hb.os,hb.tape,hb.output,hb.size,hb.block⟩)
      clear hb
      go_wp2_with fail
      go_ret
      exact ⟨by rw [hE3.out];rfl,W2.out⟩
     ·
      have f4:((r:Int) == 127)=false:=beq_eq_false_iff_ne.2 (by omega)
      have hE3:=good (Lib.hid (by unfold badR;rw [decide_eq_false (fun h=>q1 h.1),decide_eq_false q3,decide_eq_false q4];rfl))
      clear q1 q3 q4 bad good
      go_wp2_with fail
      refine K1.out.mono ?_
      rintro r0 w2 ⟨rfl,hb⟩
      have W2:=Lib.hid (wr_since hW.out ⟨hb.os,hb.tape,hb.output,hb.size,hb.block⟩)
      clear hb
      go_wp2_with fail
      go_roundg (s.size - (i+k))
      case measure=>omega
      case rel=>exact ⟨i+k,rfl,by omega,by simp,hE3,W2⟩
  ·
   have i1:¬ (i:Int) < (s.size:Int):=by omega
   have hE3:Hid (R=true):=Lib.hid (by rw [hE.out,List.drop_of_length_le (by omega)];rfl)
   go_wp2_with fail
   go_ret
   exact ⟨by rw [hE3.out];rfl,hW.out⟩
end Go.Proofs.YthbdlnflmfchjaaGreatDoor
