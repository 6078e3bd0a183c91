/- A writer's parts in parentheses: inside walked. -/
import Derived.Test.YthbdlnflmfchjaaGreatDoorWD
import Derived.Shelf.Strconv.Itoa4
import Derived.Lib.ItoaLen
import Derived.Test.YthbdlnflmfchjaaGreatDoorS3
import Derived.Shelf.Strings.Count
import Derived.Lib.SlBuf
import Derived.Laws.IdiomStrings
import Derived.Deep.CutRange
import Derived.Deep.CutBlock
set_option linter.unusedVariables false
set_option linter.unusedSimpArgs false
namespace Go.Proofs.YthbdlnflmfchjaaGreatDoor
open Go.RowKit Go.Proofs.Fm
set_option maxHeartbeats 3200000
set_option maxRecDepth 1000000
def kindRow (ks:List Nat):Obj:=.cells (ks.map fun (a:Nat)=>Value.int .u8 a).toArray 36
theorem kr_cell {w:World} {g:Nat} {ks:List Nat} (hg:w.heap[g]?=some (kindRow ks)) (i:Nat) (h:i < ks.length):w.cell? ⟨g,i,none⟩=some (.int .u8 (ks[i]:Nat)):=by
 unfold World.cell?
 rw [hg]
 unfold kindRow
 simp [h]
theorem kidx_says (ks:List Nat) (k g c:Nat) (w:World) (hg:w.heap[g]?=some (kindRow ks)) (hl:ks.length≤1000):
  Calls Tryz.prog 295 #[.slice (some ⟨g,0,none⟩) ks.length c,.int .u8 (k:Nat)] w fun E w'=>(∃ j:Int,E=.returned (.int .i64 j)∧(0≤j ↔ ks.any (fun a=>decide (k=a))=true))∧w'=w:=by
 have HK:=Lib.hid (fun i h=>kr_cell hg i h)
 have HR:Hid (ks.any (fun a=>decide (k=a))=(ks.drop 0).any (fun a=>decide (k=a))):=Lib.hid rfl
 generalize ks.any (fun a=>decide (k=a))=R at HR ⊢
 clear hg
 go_enter Tryz.func295,Tryz.ntmps295
 go_wp2_with fail
 go_loopg [5,8] ks.length (fun gg o5 o8 wr=>∃ (i:Nat),gg=ks.length - i∧i≤ks.length∧o8=.int .i64 (i:Nat)∧Hid (R=(ks.drop i).any (fun a=>decide (k=a)))∧wr=w)
 case atStart=>exact ⟨0,rfl,Nat.zero_le _,rfl,HR,rfl⟩
 case round=>
  obtain ⟨i,rfl,hi,rfl,hE,rfl⟩:=hrel
  by_cases h1:i < ks.length
  ·
   have g0:=HK.out i h1
   have hE2:Hid (R=(decide (k=ks[i]) || (ks.drop (i+1)).any (fun a=>decide (k=a)))):=Lib.hid (by rw [hE.out,List.drop_eq_getElem_cons h1,List.any_cons])
   have i1:(i:Int) < (ks.length:Int):=by omega
   have z5:IntKind.i64.wrap ((i:Int)+1)=(i:Int)+1:=IntWalk.i64_in _ (by omega)
   generalize ks[i]=a at g0 hE2
   by_cases hq:k=a
   ·
    have f1:((k:Int) == (a:Int))=true:=beq_iff_eq.2 (by omega)
    have hE3:Hid (R=true):=Lib.hid (by rw [hE2.out,decide_eq_true hq];rfl)
    clear hq
    go_wp2_with fail
    go_ret
    exact ⟨⟨_,rfl,by rw [hE3.out];simp⟩,rfl⟩
   ·
    have f1:((k:Int) == (a:Int))=false:=beq_eq_false_iff_ne.2 (by omega)
    have hE3:Hid (R=(ks.drop (i+1)).any (fun a=>decide (k=a))):=Lib.hid (by rw [hE2.out,decide_eq_false hq];rfl)
    clear hq
    go_wp2_with fail
    go_roundg (ks.length - (i+1))
    case measure=>omega
    case rel=>exact ⟨i+1,rfl,by omega,by simp,hE3,rfl⟩
  ·
   have i1:¬ (i:Int) < (ks.length:Int):=by omega
   have hE3:Hid (R=false):=Lib.hid (by rw [hE.out,List.drop_of_length_le (by omega)];rfl)
   go_wp2_with fail
   go_ret
   exact ⟨⟨_,rfl,by rw [hE3.out];simp⟩,rfl⟩
theorem kcontains (ks:List Nat) (k g c:Nat) (w:World) (hg:w.heap[g]?=some (kindRow ks)) (hl:ks.length≤1000):
  Calls Tryz.prog 245 #[.slice (some ⟨g,0,none⟩) ks.length c,.int .u8 (k:Nat)] w fun E w'=>E=.returned (.bool (ks.any (fun a=>decide (k=a))))∧w'=w:=by
 have KI:=Lib.hid (kidx_says ks k g c w hg hl)
 generalize ks.any (fun a=>decide (k=a))=R at KI ⊢
 clear hg
 go_enter Tryz.func245,Tryz.ntmps245
 go_wp2_with fail
 refine KI.out.mono ?_
 rintro r0 w2 ⟨⟨j,rfl,hj⟩,rfl⟩
 cases R with
 | true=>
  have f1:j ≥ 0:=hj.2 rfl
  clear hj
  go_wp2_with fail
  go_ret
  exact ⟨rfl,rfl⟩
 | false=>
  have f1:¬ j ≥ 0:=fun h=>by have:=hj.1 h;cases this
  have F1:Hid (decide (0≤j)=false):=Lib.hid (decide_eq_false f1)
  clear hj
  go_wp2_with fail
  go_ret
  exact ⟨by rw [← F1.out];rfl,rfl⟩
theorem par_1 (k:Nat):[14].any (fun a=>decide (k=a))=parZ 1 k:=by unfold parZ;simp
theorem par_2 (k:Nat):[14,13].any (fun a=>decide (k=a))=parZ 2 k:=by unfold parZ;simp
theorem cell_of1 {w:World} {g T:Nat} {v:Value} (h:w.heap[g]?=some (.cells #[v] T)):w.cell? ⟨g,0,none⟩=some v:=by unfold World.cell?;rw [h];rfl
theorem inside_says (B b q k c kb kr bb n:Nat) (ks:List Nat) (v1 v2 v3:Value) (X acc:List UInt8) (w0 w:World)
  (KT:∀ acc W,w0.Since w0.heap.size W→B≤W.heap.size→BIs 196 B b acc W→Calls Tryz.prog 105 #[.pointer (some ⟨b,0,none⟩),.agg #[.int .u8 (k:Nat),v1,v2,v3]] W (WSay B b acc X W))
  (hq:ks.any (fun a=>decide (k=a))=parZ q k) (hkl:ks.length≤1000) (hn:ks.length=n)
  (hkb:w.heap[kb]?=some (.cells #[.slice (some ⟨kr,0,none⟩) n c] 324)) (hkr:w.heap[kr]?=some (kindRow ks)) (hbb:w.heap[bb]?=some (.cells #[.pointer (some ⟨b,0,none⟩)] 247)) (nb:bb ≠ b)
  (h0:w0.Since w0.heap.size w) (hw0:w0.heap.size≤B) (hB:B≤w.heap.size) (hA:BIs 196 B b acc w):
  Calls Tryz.prog 244 #[.agg #[.int .u8 (k:Nat),v1,v2,v3],.pointer (some ⟨kb,0,none⟩),.pointer (some ⟨bb,0,none⟩)] w (WSay B b acc (wrapZ q k X) w):=by
 subst hn
 obtain ⟨W,hW⟩:∃ W,w.alloc (.cells #[.int .u8 (k:Nat),v1,v2,v3] 39)=W:=⟨_,rfl⟩
 have HS:w.Since w.heap.size W:=by rw [← hW];exact (World.Since.refl _ _).alloc (Nat.le_refl _) _
 have T1:W.heap[w.heap.size]?=some (.cells #[.int .u8 (k:Nat),v1,v2,v3] 39):=by rw [← hW];exact heap_alloc_new w _
 have A1:=Lib.hid (hA.up HS)
 have K1:=Lib.hid (BKeep.of (b:=b) HS hB)
 have S1:=Lib.hid (since_t h0 HS)
 have B1:Hid (B≤W.heap.size):=Lib.hid (Nat.le_trans hB HS.size)
 have kb1:=(HS.block kb (Array.getElem?_eq_some_iff.1 hkb).1).trans hkb
 have kr1:=(HS.block kr (Array.getElem?_eq_some_iff.1 hkr).1).trans hkr
 have bb1:=(HS.block bb (Array.getElem?_eq_some_iff.1 hbb).1).trans hbb
 have nt:w.heap.size ≠ b:=Nat.ne_of_gt hA.lt
 have KC:=Lib.hid (kcontains ks k kr c W kr1 hkl)
 rw [hq] at KC
 obtain ⟨t0,t1,t2,t3,-⟩:=cells4 T1
 have e0:=cell_of1 kb1
 have e1:=cell_of1 bb1
 have HT:=Lib.hid T1
 have HB1:=Lib.hid bb1
 have KT':=Lib.hid KT
 have HNb:=Lib.hid nb
 have HNt:=Lib.hid nt
 have HW0:=Lib.hid hw0
 unfold wrapZ
 clear hkb hkr hbb hA h0 HS kb1 kr1 hq hB KT T1 bb1 nb nt hw0
 generalize parZ q k=pz at *
 cases pz with
 | false=>
  have KX:=Lib.hid (KT'.out acc W S1.out B1.out A1.out)
  go_enter Tryz.func244,Tryz.ntmps244
  go_wp2_with fail
  refine KC.out.mono ?_
  rintro r0 w2 ⟨rfl,rfl⟩
  go_wp2_with fail
  refine KX.out.mono ?_
  rintro r0 w3 ⟨rfl,r,h1,h2,h3⟩
  have H:=Lib.hid (And.intro h1 (And.intro h2 (K1.out.trans h3)))
  clear h1 h2 h3
  go_wp2_with fail
  go_end0
  exact ⟨rfl,r,H.out.1,H.out.2.1,H.out.2.2⟩
 | true=>
  have KX:=Lib.hid (put_new B b 1 acc [⟨#[40]⟩] [40] W rfl rfl A1.out B1.out (by decide) (by decide))
  go_enter Tryz.func244,Tryz.ntmps244
  go_wp2_with fail
  refine KC.out.mono ?_
  rintro r0 w2 ⟨rfl,rfl⟩
  go_wp2_with fail
  refine KX.out.mono ?_
  rintro r0 w3 ⟨rfl,r1,h1,h2,h3⟩
  have R1:=Lib.hid h1
  have K2:=Lib.hid (K1.out.trans h3)
  have T2:=Lib.hid (h3.at HT.out (by decide) HNt.out)
  have bb2:=Lib.hid (h3.at HB1.out (by decide) HNb.out)
  have S2:=Lib.hid (h3.since S1.out HW0.out)
  have B2:Hid (B≤w3.heap.size):=Lib.hid (Nat.le_trans B1.out h3.size)
  have A2:=Lib.hid h2
  have KY:=Lib.hid (KT'.out r1 w3 S2.out B2.out h2)
  obtain ⟨t0,t1,t2,t3,-⟩:=cells4 T2.out
  have e1:=cell_of1 bb2.out
  clear h1 h2 h3 KX KC
  go_wp2_with fail
  refine KY.out.mono ?_
  rintro r0 w4 ⟨rfl,r2,h1,h2,h3⟩
  have R2:=Lib.hid (R1.out.app h1)
  have K3:=Lib.hid (K2.out.trans h3)
  have bb3:=Lib.hid (h3.at bb2.out (by decide) HNb.out)
  have e1:=cell_of1 bb3.out
  have KZ:=Lib.hid (put_new B b 1 r2 [⟨#[41]⟩] [41] w4 rfl rfl h2 (Nat.le_trans B2.out h3.size) (by decide) (by decide))
  clear h1 h2 h3 KY
  go_wp2_with fail
  refine KZ.out.mono ?_
  rintro r0 w5 ⟨rfl,r3,h1,h2,h3⟩
  have H:=Lib.hid (And.intro (R2.out.app h1) (And.intro h2 (K3.out.trans h3)))
  clear h1 h2 h3
  go_wp2_with fail
  go_end0
  exact ⟨rfl,r3,H.out.1,H.out.2.1,H.out.2.2⟩
end Go.Proofs.YthbdlnflmfchjaaGreatDoor
namespace Go.Proofs.YthbdlnflmfchjaaGreatDoor
open Go.RowKit Go.Proofs.Fm
set_option maxHeartbeats 6400000
set_option maxRecDepth 1000000
structure WBox (b bb tb:Nat) (cs:List Value) (w:World):Prop where
 b1:w.heap[bb]?=some (.cells #[.pointer (some ⟨b,0,none⟩)] 247)
 t1:w.heap[tb]?=some (.cells cs.toArray 39)
 nb:bb ≠ b
 nt:tb ≠ b
theorem WBox.up {B b bb tb:Nat} {cs:List Value} {w w':World} (h:WBox b bb tb cs w) (k:BKeep B b w w'):WBox b bb tb cs w':=⟨k.at h.b1 (by decide) h.nb,k.at h.t1 (by decide) h.nt,h.nb,h.nt⟩
theorem WBox.since {b bb tb:Nat} {cs:List Value} {w w':World} (h:WBox b bb tb cs w) (k:w.Since w.heap.size w'):WBox b bb tb cs w':=⟨(k.block _ (blk_lt h.b1)).trans h.b1,(k.block _ (blk_lt h.t1)).trans h.t1,h.nb,h.nt⟩
structure WAt (w0:World) (B b:Nat) (acc:List UInt8) (w:World):Prop where
 s:w0.Since w0.heap.size w
 lo:w0.heap.size≤B
 hB:B≤w.heap.size
 is:BIs 196 B b acc w
theorem WAt.up {w0:World} {B b:Nat} {acc:List UInt8} {w w':World} (h:WAt w0 B b acc w) (k:w.Since w.heap.size w'):WAt w0 B b acc w':=⟨since_t h.s k,h.lo,Nat.le_trans h.hB k.size,h.is.up k⟩
theorem WAt.next {w0:World} {B b:Nat} {acc r:List UInt8} {w w':World} (h:WAt w0 B b acc w) (k:BKeep B b w w') (hr:BIs 196 B b r w'):WAt w0 B b r w':=⟨k.since h.s h.lo,h.lo,Nat.le_trans h.hB k.size,hr⟩
theorem since_alloc (w:World) (o:Obj):w.Since w.heap.size (w.alloc o):=(World.Since.refl _ _).alloc (Nat.le_refl _) _
structure WTm (w0:World) (K:Nat) (G:Option Addr) (subs:List Tz):Prop where
 us:∃ us,ZRow w0 G us∧TzsAt w0 subs us
 wt:wtZs subs≤K
 len:subs.length≤1000000
theorem WBox.five {b bb tb:Nat} {v0 v1 v2 v3:Value} {w:World} (h:WBox b bb tb [v0,v1,v2,v3] w):w.cell? ⟨bb,0,none⟩=some (.pointer (some ⟨b,0,none⟩))∧w.cell? ⟨tb,0,none⟩=some v0∧w.cell? ⟨tb,1,none⟩=some v1∧w.cell? ⟨tb,2,none⟩=some v2∧w.cell? ⟨tb,3,none⟩=some v3:=by
 obtain ⟨t0,t1,t2,t3,-⟩:=cells4 h.t1
 exact ⟨cell_of1 h.b1,t0,t1,t2,t3⟩
theorem two_says (B b bb tb K k c:Nat) (op x:ByteArray) (n:Int) (G:Option Addr) (subs:List Tz) (acc:List UInt8) (w0 w:World) (IH:WTerm B b w0 K) (hT:WTm w0 K G subs) (ho:op.size≤1000000)
  (hb:WBox b bb tb [.int .u8 (k:Nat),.string x,.int .i64 n,.slice G subs.length c] w) (hA:WAt w0 B b acc w):
  Calls Tryz.prog 186 #[.string op,.pointer (some ⟨bb,0,none⟩),.pointer (some ⟨tb,0,none⟩)] w (WSay B b acc (fzAt 0 subs 0 ++ ((32 :: (bytesOf op ++ [32])) ++ fzAt 0 subs 1)) w):=by
 obtain ⟨us,hr,hs⟩:=hT.us
 have hwt:=hT.wt
 have hlen:=hT.len
 have KS:=Lib.hid (fun (i:Nat) W (hi:i≤10) (h0:w0.Since w0.heap.size W)=>sub_says subs us G c k x n i w0 W h0 hr hs hi hlen)
 have KT:=Lib.hid (fun (i:Nat) ds acc W (hd:SubAt w0 subs i ds) (h:WAt w0 B b acc W)=>sub_term IH hwt hd acc W h.s h.hB h.is)
 have KP:=Lib.hid (fun acc W (h:WAt w0 B b acc W)=>put_new B b 3 acc [⟨#[32]⟩,op,⟨#[32]⟩] (32 :: (bytesOf op ++ [32])) W (by
  show bytesOf ⟨#[32]⟩ ++ (bytesOf op ++ (bytesOf ⟨#[32]⟩ ++ []))=_
  rfl) rfl h.is h.hB (by simp) (by
   intro s hs
   simp only [List.mem_cons,List.not_mem_nil,or_false] at hs
   rcases hs with rfl | rfl | rfl
   ·
    exact (by decide:1≤10000000)
   ·
    omega
   ·
    exact (by decide:1≤10000000)))
 have HA:=Lib.hid (hA.up (w':=w.drew) (World.Since.refl _ _).drew)
 have HK:=Lib.hid ((BKeep.refl B b w).drew)
 have HX:=Lib.hid (hb.since (w':=w.drew) (World.Since.refl _ _).drew)
 have H0:=Lib.hid HX.out.five
 have KS0:=Lib.hid (KS.out 0 w.drew (by omega) HA.out.s)
 clear hr hs hwt hlen hT hb hA IH ho
 go_enter Tryz.func186,Tryz.ntmps186
 go_wp2_with fail
 go_region_held3 (fun w'=>w'.cell? ⟨bb,0,none⟩=some (.pointer (some ⟨b,0,none⟩))∧w'.cell? ⟨tb,0,none⟩=some (.int .u8 (k:Nat))∧w'.cell? ⟨tb,1,none⟩=some (.string x)∧w'.cell? ⟨tb,2,none⟩=some (.int .i64 n)∧w'.cell? ⟨tb,3,none⟩=some (.slice G subs.length c))
  (first
   | exact H0.out
   | exact H1.out
   | exact H2.out)
  (first
   | (
    go_at_call 187;refine (KS0.out).mono ?_;rintro r0 w2 ⟨ds,rfl,hd,hs⟩;
    have A2:=Lib.hid (HA.out.up hs);
    have K2:=Lib.hid (HK.out.trans (BKeep.of hs HA.out.hB));
    have X2:=Lib.hid (HX.out.since hs);
    have H1:=Lib.hid X2.out.five;
    have KT2:=Lib.hid (KT.out 0 ds acc w2 hd A2.out);clear hd hs)
   | (
    go_at_call 105;refine (KT2.out).mono ?_;rintro r0 w3 ⟨rfl,r1,g1,g2,g3⟩;
    have R3:=Lib.hid g1;
    have A3:=Lib.hid (A2.out.next g3 g2);
    have K3:=Lib.hid (K2.out.trans g3);
    have X3:=Lib.hid (X2.out.up g3);
    have H2:=Lib.hid X3.out.five;clear g1 g2 g3))
 go_wp2_with fail
 have KP3:=Lib.hid (KP.out r1 w3 A3.out)
 refine KP3.out.mono ?_
 rintro r0 w4 ⟨rfl,r2,g1,g2,g3⟩
 have R4:=Lib.hid (R3.out.app g1)
 have A4:=Lib.hid (A3.out.next g3 g2)
 have K4:=Lib.hid (K3.out.trans g3)
 have X4:=Lib.hid (X3.out.up g3)
 clear g1 g2 g3 KP3 KT2
 go_wp2_with fail
 have A5:=Lib.hid (A4.out.up (w':=w4.drew) (World.Since.refl _ _).drew)
 have K5:=Lib.hid K4.out.drew
 have X5:=Lib.hid (X4.out.since (w':=w4.drew) (World.Since.refl _ _).drew)
 have H5:=Lib.hid X5.out.five
 have KS1:=Lib.hid (KS.out 1 w4.drew (by omega) A5.out.s)
 go_region_held3 (fun w'=>w'.cell? ⟨bb,0,none⟩=some (.pointer (some ⟨b,0,none⟩))∧w'.cell? ⟨tb,0,none⟩=some (.int .u8 (k:Nat))∧w'.cell? ⟨tb,1,none⟩=some (.string x)∧w'.cell? ⟨tb,2,none⟩=some (.int .i64 n)∧w'.cell? ⟨tb,3,none⟩=some (.slice G subs.length c))
  (first
   | exact H5.out
   | exact H6.out
   | exact H7.out)
  (first
   | (
    go_at_call 187;refine (KS1.out).mono ?_;rintro r0 w6 ⟨ds,rfl,hd,hs⟩;
    have A6:=Lib.hid (A5.out.up hs);
    have K6:=Lib.hid (K5.out.trans (BKeep.of hs A5.out.hB));
    have X6:=Lib.hid (X5.out.since hs);
    have H6:=Lib.hid X6.out.five;
    have KT6:=Lib.hid (KT.out 1 ds r2 w6 hd A6.out);clear hd hs)
   | (
    go_at_call 105;refine (KT6.out).mono ?_;rintro r0 w7 ⟨rfl,r3,g1,g2,g3⟩;
    have H:=Lib.hid (And.intro (R4.out.app g1) (And.intro g2 (K6.out.trans g3)));
    have H7:=Lib.hid (X6.out.up g3).five;clear g1 g2 g3))
 go_wp2_with fail
 go_end0
 exact ⟨rfl,r3,by have h:=H.out.1;rw [List.append_assoc] at h;exact h,H.out.2.1,H.out.2.2⟩
end Go.Proofs.YthbdlnflmfchjaaGreatDoor
namespace Go.Proofs.YthbdlnflmfchjaaGreatDoor
open Go.RowKit Go.Proofs.Fm
set_option maxHeartbeats 6400000
set_option maxRecDepth 1000000
theorem fzTake_pre (b:Nat) (sep:List UInt8) (ts:List Tz):∀ k i:Nat,i+k=ts.length→∃ y,fzJoin b sep ts=fzTake b sep ts i ++ y
 | 0,i,h=>⟨[],by rw [show i=ts.length from h,fzTake_all,List.append_nil]⟩
 | k+1,i,h=>by
  obtain ⟨y,e⟩:=fzTake_pre b sep ts k (i+1) (by omega)
  rw [fzTake_next b sep (show i < ts.length by omega),List.append_assoc] at e
  exact ⟨_,e⟩
theorem WR.cut {acc x r:List UInt8} (h:WR acc x r) (hr:1000 < r.length) (y:List UInt8):WR acc (x ++ y) r:=h.app (.full hr y)
theorem list_term (B b q c K:Nat) (sep:ByteArray) (G:Option Addr) (subs:List Tz) (acc:List UInt8) (w0 w:World) (hT:WTm w0 K G subs) (hse:sep.size≤1000) (hA:WAt w0 B b acc w)
  (KE:∀ (i:Nat) (h:i < subs.length) (k:Nat) (v1 v2 v3:Value) (acc:List UInt8) (W:World),TzAt w0 subs[i] [.int .u8 (k:Nat),v1,v2,v3]→WAt w0 B b acc W→BKeep B b w W→Calls Tryz.prog 105 #[.pointer (some ⟨b,0,none⟩),.agg #[.int .u8 (k:Nat),v1,v2,v3]] W (WSay B b acc (wrapZ q (kindZ subs[i]) (fz subs[i])) W)):
  Calls Tryz.prog 192 #[.pointer (some ⟨b,0,none⟩),.slice G subs.length c,.string sep,.func (.func 105) #[.pointer (some ⟨b,0,none⟩)] #[]] w (WSay B b acc (fzJoin q (bytesOf sep) subs) w):=by
 obtain ⟨us,hr,hs⟩:=hT.us
 have hlen:=hT.len
 have HG:=Lib.hid (fun i h=>zrow_get hr hs i h)
 have HN:=Lib.hid (fun i (h:i < subs.length)=>fzTake_next q (bytesOf sep) h)
 have HP:=Lib.hid (fun i (h:i≤subs.length)=>fzTake_pre q (bytesOf sep) subs (subs.length - i) i (by omega))
 have HE:=Lib.hid (fzTake_all q (bytesOf sep) subs)
 have H0:Hid (fzTake q (bytesOf sep) subs 0=[]):=Lib.hid (by unfold fzTake;rw [List.take_zero,fzJoin])
 have HKE:=Lib.hid KE
 have HA:=Lib.hid hA
 have HSE:=Lib.hid hse
 have KP:=Lib.hid (fun acc W (h:WAt w0 B b acc W)=>put_new B b 1 acc [sep] (bytesOf sep) W (by show bytesOf sep ++ []=_;rw [List.append_nil]) rfl h.is h.hB (by simp) (by
  intro s hs
  rw [List.mem_singleton.1 hs];omega))
 clear hr hs hT KE hA hse
 go_enter Tryz.func192,Tryz.ntmps192
 go_wp2_with fail
 go_loopg [8,9,12] subs.length (fun gg o8 o9 o12 wr=>∃ (i:Nat) (r:List UInt8),gg=subs.length - i∧i≤subs.length∧o12=.int .i64 (i:Nat)∧Hid (WR acc (fzTake q (bytesOf sep) subs i) r)∧Hid (WAt w0 B b r wr)∧Hid (BKeep B b w wr))
 case atStart=>exact ⟨0,acc,rfl,by omega,rfl,Lib.hid (by rw [H0.out];exact .nil _),HA,Lib.hid (BKeep.refl _ _ _)⟩
 case round=>
  obtain ⟨i,r,rfl,hi,rfl,hR,hA,hK⟩:=hrel
  by_cases h1:i < subs.length
  ·
   have i1:(i:Int) < (subs.length:Int):=by omega
   have z5:IntKind.i64.wrap ((i:Int)+1)=(i:Int)+1:=IntWalk.i64_in _ (by omega)
   obtain ⟨a,k1,x1,n1,G1,m1,c1,hG1,ha,ht1,g0,g1,g2,g3⟩:=HG.out i h1
   obtain ⟨cc,cd⟩:=lift_add hA.out.s ha (i * 4)
   have d0:=cc _ g0
   have d1:=cd _ _ g1
   have d2:=cd _ _ g2
   have d3:=cd _ _ g3
   have HX:=Lib.hid (HN.out i h1)
   have HY:=Lib.hid (HP.out (i+1) h1)
   have KX:=Lib.hid (fun acc W (h:WAt w0 B b acc W) (hk:BKeep B b w W)=>HKE.out i h1 k1 (.string x1) (.int .i64 n1) (.slice G1 m1 c1) acc W ht1 h hk)
   generalize wrapZ q (kindZ subs[i]) (fz subs[i])=X at *
   subst hG1
   clear g0 g1 g2 g3 cc cd ht1
   have T1:=Lib.hid (heap_alloc_new wr (.cells #[.int .u8 (k1:Nat),.string x1,.int .i64 n1,.slice G1 m1 c1] 39))
   have A1:=Lib.hid (hA.out.up (since_alloc wr (.cells #[.int .u8 (k1:Nat),.string x1,.int .i64 n1,.slice G1 m1 c1] 39)))
   have K1:=Lib.hid (hK.out.alloc hA.out.hB (.cells #[.int .u8 (k1:Nat),.string x1,.int .i64 n1,.slice G1 m1 c1] 39))
   obtain ⟨W1,hW1⟩:∃ W1,wr.alloc (.cells #[.int .u8 (k1:Nat),.string x1,.int .i64 n1,.slice G1 m1 c1] 39)=W1:=⟨_,rfl⟩
   rw [hW1] at T1 A1 K1
   have HNt:Hid (wr.heap.size ≠ b):=Lib.hid (Nat.ne_of_gt hA.out.is.lt)
   obtain ⟨t0,t1,t2,t3,-⟩:=cells4 T1.out
   by_cases h2:i=0
   ·
    have i2:¬ (i:Int) > 0:=by omega
    have HX2:Hid (fzTake q (bytesOf sep) subs (i+1)=fzTake q (bytesOf sep) subs i ++ X):=Lib.hid (by rw [HX.out,if_pos h2];rfl)
    have KL:=Lib.hid (blen B b _ _ A1.out.is)
    clear h2
    by_cases h3:1000 < r.length
    ·
     have f3:((r.length:Nat):Int) > 1000:=by omega
     obtain ⟨y,hy⟩:=HY.out
     have HZ:Hid (WR acc (fzJoin q (bytesOf sep) subs) r):=Lib.hid (by rw [hy,HX2.out,List.append_assoc];exact hR.out.cut h3 _)
     clear hy h3
     go_wp2_with fail
     refine KL.out.mono ?_
     rintro r0 w3 ⟨rfl,rfl⟩
     go_wp2_with fail
     go_end0
     exact ⟨rfl,r,HZ.out,A1.out.is,K1.out⟩
    ·
     have f3:¬ ((r.length:Nat):Int) > 1000:=by omega
     have KX1:=Lib.hid (KX.out r _ A1.out K1.out)
     clear h3
     go_wp2_with fail
     refine KL.out.mono ?_
     rintro r0 w3 ⟨rfl,rfl⟩
     go_wp2_with fail
     refine KX1.out.mono ?_
     rintro r0 w4 ⟨rfl,r4,q1,q2,q3⟩
     have R4:=Lib.hid (hR.out.app q1)
     have A4:=Lib.hid (A1.out.next q3 q2)
     have K4:=Lib.hid (K1.out.trans q3)
     clear q1 q2 q3
     go_wp2_with fail
     go_roundg (subs.length - (i+1))
     case measure=>omega
     case rel=>exact ⟨i+1,r4,rfl,by omega,by simp,Lib.hid (by rw [HX2.out];exact R4.out),A4,K4⟩
   ·
    have i2:(i:Int) > 0:=by omega
    have HX2:Hid (fzTake q (bytesOf sep) subs (i+1)=(fzTake q (bytesOf sep) subs i ++ bytesOf sep) ++ X):=Lib.hid (by rw [HX.out,if_neg h2,List.append_assoc])
    have KP1:=Lib.hid (KP.out r _ A1.out)
    clear h2
    go_wp2_with fail
    refine KP1.out.mono ?_
    rintro r0 w2 ⟨rfl,r2,q1,q2,q3⟩
    have R2:=Lib.hid (hR.out.app q1)
    have A2:=Lib.hid (A1.out.next q3 q2)
    have K2:=Lib.hid (K1.out.trans q3)
    have T2:=Lib.hid (q3.at T1.out (by decide) HNt.out)
    obtain ⟨t0,t1,t2,t3,-⟩:=cells4 T2.out
    have KL:=Lib.hid (blen B b _ _ A2.out.is)
    clear q1 q2 q3
    by_cases h3:1000 < r2.length
    ·
     have f3:((r2.length:Nat):Int) > 1000:=by omega
     obtain ⟨y,hy⟩:=HY.out
     have HZ:Hid (WR acc (fzJoin q (bytesOf sep) subs) r2):=Lib.hid (by rw [hy,HX2.out,List.append_assoc];exact R2.out.cut h3 _)
     clear hy h3
     go_wp2_with fail
     refine KL.out.mono ?_
     rintro r0 w3 ⟨rfl,rfl⟩
     go_wp2_with fail
     go_end0
     exact ⟨rfl,r2,HZ.out,A2.out.is,K2.out⟩
    ·
     have f3:¬ ((r2.length:Nat):Int) > 1000:=by omega
     have KX1:=Lib.hid (KX.out r2 _ A2.out K2.out)
     clear h3
     go_wp2_with fail
     refine KL.out.mono ?_
     rintro r0 w3 ⟨rfl,rfl⟩
     go_wp2_with fail
     refine KX1.out.mono ?_
     rintro r0 w4 ⟨rfl,r4,q1,q2,q3⟩
     have R4:=Lib.hid (R2.out.app q1)
     have A4:=Lib.hid (A2.out.next q3 q2)
     have K4:=Lib.hid (K2.out.trans q3)
     clear q1 q2 q3
     go_wp2_with fail
     go_roundg (subs.length - (i+1))
     case measure=>omega
     case rel=>exact ⟨i+1,r4,rfl,by omega,by simp,Lib.hid (by rw [HX2.out];exact R4.out),A4,K4⟩
  ·
   have i1:¬ (i:Int) < (subs.length:Int):=by omega
   have HZ:Hid (WR acc (fzJoin q (bytesOf sep) subs) r):=Lib.hid (by rw [← HE.out,show subs.length=i by omega];exact hR.out)
   go_wp2_with fail
   go_end0
   exact ⟨rfl,r,HZ.out,hA.out.is,hK.out⟩
theorem list_in (B b q c K:Nat) (kb bb:Nat) (sep:ByteArray) (G:Option Addr) (subs:List Tz) (acc:List UInt8) (w0 w:World) (hT:WTm w0 K G subs) (hse:sep.size≤1000) (hA:WAt w0 B b acc w)
  (KE:∀ (i:Nat) (h:i < subs.length) (k:Nat) (v1 v2 v3:Value) (acc:List UInt8) (W:World),TzAt w0 subs[i] [.int .u8 (k:Nat),v1,v2,v3]→WAt w0 B b acc W→BKeep B b w W→Calls Tryz.prog 244 #[.agg #[.int .u8 (k:Nat),v1,v2,v3],.pointer (some ⟨kb,0,none⟩),.pointer (some ⟨bb,0,none⟩)] W (WSay B b acc (wrapZ q (kindZ subs[i]) (fz subs[i])) W)):
  Calls Tryz.prog 192 #[.pointer (some ⟨b,0,none⟩),.slice G subs.length c,.string sep,.func (.func 244) #[] #[.pointer (some ⟨kb,0,none⟩),.pointer (some ⟨bb,0,none⟩)]] w (WSay B b acc (fzJoin q (bytesOf sep) subs) w):=by
 obtain ⟨us,hr,hs⟩:=hT.us
 have hlen:=hT.len
 have HG:=Lib.hid (fun i h=>zrow_get hr hs i h)
 have HN:=Lib.hid (fun i (h:i < subs.length)=>fzTake_next q (bytesOf sep) h)
 have HP:=Lib.hid (fun i (h:i≤subs.length)=>fzTake_pre q (bytesOf sep) subs (subs.length - i) i (by omega))
 have HE:=Lib.hid (fzTake_all q (bytesOf sep) subs)
 have H0:Hid (fzTake q (bytesOf sep) subs 0=[]):=Lib.hid (by unfold fzTake;rw [List.take_zero,fzJoin])
 have HKE:=Lib.hid KE
 have HA:=Lib.hid hA
 have HSE:=Lib.hid hse
 have KP:=Lib.hid (fun acc W (h:WAt w0 B b acc W)=>put_new B b 1 acc [sep] (bytesOf sep) W (by show bytesOf sep ++ []=_;rw [List.append_nil]) rfl h.is h.hB (by simp) (by
  intro s hs
  rw [List.mem_singleton.1 hs];omega))
 clear hr hs hT KE hA hse
 go_enter Tryz.func192,Tryz.ntmps192
 go_wp2_with fail
 go_loopg [8,9,12] subs.length (fun gg o8 o9 o12 wr=>∃ (i:Nat) (r:List UInt8),gg=subs.length - i∧i≤subs.length∧o12=.int .i64 (i:Nat)∧Hid (WR acc (fzTake q (bytesOf sep) subs i) r)∧Hid (WAt w0 B b r wr)∧Hid (BKeep B b w wr))
 case atStart=>exact ⟨0,acc,rfl,by omega,rfl,Lib.hid (by rw [H0.out];exact .nil _),HA,Lib.hid (BKeep.refl _ _ _)⟩
 case round=>
  obtain ⟨i,r,rfl,hi,rfl,hR,hA,hK⟩:=hrel
  by_cases h1:i < subs.length
  ·
   have i1:(i:Int) < (subs.length:Int):=by omega
   have z5:IntKind.i64.wrap ((i:Int)+1)=(i:Int)+1:=IntWalk.i64_in _ (by omega)
   obtain ⟨a,k1,x1,n1,G1,m1,c1,hG1,ha,ht1,g0,g1,g2,g3⟩:=HG.out i h1
   obtain ⟨cc,cd⟩:=lift_add hA.out.s ha (i * 4)
   have d0:=cc _ g0
   have d1:=cd _ _ g1
   have d2:=cd _ _ g2
   have d3:=cd _ _ g3
   have HX:=Lib.hid (HN.out i h1)
   have HY:=Lib.hid (HP.out (i+1) h1)
   have KX:=Lib.hid (fun acc W (h:WAt w0 B b acc W) (hk:BKeep B b w W)=>HKE.out i h1 k1 (.string x1) (.int .i64 n1) (.slice G1 m1 c1) acc W ht1 h hk)
   generalize wrapZ q (kindZ subs[i]) (fz subs[i])=X at *
   subst hG1
   clear g0 g1 g2 g3 cc cd ht1
   have T1:=Lib.hid (heap_alloc_new wr (.cells #[.int .u8 (k1:Nat),.string x1,.int .i64 n1,.slice G1 m1 c1] 39))
   have A1:=Lib.hid (hA.out.up (since_alloc wr (.cells #[.int .u8 (k1:Nat),.string x1,.int .i64 n1,.slice G1 m1 c1] 39)))
   have K1:=Lib.hid (hK.out.alloc hA.out.hB (.cells #[.int .u8 (k1:Nat),.string x1,.int .i64 n1,.slice G1 m1 c1] 39))
   obtain ⟨W1,hW1⟩:∃ W1,wr.alloc (.cells #[.int .u8 (k1:Nat),.string x1,.int .i64 n1,.slice G1 m1 c1] 39)=W1:=⟨_,rfl⟩
   rw [hW1] at T1 A1 K1
   have HNt:Hid (wr.heap.size ≠ b):=Lib.hid (Nat.ne_of_gt hA.out.is.lt)
   obtain ⟨t0,t1,t2,t3,-⟩:=cells4 T1.out
   by_cases h2:i=0
   ·
    have i2:¬ (i:Int) > 0:=by omega
    have HX2:Hid (fzTake q (bytesOf sep) subs (i+1)=fzTake q (bytesOf sep) subs i ++ X):=Lib.hid (by rw [HX.out,if_pos h2];rfl)
    have KL:=Lib.hid (blen B b _ _ A1.out.is)
    clear h2
    by_cases h3:1000 < r.length
    ·
     have f3:((r.length:Nat):Int) > 1000:=by omega
     obtain ⟨y,hy⟩:=HY.out
     have HZ:Hid (WR acc (fzJoin q (bytesOf sep) subs) r):=Lib.hid (by rw [hy,HX2.out,List.append_assoc];exact hR.out.cut h3 _)
     clear hy h3
     go_wp2_with fail
     refine KL.out.mono ?_
     rintro r0 w3 ⟨rfl,rfl⟩
     go_wp2_with fail
     go_end0
     exact ⟨rfl,r,HZ.out,A1.out.is,K1.out⟩
    ·
     have f3:¬ ((r.length:Nat):Int) > 1000:=by omega
     have KX1:=Lib.hid (KX.out r _ A1.out K1.out)
     clear h3
     go_wp2_with fail
     refine KL.out.mono ?_
     rintro r0 w3 ⟨rfl,rfl⟩
     go_wp2_with fail
     refine KX1.out.mono ?_
     rintro r0 w4 ⟨rfl,r4,q1,q2,q3⟩
     have R4:=Lib.hid (hR.out.app q1)
     have A4:=Lib.hid (A1.out.next q3 q2)
     have K4:=Lib.hid (K1.out.trans q3)
     clear q1 q2 q3
     go_wp2_with fail
     go_roundg (subs.length - (i+1))
     case measure=>omega
     case rel=>exact ⟨i+1,r4,rfl,by omega,by simp,Lib.hid (by rw [HX2.out];exact R4.out),A4,K4⟩
   ·
    have i2:(i:Int) > 0:=by omega
    have HX2:Hid (fzTake q (bytesOf sep) subs (i+1)=(fzTake q (bytesOf sep) subs i ++ bytesOf sep) ++ X):=Lib.hid (by rw [HX.out,if_neg h2,List.append_assoc])
    have KP1:=Lib.hid (KP.out r _ A1.out)
    clear h2
    go_wp2_with fail
    refine KP1.out.mono ?_
    rintro r0 w2 ⟨rfl,r2,q1,q2,q3⟩
    have R2:=Lib.hid (hR.out.app q1)
    have A2:=Lib.hid (A1.out.next q3 q2)
    have K2:=Lib.hid (K1.out.trans q3)
    have T2:=Lib.hid (q3.at T1.out (by decide) HNt.out)
    obtain ⟨t0,t1,t2,t3,-⟩:=cells4 T2.out
    have KL:=Lib.hid (blen B b _ _ A2.out.is)
    clear q1 q2 q3
    by_cases h3:1000 < r2.length
    ·
     have f3:((r2.length:Nat):Int) > 1000:=by omega
     obtain ⟨y,hy⟩:=HY.out
     have HZ:Hid (WR acc (fzJoin q (bytesOf sep) subs) r2):=Lib.hid (by rw [hy,HX2.out,List.append_assoc];exact R2.out.cut h3 _)
     clear hy h3
     go_wp2_with fail
     refine KL.out.mono ?_
     rintro r0 w3 ⟨rfl,rfl⟩
     go_wp2_with fail
     go_end0
     exact ⟨rfl,r2,HZ.out,A2.out.is,K2.out⟩
    ·
     have f3:¬ ((r2.length:Nat):Int) > 1000:=by omega
     have KX1:=Lib.hid (KX.out r2 _ A2.out K2.out)
     clear h3
     go_wp2_with fail
     refine KL.out.mono ?_
     rintro r0 w3 ⟨rfl,rfl⟩
     go_wp2_with fail
     refine KX1.out.mono ?_
     rintro r0 w4 ⟨rfl,r4,q1,q2,q3⟩
     have R4:=Lib.hid (R2.out.app q1)
     have A4:=Lib.hid (A2.out.next q3 q2)
     have K4:=Lib.hid (K2.out.trans q3)
     clear q1 q2 q3
     go_wp2_with fail
     go_roundg (subs.length - (i+1))
     case measure=>omega
     case rel=>exact ⟨i+1,r4,rfl,by omega,by simp,Lib.hid (by rw [HX2.out];exact R4.out),A4,K4⟩
  ·
   have i1:¬ (i:Int) < (subs.length:Int):=by omega
   have HZ:Hid (WR acc (fzJoin q (bytesOf sep) subs) r):=Lib.hid (by rw [← HE.out,show subs.length=i by omega];exact hR.out)
   go_wp2_with fail
   go_end0
   exact ⟨rfl,r,HZ.out,hA.out.is,hK.out⟩
end Go.Proofs.YthbdlnflmfchjaaGreatDoor
namespace Go.Proofs.YthbdlnflmfchjaaGreatDoor
open Go.RowKit Go.Proofs.Fm
set_option maxHeartbeats 1600000
set_option maxRecDepth 1000000
structure IBox (b kb kr bb c:Nat) (ks:List Nat) (w:World):Prop where
 k1:w.heap[kb]?=some (.cells #[.slice (some ⟨kr,0,none⟩) ks.length c] 324)
 r1:w.heap[kr]?=some (kindRow ks)
 b1:w.heap[bb]?=some (.cells #[.pointer (some ⟨b,0,none⟩)] 247)
 n1:kb ≠ b
 n2:kr ≠ b
 n3:bb ≠ b
theorem IBox.up {B b kb kr bb c:Nat} {ks:List Nat} {w w':World} (h:IBox b kb kr bb c ks w) (k:BKeep B b w w'):IBox b kb kr bb c ks w':=⟨k.at h.k1 (by decide) h.n1,k.at h.r1 (by decide) h.n2,k.at h.b1 (by decide) h.n3,h.n1,h.n2,h.n3⟩
theorem IBox.since {b kb kr bb c:Nat} {ks:List Nat} {w w':World} (h:IBox b kb kr bb c ks w) (k:w.Since w.heap.size w'):IBox b kb kr bb c ks w':=⟨(k.block _ (blk_lt h.k1)).trans h.k1,(k.block _ (blk_lt h.r1)).trans h.r1,(k.block _ (blk_lt h.b1)).trans h.b1,h.n1,h.n2,h.n3⟩
theorem mk_inside (b kr n:Nat) (ks:List Nat) (w:World) (hn:ks.length=n) (hr:w.heap[kr]?=some (kindRow ks)) (n2:kr ≠ b) (hb:b < w.heap.size):
  Calls Tryz.prog 193 #[.pointer (some ⟨b,0,none⟩),.slice (some ⟨kr,0,none⟩) n n] w fun e w'=>∃ kb bb,e=.returned (.func (.func 244) #[] #[.pointer (some ⟨kb,0,none⟩),.pointer (some ⟨bb,0,none⟩)])∧IBox b kb kr bb n ks w'∧w.Since w.heap.size w':=by
 subst hn
 have H:Hid (IBox b (w.heap.size+1) kr w.heap.size ks.length ks ((w.alloc (.cells #[.pointer (some ⟨b,0,none⟩)] 247)).alloc (.cells #[.slice (some ⟨kr,0,none⟩) ks.length ks.length] 324))∧w.Since w.heap.size ((w.alloc (.cells #[.pointer (some ⟨b,0,none⟩)] 247)).alloc (.cells #[.slice (some ⟨kr,0,none⟩) ks.length ks.length] 324))):=Lib.hid (by
  have hs:w.Since w.heap.size ((w.alloc (.cells #[.pointer (some ⟨b,0,none⟩)] 247)).alloc (.cells #[.slice (some ⟨kr,0,none⟩) ks.length ks.length] 324)):=((World.Since.refl _ _).alloc (Nat.le_refl _) _).alloc (by simp) _
  refine ⟨⟨?_,(hs.block kr (blk_lt hr)).trans hr,(Go.Deep.blk_alloc_lt _ _ _ (by simp)).trans (heap_alloc_new w _),by omega,n2,by omega⟩,hs⟩
  have:=heap_alloc_new (w.alloc (.cells #[.pointer (some ⟨b,0,none⟩)] 247)) (.cells #[.slice (some ⟨kr,0,none⟩) ks.length ks.length] 324)
  rw [World.size_alloc] at this
  exact this)
 clear hr n2 hb
 go_enter Tryz.func193,Tryz.ntmps193
 go_wp2_with fail
 go_ret
 exact ⟨_,_,rfl,H.out.1,H.out.2⟩
theorem inside_at (B b q k c kb kr bb:Nat) (ks:List Nat) (v1 v2 v3:Value) (X acc:List UInt8) (w0 w:World)
  (KT:∀ acc W,w0.Since w0.heap.size W→B≤W.heap.size→BIs 196 B b acc W→Calls Tryz.prog 105 #[.pointer (some ⟨b,0,none⟩),.agg #[.int .u8 (k:Nat),v1,v2,v3]] W (WSay B b acc X W))
  (hq:ks.any (fun a=>decide (k=a))=parZ q k) (hkl:ks.length≤1000) (hI:IBox b kb kr bb c ks w) (hA:WAt w0 B b acc w):
  Calls Tryz.prog 244 #[.agg #[.int .u8 (k:Nat),v1,v2,v3],.pointer (some ⟨kb,0,none⟩),.pointer (some ⟨bb,0,none⟩)] w (WSay B b acc (wrapZ q k X) w):=
 inside_says B b q k c kb kr bb ks.length ks v1 v2 v3 X acc w0 w KT hq hkl rfl hI.k1 hI.r1 hI.b1 hI.n3 hA.s hA.lo hA.hB hA.is
theorem parZ_zero (q:Nat):parZ q 0=false:=by unfold parZ;simp
theorem sub_inside {B b q n c kb kr bb K:Nat} {ks:List Nat} {w0:World} {subs:List Tz} {ds:List Value} (IH:WTerm B b w0 K) (hK:wtZs subs≤K) (hd:SubAt w0 subs n ds) (hq:∀ k,ks.any (fun a=>decide (k=a))=parZ q k) (hkl:ks.length≤1000) (acc:List UInt8) (w:World) (hI:IBox b kb kr bb c ks w) (hA:WAt w0 B b acc w):
  Calls Tryz.prog 244 #[.agg ds.toArray,.pointer (some ⟨kb,0,none⟩),.pointer (some ⟨bb,0,none⟩)] w (WSay B b acc (fzAt q subs n) w):=by
 rcases hd with ⟨h1,h2⟩ | ⟨h1,rfl⟩
 ·
  obtain ⟨k,x,nn,G,m,c',rfl⟩:=tz_4 h2
  have hkz:kindZ subs[n]=k:=by
   cases hs:subs[n] with
   | mk k0 x0 n0 s0=>
    rw [hs] at h2
    unfold TzAt at h2
    obtain ⟨_,_,_,e,_⟩:=h2
    injection e with e _
    injection e with _ e
    show k0=k
    omega
  rw [fzAt_get q subs n h1,hkz]
  exact inside_at B b q k c kb kr bb ks _ _ _ (fz subs[n]) acc w0 w (fun acc W a1 a2 a3=>IH _ _ acc W (Nat.le_trans (wtZs_le subs n h1) hK) h2 a1 a2 a3) (hq k) hkl hI hA
 ·
  rw [fzAt_none q subs n h1]
  have h:=inside_at B b q 0 c kb kr bb ks (.string ⟨#[]⟩) (.int .i64 0) (.slice none 0 0) [] acc w0 w (fun acc W _ a2 a3=>term_zero B b acc W a2 a3) (hq 0) hkl hI hA
  unfold wrapZ at h
  rw [parZ_zero] at h
  exact h
theorem term_start (B b:Nat) (acc:List UInt8) (v0 v1 v2 v3:Value) (w0 w:World) (hA:WAt w0 B b acc w):
  ∃ W,(w.alloc (.cells #[.pointer (some ⟨b,0,none⟩)] 247)).alloc (.cells #[v0,v1,v2,v3] 39)=W∧Hid (WAt w0 B b acc W)∧Hid (WBox b w.heap.size (w.heap.size+1) [v0,v1,v2,v3] W)∧Hid (BKeep B b w W):=by
 have hs:w.Since w.heap.size ((w.alloc (.cells #[.pointer (some ⟨b,0,none⟩)] 247)).alloc (.cells #[v0,v1,v2,v3] 39)):=((World.Since.refl _ _).alloc (Nat.le_refl _) _).alloc (by simp) _
 have hb:=hA.is.lt
 refine ⟨_,rfl,Lib.hid (hA.up hs),Lib.hid ⟨(Go.Deep.blk_alloc_lt _ _ _ (by simp)).trans (heap_alloc_new w _),?_,by omega,by omega⟩,Lib.hid (.of hs hA.hB)⟩
 have:=heap_alloc_new (w.alloc (.cells #[.pointer (some ⟨b,0,none⟩)] 247)) (.cells #[v0,v1,v2,v3] 39)
 rw [World.size_alloc] at this
 exact this
end Go.Proofs.YthbdlnflmfchjaaGreatDoor
namespace Go.Proofs.YthbdlnflmfchjaaGreatDoor
open Go Go.Shelf
def Tryz.laysM173_ren:Go.Shelf.Ren:=⟨fun | 173=>189 | 246=>241 | 283=>288 | 284=>289 | 285=>290 | 286=>291 | 129=>317 | 317=>322 | 318=>323 | 319=>324 | 320=>325 | 337=>346 | 338=>347 | n=>n,fun | 2=>2 | 3=>3 | 9=>9 | 4=>4 | 171=>357 | 0=>0 | 53=>291 | 37=>190 | 5=>5 | 173=>360 | 212=>383 | 51=>310 | 20=>20 | 213=>384 | 46=>262 | 232=>426 | 233=>427 | n=>n,fun | 17=>5 | 18=>6 | 19=>7 | n=>n⟩
theorem Tryz.laysM173:Go.Proofs.LaysM.n173 Tryz.prog Tryz.laysM173_ren:={
 mixed:=by kernel_rfl
 f129:=Tryz.func317.trans (congrArg some (by kernel_rfl))
 f173:=Tryz.func189.trans (congrArg some (by kernel_rfl))
 f246:=Tryz.func241.trans (congrArg some (by kernel_rfl))
 f283:=Tryz.func288.trans (congrArg some (by kernel_rfl))
 f284:=Tryz.func289.trans (congrArg some (by kernel_rfl))
 f285:=Tryz.func290.trans (congrArg some (by kernel_rfl))
 f286:=Tryz.func291.trans (congrArg some (by kernel_rfl))
 f317:=Tryz.func322.trans (congrArg some (by kernel_rfl))
 f318:=Tryz.func323.trans (congrArg some (by kernel_rfl))
 f319:=Tryz.func324.trans (congrArg some (by kernel_rfl))
 f320:=Tryz.func325.trans (congrArg some (by kernel_rfl))
 f337:=Tryz.func346.trans (congrArg some (by kernel_rfl))
 f338:=Tryz.func347.trans (congrArg some (by kernel_rfl))
 t0:=Tryz.underlying0
 a0:=Tryz.isAgg0
 z0:=Tryz.sizeOf0
 v0:=Tryz.zeroValue0
 t2:=Tryz.underlying2
 a2:=Tryz.isAgg2
 z2:=Tryz.sizeOf2
 v2:=Tryz.zeroValue2
 t3:=Tryz.underlying3
 a3:=Tryz.isAgg3
 z3:=Tryz.sizeOf3
 v3:=Tryz.zeroValue3
 t4:=Tryz.underlying4
 a4:=Tryz.isAgg4
 z4:=Tryz.sizeOf4
 v4:=Tryz.zeroValue4
 t5:=Tryz.underlying5
 a5:=Tryz.isAgg5
 z5:=Tryz.sizeOf5
 v5:=Tryz.zeroValue5
 t9:=Tryz.underlying9
 a9:=Tryz.isAgg9
 z9:=Tryz.sizeOf9
 v9:=Tryz.zeroValue9
 t20:=Tryz.underlying20
 a20:=Tryz.isAgg20
 z20:=Tryz.sizeOf20
 v20:=Tryz.zeroValue20
 t37:=Tryz.underlying190
 a37:=Tryz.isAgg190
 z37:=Tryz.sizeOf190
 v37:=Tryz.zeroValue190
 t46:=Tryz.underlying262
 a46:=Tryz.isAgg262
 z46:=Tryz.sizeOf262
 v46:=Tryz.zeroValue262
 t51:=Tryz.underlying310
 a51:=Tryz.isAgg310
 z51:=Tryz.sizeOf310
 v51:=Tryz.zeroValue310
 t53:=Tryz.underlying291
 a53:=Tryz.isAgg291
 z53:=Tryz.sizeOf291
 v53:=Tryz.zeroValue291
 t171:=Tryz.underlying357
 a171:=Tryz.isAgg357
 z171:=Tryz.sizeOf357
 v171:=Tryz.zeroValue357
 t173:=Tryz.underlying360
 a173:=Tryz.isAgg360
 z173:=Tryz.sizeOf360
 v173:=Tryz.zeroValue360
 t212:=Tryz.underlying383
 a212:=Tryz.isAgg383
 z212:=Tryz.sizeOf383
 v212:=Tryz.zeroValue383
 t213:=Tryz.underlying384
 a213:=Tryz.isAgg384
 z213:=Tryz.sizeOf384
 t232:=Tryz.underlying426
 a232:=Tryz.isAgg426
 z232:=Tryz.sizeOf426
 v232:=Tryz.zeroValue426
 t233:=Tryz.underlying427
 a233:=Tryz.isAgg427
 z233:=Tryz.sizeOf427
 v233:=Tryz.zeroValue427
 g17:=by kernel_rfl
 g18:=by kernel_rfl
 g19:=by kernel_rfl
 i0:=by kernel_rfl
 i2:=by kernel_rfl
 i3:=by kernel_rfl
 i4:=by kernel_rfl
 i5:=by kernel_rfl
 i9:=by kernel_rfl
 i20:=by kernel_rfl
 i37:=by kernel_rfl
 i46:=by kernel_rfl
 i51:=by kernel_rfl
 i53:=by kernel_rfl
 i171:=by kernel_rfl
 i173:=by kernel_rfl
 i212:=by kernel_rfl
 i232:=by kernel_rfl
 i233:=by kernel_rfl
 m17:=by kernel_rfl
 m18:=by kernel_rfl
 m19:=by kernel_rfl }
end Go.Proofs.YthbdlnflmfchjaaGreatDoor
namespace Go.Proofs.YthbdlnflmfchjaaGreatDoor
open Go.RowKit Go.Proofs.Fm Go.Sort
def PowV (w : World) : Prop := Lib.TabIs Tryz.prog w "internal/strconv.uint64pow10" .u64 Lib.pow10Tab
theorem PowV.up {w w':World} (h:PowV w) (hs:w.Since w.heap.size w'):PowV w':=by
 unfold PowV Lib.TabIs World.var? at h ⊢
 rw [Tryz.laysM173.m17] at h ⊢
 rw [Option.bind_some] at h ⊢
 have hg:(w.heap[Tryz.laysM173_ren.g 17]?) ≠ none:=fun e=>by rw [e] at h;cases h
 rw [hs.block _ (by
  rcases Nat.lt_or_ge (Tryz.laysM173_ren.g 17) w.heap.size with h1 | h1
  ·
   exact h1
  ·
   exact absurd (Array.getElem?_eq_none h1) hg)]
 exact h
theorem grow_since (w:World) (k:Nat) (os:Array Obj):w.Since w.heap.size (Sort.grow (w.drewN k) os):=by
 refine ⟨rfl,rfl,rfl,?_,fun q hq=>?_⟩
 ·
  show w.heap.size≤(w.heap ++ os).size
  simp
 ·
  show (w.heap ++ os)[q]?=w.heap[q]?
  rw [Array.getElem?_append_left hq]
theorem num_form (n:Int) (hn:n64 n) (w:World) (hP:PowV w):Calls Tryz.prog 189 #[.int .i64 n,.int .i64 10] w fun e w'=>e=.returned (.string (ofBytes (Lib.itoa n)))∧w.Since w.heap.size w':=by
 refine (Any.strconv_FormatInt_10 Tryz.laysM173 n hn.1 hn.2 w hP).mono ?_
 rintro e w' ⟨h1,k,os,rfl⟩
 exact ⟨h1,grow_since w k os⟩
end Go.Proofs.YthbdlnflmfchjaaGreatDoor
namespace Go.Proofs.YthbdlnflmfchjaaGreatDoor
open Go.RowKit Go.Proofs.Fm
set_option maxHeartbeats 6400000
set_option maxRecDepth 1000000
theorem term_3 (B b K k c:Nat) (x:ByteArray) (n:Int) (G:Option Addr) (subs:List Tz) (acc:List UInt8) (w0 w:World) (IH:WTerm B b w0 K) (hT:WTm w0 K G subs) (hx:x.size≤1000000) (hA:WAt w0 B b acc w) (hk:k=3):
  Calls Tryz.prog 105 #[.pointer (some ⟨b,0,none⟩),.agg #[.int .u8 (k:Nat),.string x,.int .i64 n,.slice G subs.length c]] w (WSay B b acc (fz (.mk k x n subs)) w):=by
 obtain ⟨W,hW,A0,X0,K0⟩:=term_start B b acc (.int .u8 (k:Nat)) (.string x) (.int .i64 n) (.slice G subs.length c) w0 w hA
 have HF:Hid (fz (.mk k x n subs)=bytesOf x):=Lib.hid (by subst hk;rw [fz_mk];rfl)
 generalize fz (.mk k x n subs)=F at *
 obtain ⟨e1,t0,t1,t2,t3⟩:=X0.out.five
 have f1:((k:Int) == 1)=false:=beq_eq_false_iff_ne.2 (by omega)
 have f2:((k:Int) == 2)=false:=beq_eq_false_iff_ne.2 (by omega)
 have f3:((k:Int) == 3)=true:=beq_iff_eq.2 (by omega)
 have P1:=Lib.hid (put_new B b 1 acc [x] (bytesOf x) W (by simp [flatB];try rfl) rfl A0.out.is A0.out.hB (by simp) (by
  intro s hs
  simp only [List.mem_cons,List.not_mem_nil,or_false] at hs
  subst hs
  ·
   omega))
 clear hA hk hT IH
 go_enter Tryz.func105,Tryz.ntmps105
 go_wp2_with fail
 refine P1.out.mono ?_
 rintro r0 w1 ⟨rfl,r1,g1,g2,g3⟩
 have R1:=Lib.hid g1
 have A1:=Lib.hid (A0.out.next g3 g2)
 have K1:=Lib.hid (K0.out.trans g3)
 have X1:=Lib.hid (X0.out.up g3)
 obtain ⟨e1,t0,t1,t2,t3⟩:=X1.out.five
 clear g1 g2 g3
 go_wp2_with fail
 go_end0
 exact ⟨rfl,r1,by have h:=R1.out;rw [HF.out];exact h,A1.out.is,K1.out⟩
theorem term_4 (B b K k c:Nat) (x:ByteArray) (n:Int) (G:Option Addr) (subs:List Tz) (acc:List UInt8) (w0 w:World) (IH:WTerm B b w0 K) (hT:WTm w0 K G subs) (hx:x.size≤1000000) (hA:WAt w0 B b acc w) (hk:k=4):
  Calls Tryz.prog 105 #[.pointer (some ⟨b,0,none⟩),.agg #[.int .u8 (k:Nat),.string x,.int .i64 n,.slice G subs.length c]] w (WSay B b acc (fz (.mk k x n subs)) w):=by
 obtain ⟨W,hW,A0,X0,K0⟩:=term_start B b acc (.int .u8 (k:Nat)) (.string x) (.int .i64 n) (.slice G subs.length c) w0 w hA
 have HF:Hid (fz (.mk k x n subs)=bytesOf sSource):=Lib.hid (by subst hk;rw [fz_mk];rfl)
 generalize fz (.mk k x n subs)=F at *
 obtain ⟨e1,t0,t1,t2,t3⟩:=X0.out.five
 have f1:((k:Int) == 1)=false:=beq_eq_false_iff_ne.2 (by omega)
 have f2:((k:Int) == 2)=false:=beq_eq_false_iff_ne.2 (by omega)
 have f3:((k:Int) == 3)=false:=beq_eq_false_iff_ne.2 (by omega)
 have f4:((k:Int) == 4)=true:=beq_iff_eq.2 (by omega)
 have P1:=Lib.hid (put_new B b 1 acc [⟨#[115,111,117,114,99,101]⟩] [115,111,117,114,99,101] W rfl rfl A0.out.is A0.out.hB (by simp) (by
  intro s hs
  simp only [List.mem_cons,List.not_mem_nil,or_false] at hs
  subst hs
  ·
   exact (by decide:(⟨#[115,111,117,114,99,101]⟩:ByteArray).size≤10000000)))
 clear hA hk hT IH
 go_enter Tryz.func105,Tryz.ntmps105
 go_wp2_with fail
 refine P1.out.mono ?_
 rintro r0 w1 ⟨rfl,r1,g1,g2,g3⟩
 have R1:=Lib.hid g1
 have A1:=Lib.hid (A0.out.next g3 g2)
 have K1:=Lib.hid (K0.out.trans g3)
 have X1:=Lib.hid (X0.out.up g3)
 obtain ⟨e1,t0,t1,t2,t3⟩:=X1.out.five
 clear g1 g2 g3
 go_wp2_with fail
 go_end0
 exact ⟨rfl,r1,by have h:=R1.out;rw [HF.out];exact h,A1.out.is,K1.out⟩
theorem term_5 (B b K k c:Nat) (x:ByteArray) (n:Int) (G:Option Addr) (subs:List Tz) (acc:List UInt8) (w0 w:World) (IH:WTerm B b w0 K) (hT:WTm w0 K G subs) (hx:x.size≤1000000) (hA:WAt w0 B b acc w) (hk:k=5):
  Calls Tryz.prog 105 #[.pointer (some ⟨b,0,none⟩),.agg #[.int .u8 (k:Nat),.string x,.int .i64 n,.slice G subs.length c]] w (WSay B b acc (fz (.mk k x n subs)) w):=by
 obtain ⟨W,hW,A0,X0,K0⟩:=term_start B b acc (.int .u8 (k:Nat)) (.string x) (.int .i64 n) (.slice G subs.length c) w0 w hA
 have HF:Hid (fz (.mk k x n subs)=bytesOf sTarget):=Lib.hid (by subst hk;rw [fz_mk];rfl)
 generalize fz (.mk k x n subs)=F at *
 obtain ⟨e1,t0,t1,t2,t3⟩:=X0.out.five
 have f1:((k:Int) == 1)=false:=beq_eq_false_iff_ne.2 (by omega)
 have f2:((k:Int) == 2)=false:=beq_eq_false_iff_ne.2 (by omega)
 have f3:((k:Int) == 3)=false:=beq_eq_false_iff_ne.2 (by omega)
 have f4:((k:Int) == 4)=false:=beq_eq_false_iff_ne.2 (by omega)
 have f5:((k:Int) == 5)=true:=beq_iff_eq.2 (by omega)
 have P1:=Lib.hid (put_new B b 1 acc [⟨#[116,97,114,103,101,116]⟩] [116,97,114,103,101,116] W rfl rfl A0.out.is A0.out.hB (by simp) (by
  intro s hs
  simp only [List.mem_cons,List.not_mem_nil,or_false] at hs
  subst hs
  ·
   exact (by decide:(⟨#[116,97,114,103,101,116]⟩:ByteArray).size≤10000000)))
 clear hA hk hT IH
 go_enter Tryz.func105,Tryz.ntmps105
 go_wp2_with fail
 refine P1.out.mono ?_
 rintro r0 w1 ⟨rfl,r1,g1,g2,g3⟩
 have R1:=Lib.hid g1
 have A1:=Lib.hid (A0.out.next g3 g2)
 have K1:=Lib.hid (K0.out.trans g3)
 have X1:=Lib.hid (X0.out.up g3)
 obtain ⟨e1,t0,t1,t2,t3⟩:=X1.out.five
 clear g1 g2 g3
 go_wp2_with fail
 go_end0
 exact ⟨rfl,r1,by have h:=R1.out;rw [HF.out];exact h,A1.out.is,K1.out⟩
theorem term_6 (B b K k c:Nat) (x:ByteArray) (n:Int) (G:Option Addr) (subs:List Tz) (acc:List UInt8) (w0 w:World) (IH:WTerm B b w0 K) (hT:WTm w0 K G subs) (hx:x.size≤1000000) (hA:WAt w0 B b acc w) (hk:k=6):
  Calls Tryz.prog 105 #[.pointer (some ⟨b,0,none⟩),.agg #[.int .u8 (k:Nat),.string x,.int .i64 n,.slice G subs.length c]] w (WSay B b acc (fz (.mk k x n subs)) w):=by
 obtain ⟨W,hW,A0,X0,K0⟩:=term_start B b acc (.int .u8 (k:Nat)) (.string x) (.int .i64 n) (.slice G subs.length c) w0 w hA
 have HF:Hid (fz (.mk k x n subs)=bytesOf x ++ (40 :: (fzJoin 0 [44,32] subs ++ [41]))):=Lib.hid (by subst hk;rw [fz_mk];rfl)
 generalize fz (.mk k x n subs)=F at *
 obtain ⟨e1,t0,t1,t2,t3⟩:=X0.out.five
 have f1:((k:Int) == 1)=false:=beq_eq_false_iff_ne.2 (by omega)
 have f2:((k:Int) == 2)=false:=beq_eq_false_iff_ne.2 (by omega)
 have f3:((k:Int) == 3)=false:=beq_eq_false_iff_ne.2 (by omega)
 have f4:((k:Int) == 4)=false:=beq_eq_false_iff_ne.2 (by omega)
 have f5:((k:Int) == 5)=false:=beq_eq_false_iff_ne.2 (by omega)
 have f6:((k:Int) == 6)=true:=beq_iff_eq.2 (by omega)
 have P1:=Lib.hid (put_new B b 2 acc [x,⟨#[40]⟩] (bytesOf x ++ [40]) W (by simp [flatB];try rfl) rfl A0.out.is A0.out.hB (by simp) (by
  intro s hs
  simp only [List.mem_cons,List.not_mem_nil,or_false] at hs
  rcases hs with rfl | rfl
  ·
   omega
  ·
   exact (by decide:(⟨#[40]⟩:ByteArray).size≤10000000)))
 have KJ:=Lib.hid (fun acc w (h:WAt w0 B b acc w)=>list_term B b 0 c K ⟨#[44,32]⟩ G subs acc w0 w hT (by decide) h (fun i h k1 v1 v2 v3 acc W h1 h2 h3=>by
  rw [show wrapZ 0 (kindZ subs[i]) (fz subs[i])=fz subs[i] from wrapZ_no (parZ_0 _)]
  exact IH _ _ acc W (Nat.le_trans (wtZs_le subs i h) hT.wt) h1 h2.s h2.hB h2.is))
 clear hA hk hT IH
 go_enter Tryz.func105,Tryz.ntmps105
 go_wp2_with fail
 refine P1.out.mono ?_
 rintro r0 w1 ⟨rfl,r1,g1,g2,g3⟩
 have R1:=Lib.hid g1
 have A1:=Lib.hid (A0.out.next g3 g2)
 have K1:=Lib.hid (K0.out.trans g3)
 have X1:=Lib.hid (X0.out.up g3)
 obtain ⟨e1,t0,t1,t2,t3⟩:=X1.out.five
 clear g1 g2 g3
 have J1:=Lib.hid (KJ.out r1 w1 A1.out)
 clear KJ P1
 go_wp2_with fail
 refine J1.out.mono ?_
 rintro r0 w2 ⟨rfl,r2,g1,g2,g3⟩
 have R2:=Lib.hid (R1.out.app g1)
 have A2:=Lib.hid (A1.out.next g3 g2)
 have K2:=Lib.hid (K1.out.trans g3)
 have X2:=Lib.hid (X1.out.up g3)
 obtain ⟨e1,t0,t1,t2,t3⟩:=X2.out.five
 clear g1 g2 g3
 have P3:=Lib.hid (put_new B b 1 r2 [⟨#[41]⟩] [41] w2 rfl rfl A2.out.is A2.out.hB (by simp) (by
  intro s hs
  simp only [List.mem_cons,List.not_mem_nil,or_false] at hs
  subst hs
  ·
   exact (by decide:(⟨#[41]⟩:ByteArray).size≤10000000)))
 clear J1
 go_wp2_with fail
 refine P3.out.mono ?_
 rintro r0 w3 ⟨rfl,r3,g1,g2,g3⟩
 have R3:=Lib.hid (R2.out.app g1)
 have A3:=Lib.hid (A2.out.next g3 g2)
 have K3:=Lib.hid (K2.out.trans g3)
 have X3:=Lib.hid (X2.out.up g3)
 obtain ⟨e1,t0,t1,t2,t3⟩:=X3.out.five
 clear g1 g2 g3
 go_wp2_with fail
 go_end0
 exact ⟨rfl,r3,by have h:=R3.out;rw [HF.out];simp only [List.append_assoc] at h;exact h,A3.out.is,K3.out⟩
theorem term_11 (B b K k c:Nat) (x:ByteArray) (n:Int) (G:Option Addr) (subs:List Tz) (acc:List UInt8) (w0 w:World) (IH:WTerm B b w0 K) (hT:WTm w0 K G subs) (hx:x.size≤1000000) (hA:WAt w0 B b acc w) (hk:k=11):
  Calls Tryz.prog 105 #[.pointer (some ⟨b,0,none⟩),.agg #[.int .u8 (k:Nat),.string x,.int .i64 n,.slice G subs.length c]] w (WSay B b acc (fz (.mk k x n subs)) w):=by
 obtain ⟨W,hW,A0,X0,K0⟩:=term_start B b acc (.int .u8 (k:Nat)) (.string x) (.int .i64 n) (.slice G subs.length c) w0 w hA
 have HF:Hid (fz (.mk k x n subs)=bytesOf x ++ (40 :: (fzJoin 0 [44,32] subs ++ [41]))):=Lib.hid (by subst hk;rw [fz_mk];rfl)
 generalize fz (.mk k x n subs)=F at *
 obtain ⟨e1,t0,t1,t2,t3⟩:=X0.out.five
 have f1:((k:Int) == 1)=false:=beq_eq_false_iff_ne.2 (by omega)
 have f2:((k:Int) == 2)=false:=beq_eq_false_iff_ne.2 (by omega)
 have f3:((k:Int) == 3)=false:=beq_eq_false_iff_ne.2 (by omega)
 have f4:((k:Int) == 4)=false:=beq_eq_false_iff_ne.2 (by omega)
 have f5:((k:Int) == 5)=false:=beq_eq_false_iff_ne.2 (by omega)
 have f6:((k:Int) == 6)=false:=beq_eq_false_iff_ne.2 (by omega)
 have f11:((k:Int) == 11)=true:=beq_iff_eq.2 (by omega)
 have P1:=Lib.hid (put_new B b 2 acc [x,⟨#[40]⟩] (bytesOf x ++ [40]) W (by simp [flatB];try rfl) rfl A0.out.is A0.out.hB (by simp) (by
  intro s hs
  simp only [List.mem_cons,List.not_mem_nil,or_false] at hs
  rcases hs with rfl | rfl
  ·
   omega
  ·
   exact (by decide:(⟨#[40]⟩:ByteArray).size≤10000000)))
 have KJ:=Lib.hid (fun acc w (h:WAt w0 B b acc w)=>list_term B b 0 c K ⟨#[44,32]⟩ G subs acc w0 w hT (by decide) h (fun i h k1 v1 v2 v3 acc W h1 h2 h3=>by
  rw [show wrapZ 0 (kindZ subs[i]) (fz subs[i])=fz subs[i] from wrapZ_no (parZ_0 _)]
  exact IH _ _ acc W (Nat.le_trans (wtZs_le subs i h) hT.wt) h1 h2.s h2.hB h2.is))
 clear hA hk hT IH
 go_enter Tryz.func105,Tryz.ntmps105
 go_wp2_with fail
 refine P1.out.mono ?_
 rintro r0 w1 ⟨rfl,r1,g1,g2,g3⟩
 have R1:=Lib.hid g1
 have A1:=Lib.hid (A0.out.next g3 g2)
 have K1:=Lib.hid (K0.out.trans g3)
 have X1:=Lib.hid (X0.out.up g3)
 obtain ⟨e1,t0,t1,t2,t3⟩:=X1.out.five
 clear g1 g2 g3
 have J1:=Lib.hid (KJ.out r1 w1 A1.out)
 clear KJ P1
 go_wp2_with fail
 refine J1.out.mono ?_
 rintro r0 w2 ⟨rfl,r2,g1,g2,g3⟩
 have R2:=Lib.hid (R1.out.app g1)
 have A2:=Lib.hid (A1.out.next g3 g2)
 have K2:=Lib.hid (K1.out.trans g3)
 have X2:=Lib.hid (X1.out.up g3)
 obtain ⟨e1,t0,t1,t2,t3⟩:=X2.out.five
 clear g1 g2 g3
 have P3:=Lib.hid (put_new B b 1 r2 [⟨#[41]⟩] [41] w2 rfl rfl A2.out.is A2.out.hB (by simp) (by
  intro s hs
  simp only [List.mem_cons,List.not_mem_nil,or_false] at hs
  subst hs
  ·
   exact (by decide:(⟨#[41]⟩:ByteArray).size≤10000000)))
 clear J1
 go_wp2_with fail
 refine P3.out.mono ?_
 rintro r0 w3 ⟨rfl,r3,g1,g2,g3⟩
 have R3:=Lib.hid (R2.out.app g1)
 have A3:=Lib.hid (A2.out.next g3 g2)
 have K3:=Lib.hid (K2.out.trans g3)
 have X3:=Lib.hid (X2.out.up g3)
 obtain ⟨e1,t0,t1,t2,t3⟩:=X3.out.five
 clear g1 g2 g3
 go_wp2_with fail
 go_end0
 exact ⟨rfl,r3,by have h:=R3.out;rw [HF.out];simp only [List.append_assoc] at h;exact h,A3.out.is,K3.out⟩
theorem term_7 (B b K k c:Nat) (x:ByteArray) (n:Int) (G:Option Addr) (subs:List Tz) (acc:List UInt8) (w0 w:World) (IH:WTerm B b w0 K) (hT:WTm w0 K G subs) (hx:x.size≤1000000) (hA:WAt w0 B b acc w) (hk:k=7):
  Calls Tryz.prog 105 #[.pointer (some ⟨b,0,none⟩),.agg #[.int .u8 (k:Nat),.string x,.int .i64 n,.slice G subs.length c]] w (WSay B b acc (fz (.mk k x n subs)) w):=by
 obtain ⟨W,hW,A0,X0,K0⟩:=term_start B b acc (.int .u8 (k:Nat)) (.string x) (.int .i64 n) (.slice G subs.length c) w0 w hA
 have HF:Hid (fz (.mk k x n subs)=fzAt 0 subs 0 ++ ([32,43,32] ++ fzAt 0 subs 1)):=Lib.hid (by subst hk;rw [fz_mk];rfl)
 generalize fz (.mk k x n subs)=F at *
 obtain ⟨e1,t0,t1,t2,t3⟩:=X0.out.five
 have f1:((k:Int) == 1)=false:=beq_eq_false_iff_ne.2 (by omega)
 have f2:((k:Int) == 2)=false:=beq_eq_false_iff_ne.2 (by omega)
 have f3:((k:Int) == 3)=false:=beq_eq_false_iff_ne.2 (by omega)
 have f4:((k:Int) == 4)=false:=beq_eq_false_iff_ne.2 (by omega)
 have f5:((k:Int) == 5)=false:=beq_eq_false_iff_ne.2 (by omega)
 have f6:((k:Int) == 6)=false:=beq_eq_false_iff_ne.2 (by omega)
 have f11:((k:Int) == 11)=false:=beq_eq_false_iff_ne.2 (by omega)
 have f7:((k:Int) == 7)=true:=beq_iff_eq.2 (by omega)
 have KO:=Lib.hid (two_says B b w.heap.size (w.heap.size+1) K k c ⟨#[43]⟩ x n G subs acc w0 W IH hT (by decide) X0.out A0.out)
 clear hA hk hT IH
 go_enter Tryz.func105,Tryz.ntmps105
 go_wp2_with fail
 refine KO.out.mono ?_
 rintro r0 w1 ⟨rfl,r1,g1,g2,g3⟩
 have R1:=Lib.hid g1
 have A1:=Lib.hid (A0.out.next g3 g2)
 have K1:=Lib.hid (K0.out.trans g3)
 have X1:=Lib.hid (X0.out.up g3)
 obtain ⟨e1,t0,t1,t2,t3⟩:=X1.out.five
 clear g1 g2 g3
 go_wp2_with fail
 go_end0
 exact ⟨rfl,r1,by have h:=R1.out;rw [HF.out];exact h,A1.out.is,K1.out⟩
theorem term_8 (B b K k c:Nat) (x:ByteArray) (n:Int) (G:Option Addr) (subs:List Tz) (acc:List UInt8) (w0 w:World) (IH:WTerm B b w0 K) (hT:WTm w0 K G subs) (hx:x.size≤1000000) (hA:WAt w0 B b acc w) (hk:k=8):
  Calls Tryz.prog 105 #[.pointer (some ⟨b,0,none⟩),.agg #[.int .u8 (k:Nat),.string x,.int .i64 n,.slice G subs.length c]] w (WSay B b acc (fz (.mk k x n subs)) w):=by
 obtain ⟨W,hW,A0,X0,K0⟩:=term_start B b acc (.int .u8 (k:Nat)) (.string x) (.int .i64 n) (.slice G subs.length c) w0 w hA
 have HF:Hid (fz (.mk k x n subs)=fzAt 0 subs 0 ++ ([32,45,32] ++ fzAt 0 subs 1)):=Lib.hid (by subst hk;rw [fz_mk];rfl)
 generalize fz (.mk k x n subs)=F at *
 obtain ⟨e1,t0,t1,t2,t3⟩:=X0.out.five
 have f1:((k:Int) == 1)=false:=beq_eq_false_iff_ne.2 (by omega)
 have f2:((k:Int) == 2)=false:=beq_eq_false_iff_ne.2 (by omega)
 have f3:((k:Int) == 3)=false:=beq_eq_false_iff_ne.2 (by omega)
 have f4:((k:Int) == 4)=false:=beq_eq_false_iff_ne.2 (by omega)
 have f5:((k:Int) == 5)=false:=beq_eq_false_iff_ne.2 (by omega)
 have f6:((k:Int) == 6)=false:=beq_eq_false_iff_ne.2 (by omega)
 have f11:((k:Int) == 11)=false:=beq_eq_false_iff_ne.2 (by omega)
 have f7:((k:Int) == 7)=false:=beq_eq_false_iff_ne.2 (by omega)
 have f8:((k:Int) == 8)=true:=beq_iff_eq.2 (by omega)
 have KO:=Lib.hid (two_says B b w.heap.size (w.heap.size+1) K k c ⟨#[45]⟩ x n G subs acc w0 W IH hT (by decide) X0.out A0.out)
 clear hA hk hT IH
 go_enter Tryz.func105,Tryz.ntmps105
 go_wp2_with fail
 refine KO.out.mono ?_
 rintro r0 w1 ⟨rfl,r1,g1,g2,g3⟩
 have R1:=Lib.hid g1
 have A1:=Lib.hid (A0.out.next g3 g2)
 have K1:=Lib.hid (K0.out.trans g3)
 have X1:=Lib.hid (X0.out.up g3)
 obtain ⟨e1,t0,t1,t2,t3⟩:=X1.out.five
 clear g1 g2 g3
 go_wp2_with fail
 go_end0
 exact ⟨rfl,r1,by have h:=R1.out;rw [HF.out];exact h,A1.out.is,K1.out⟩
theorem term_9 (B b K k c:Nat) (x:ByteArray) (n:Int) (G:Option Addr) (subs:List Tz) (acc:List UInt8) (w0 w:World) (IH:WTerm B b w0 K) (hT:WTm w0 K G subs) (hx:x.size≤1000000) (hA:WAt w0 B b acc w) (hk:k=9):
  Calls Tryz.prog 105 #[.pointer (some ⟨b,0,none⟩),.agg #[.int .u8 (k:Nat),.string x,.int .i64 n,.slice G subs.length c]] w (WSay B b acc (fz (.mk k x n subs)) w):=by
 obtain ⟨W,hW,A0,X0,K0⟩:=term_start B b acc (.int .u8 (k:Nat)) (.string x) (.int .i64 n) (.slice G subs.length c) w0 w hA
 have HF:Hid (fz (.mk k x n subs)=fzAt 0 subs 0 ++ ([32,42,32] ++ fzAt 0 subs 1)):=Lib.hid (by subst hk;rw [fz_mk];rfl)
 generalize fz (.mk k x n subs)=F at *
 obtain ⟨e1,t0,t1,t2,t3⟩:=X0.out.five
 have f1:((k:Int) == 1)=false:=beq_eq_false_iff_ne.2 (by omega)
 have f2:((k:Int) == 2)=false:=beq_eq_false_iff_ne.2 (by omega)
 have f3:((k:Int) == 3)=false:=beq_eq_false_iff_ne.2 (by omega)
 have f4:((k:Int) == 4)=false:=beq_eq_false_iff_ne.2 (by omega)
 have f5:((k:Int) == 5)=false:=beq_eq_false_iff_ne.2 (by omega)
 have f6:((k:Int) == 6)=false:=beq_eq_false_iff_ne.2 (by omega)
 have f11:((k:Int) == 11)=false:=beq_eq_false_iff_ne.2 (by omega)
 have f7:((k:Int) == 7)=false:=beq_eq_false_iff_ne.2 (by omega)
 have f8:((k:Int) == 8)=false:=beq_eq_false_iff_ne.2 (by omega)
 have f9:((k:Int) == 9)=true:=beq_iff_eq.2 (by omega)
 have KO:=Lib.hid (two_says B b w.heap.size (w.heap.size+1) K k c ⟨#[42]⟩ x n G subs acc w0 W IH hT (by decide) X0.out A0.out)
 clear hA hk hT IH
 go_enter Tryz.func105,Tryz.ntmps105
 go_wp2_with fail
 refine KO.out.mono ?_
 rintro r0 w1 ⟨rfl,r1,g1,g2,g3⟩
 have R1:=Lib.hid g1
 have A1:=Lib.hid (A0.out.next g3 g2)
 have K1:=Lib.hid (K0.out.trans g3)
 have X1:=Lib.hid (X0.out.up g3)
 obtain ⟨e1,t0,t1,t2,t3⟩:=X1.out.five
 clear g1 g2 g3
 go_wp2_with fail
 go_end0
 exact ⟨rfl,r1,by have h:=R1.out;rw [HF.out];exact h,A1.out.is,K1.out⟩
theorem term_10 (B b K k c:Nat) (x:ByteArray) (n:Int) (G:Option Addr) (subs:List Tz) (acc:List UInt8) (w0 w:World) (IH:WTerm B b w0 K) (hT:WTm w0 K G subs) (hx:x.size≤1000000) (hA:WAt w0 B b acc w) (hk:k=10):
  Calls Tryz.prog 105 #[.pointer (some ⟨b,0,none⟩),.agg #[.int .u8 (k:Nat),.string x,.int .i64 n,.slice G subs.length c]] w (WSay B b acc (fz (.mk k x n subs)) w):=by
 obtain ⟨W,hW,A0,X0,K0⟩:=term_start B b acc (.int .u8 (k:Nat)) (.string x) (.int .i64 n) (.slice G subs.length c) w0 w hA
 have HF:Hid (fz (.mk k x n subs)=fzAt 0 subs 0 ++ ((32 :: (bytesOf x ++ [32])) ++ fzAt 0 subs 1)):=Lib.hid (by subst hk;rw [fz_mk];rfl)
 generalize fz (.mk k x n subs)=F at *
 obtain ⟨e1,t0,t1,t2,t3⟩:=X0.out.five
 have f1:((k:Int) == 1)=false:=beq_eq_false_iff_ne.2 (by omega)
 have f2:((k:Int) == 2)=false:=beq_eq_false_iff_ne.2 (by omega)
 have f3:((k:Int) == 3)=false:=beq_eq_false_iff_ne.2 (by omega)
 have f4:((k:Int) == 4)=false:=beq_eq_false_iff_ne.2 (by omega)
 have f5:((k:Int) == 5)=false:=beq_eq_false_iff_ne.2 (by omega)
 have f6:((k:Int) == 6)=false:=beq_eq_false_iff_ne.2 (by omega)
 have f11:((k:Int) == 11)=false:=beq_eq_false_iff_ne.2 (by omega)
 have f7:((k:Int) == 7)=false:=beq_eq_false_iff_ne.2 (by omega)
 have f8:((k:Int) == 8)=false:=beq_eq_false_iff_ne.2 (by omega)
 have f9:((k:Int) == 9)=false:=beq_eq_false_iff_ne.2 (by omega)
 have f10:((k:Int) == 10)=true:=beq_iff_eq.2 (by omega)
 have KO:=Lib.hid (two_says B b w.heap.size (w.heap.size+1) K k c x x n G subs acc w0 W IH hT hx X0.out A0.out)
 clear hA hk hT IH
 go_enter Tryz.func105,Tryz.ntmps105
 go_wp2_with fail
 refine KO.out.mono ?_
 rintro r0 w1 ⟨rfl,r1,g1,g2,g3⟩
 have R1:=Lib.hid g1
 have A1:=Lib.hid (A0.out.next g3 g2)
 have K1:=Lib.hid (K0.out.trans g3)
 have X1:=Lib.hid (X0.out.up g3)
 obtain ⟨e1,t0,t1,t2,t3⟩:=X1.out.five
 clear g1 g2 g3
 go_wp2_with fail
 go_end0
 exact ⟨rfl,r1,by have h:=R1.out;rw [HF.out];exact h,A1.out.is,K1.out⟩
theorem term_13 (B b K k c:Nat) (x:ByteArray) (n:Int) (G:Option Addr) (subs:List Tz) (acc:List UInt8) (w0 w:World) (IH:WTerm B b w0 K) (hT:WTm w0 K G subs) (hx:x.size≤1000000) (hA:WAt w0 B b acc w) (hk:k=13):
  Calls Tryz.prog 105 #[.pointer (some ⟨b,0,none⟩),.agg #[.int .u8 (k:Nat),.string x,.int .i64 n,.slice G subs.length c]] w (WSay B b acc (fz (.mk k x n subs)) w):=by
 obtain ⟨W,hW,A0,X0,K0⟩:=term_start B b acc (.int .u8 (k:Nat)) (.string x) (.int .i64 n) (.slice G subs.length c) w0 w hA
 have HF:Hid (fz (.mk k x n subs)=fzJoin 2 [32,97,110,100,32] subs):=Lib.hid (by subst hk;rw [fz_mk];rfl)
 generalize fz (.mk k x n subs)=F at *
 obtain ⟨e1,t0,t1,t2,t3⟩:=X0.out.five
 have f1:((k:Int) == 1)=false:=beq_eq_false_iff_ne.2 (by omega)
 have f2:((k:Int) == 2)=false:=beq_eq_false_iff_ne.2 (by omega)
 have f3:((k:Int) == 3)=false:=beq_eq_false_iff_ne.2 (by omega)
 have f4:((k:Int) == 4)=false:=beq_eq_false_iff_ne.2 (by omega)
 have f5:((k:Int) == 5)=false:=beq_eq_false_iff_ne.2 (by omega)
 have f6:((k:Int) == 6)=false:=beq_eq_false_iff_ne.2 (by omega)
 have f11:((k:Int) == 11)=false:=beq_eq_false_iff_ne.2 (by omega)
 have f7:((k:Int) == 7)=false:=beq_eq_false_iff_ne.2 (by omega)
 have f8:((k:Int) == 8)=false:=beq_eq_false_iff_ne.2 (by omega)
 have f9:((k:Int) == 9)=false:=beq_eq_false_iff_ne.2 (by omega)
 have f10:((k:Int) == 10)=false:=beq_eq_false_iff_ne.2 (by omega)
 have f12:((k:Int) == 12)=false:=beq_eq_false_iff_ne.2 (by omega)
 have f13:((k:Int) == 13)=true:=beq_iff_eq.2 (by omega)
 have KJ:=Lib.hid (fun kb bb kr acc w (h:WAt w0 B b acc w) (hI:IBox b kb kr bb 2 [14,13] w)=>list_in B b 2 c K kb bb ⟨#[32,97,110,100,32]⟩ G subs acc w0 w hT (by decide) h (fun i hi k1 v1 v2 v3 acc W h1 h2 h3=>by
  have hkz:kindZ subs[i]=k1:=by
   cases hs:subs[i] with
   | mk k0 x0 n0 s0=>
    rw [hs] at h1
    unfold TzAt at h1
    obtain ⟨_,_,_,e,_⟩:=h1
    injection e with e _
    injection e with _ e
    show k0=k1
    omega
  rw [hkz]
  exact inside_at B b 2 k1 2 kb kr bb [14,13] v1 v2 v3 (fz subs[i]) acc w0 W (fun acc W a1 a2 a3=>IH _ _ acc W (Nat.le_trans (wtZs_le subs i hi) hT.wt) h1 a1 a2 a3) (par_2 k1) (by decide) (hI.up h3) h2))
 have AD:=Lib.hid (A0.out.up (w':=W.drew) (World.Since.refl _ _).drew)
 have KD:=Lib.hid K0.out.drew
 have XD:=Lib.hid (X0.out.since (w':=W.drew) (World.Since.refl _ _).drew)
 have HD:=Lib.hid XD.out.five
 have HNR:Hid (W.heap.size ≠ b):=Lib.hid (Nat.ne_of_gt A0.out.is.lt)
 have SR:W.Since W.heap.size (W.alloc (kindRow [14,13])).drew:=(since_alloc W (kindRow [14,13])).drew
 have AR:=Lib.hid (A0.out.up SR)
 have KR:=Lib.hid (K0.out.trans (BKeep.of SR A0.out.hB))
 have XR:=Lib.hid (X0.out.since SR)
 have TR:Hid ((W.alloc (kindRow [14,13])).drew.heap[W.heap.size]?=some (kindRow [14,13])):=Lib.hid (heap_alloc_new W (kindRow [14,13]))
 clear SR
 obtain ⟨WR,hWR⟩:∃ WR,(W.alloc (kindRow [14,13])).drew=WR:=⟨_,rfl⟩
 rw [hWR] at AR KR XR TR
 have HR:=Lib.hid XR.out.five
 have KM:=Lib.hid (mk_inside b W.heap.size 2 [14,13] WR rfl TR.out HNR.out AR.out.is.lt)
 have hWR:(W.alloc (.cells #[.int .u8 14,.int .u8 13] 36)).drew=WR:=hWR
 clear hA hk hT IH
 go_enter Tryz.func105,Tryz.ntmps105
 go_wp2_with fail
 go_region_held3 (fun w'=>w'.cell? ⟨w.heap.size,0,none⟩=some (.pointer (some ⟨b,0,none⟩))∧w'.cell? ⟨w.heap.size+1,3,none⟩=some (.slice G subs.length c))
  (first
   | exact ⟨HD.out.1,HD.out.2.2.2.2⟩
   | (rw [hWR];exact ⟨HR.out.1,HR.out.2.2.2.2⟩)
   | exact ⟨HR.out.1,HR.out.2.2.2.2⟩
   | exact ⟨H1.out.1,H1.out.2.2.2.2⟩
   | exact ⟨H2.out.1,H2.out.2.2.2.2⟩)
  (first
   | (
    go_at_call 193;(try rw [hWR]);refine (KM.out).mono ?_;rintro r0 w1 ⟨kb,bb,rfl,hI,hs⟩;
    have A1:=Lib.hid (AR.out.up hs);
    have K1:=Lib.hid (KR.out.trans (BKeep.of hs AR.out.hB));
    have X1:=Lib.hid (XR.out.since hs);
    have H1:=Lib.hid X1.out.five;
    have KJ1:=Lib.hid (KJ.out kb bb W.heap.size acc w1 A1.out hI);clear hI hs)
   | (
    go_at_call 192;refine (KJ1.out).mono ?_;rintro r0 w2 ⟨rfl,r2,g1,g2,g3⟩;
    have R2:=Lib.hid g1;
    have A2:=Lib.hid (A1.out.next g3 g2);
    have K2:=Lib.hid (K1.out.trans g3);
    have H2:=Lib.hid (X1.out.up g3).five;clear g1 g2 g3))
 go_wp2_with fail
 go_end0
 exact ⟨rfl,r2,by have h:=R2.out;rw [HF.out];exact h,A2.out.is,K2.out⟩
theorem term_14 (B b K k c:Nat) (x:ByteArray) (n:Int) (G:Option Addr) (subs:List Tz) (acc:List UInt8) (w0 w:World) (IH:WTerm B b w0 K) (hT:WTm w0 K G subs) (hx:x.size≤1000000) (hA:WAt w0 B b acc w) (hk:k=14):
  Calls Tryz.prog 105 #[.pointer (some ⟨b,0,none⟩),.agg #[.int .u8 (k:Nat),.string x,.int .i64 n,.slice G subs.length c]] w (WSay B b acc (fz (.mk k x n subs)) w):=by
 obtain ⟨W,hW,A0,X0,K0⟩:=term_start B b acc (.int .u8 (k:Nat)) (.string x) (.int .i64 n) (.slice G subs.length c) w0 w hA
 have HF:Hid (fz (.mk k x n subs)=fzJoin 1 [32,111,114,32] subs):=Lib.hid (by subst hk;rw [fz_mk];rfl)
 generalize fz (.mk k x n subs)=F at *
 obtain ⟨e1,t0,t1,t2,t3⟩:=X0.out.five
 have f1:((k:Int) == 1)=false:=beq_eq_false_iff_ne.2 (by omega)
 have f2:((k:Int) == 2)=false:=beq_eq_false_iff_ne.2 (by omega)
 have f3:((k:Int) == 3)=false:=beq_eq_false_iff_ne.2 (by omega)
 have f4:((k:Int) == 4)=false:=beq_eq_false_iff_ne.2 (by omega)
 have f5:((k:Int) == 5)=false:=beq_eq_false_iff_ne.2 (by omega)
 have f6:((k:Int) == 6)=false:=beq_eq_false_iff_ne.2 (by omega)
 have f11:((k:Int) == 11)=false:=beq_eq_false_iff_ne.2 (by omega)
 have f7:((k:Int) == 7)=false:=beq_eq_false_iff_ne.2 (by omega)
 have f8:((k:Int) == 8)=false:=beq_eq_false_iff_ne.2 (by omega)
 have f9:((k:Int) == 9)=false:=beq_eq_false_iff_ne.2 (by omega)
 have f10:((k:Int) == 10)=false:=beq_eq_false_iff_ne.2 (by omega)
 have f12:((k:Int) == 12)=false:=beq_eq_false_iff_ne.2 (by omega)
 have f13:((k:Int) == 13)=false:=beq_eq_false_iff_ne.2 (by omega)
 have f14:((k:Int) == 14)=true:=beq_iff_eq.2 (by omega)
 have KJ:=Lib.hid (fun kb bb kr acc w (h:WAt w0 B b acc w) (hI:IBox b kb kr bb 1 [14] w)=>list_in B b 1 c K kb bb ⟨#[32,111,114,32]⟩ G subs acc w0 w hT (by decide) h (fun i hi k1 v1 v2 v3 acc W h1 h2 h3=>by
  have hkz:kindZ subs[i]=k1:=by
   cases hs:subs[i] with
   | mk k0 x0 n0 s0=>
    rw [hs] at h1
    unfold TzAt at h1
    obtain ⟨_,_,_,e,_⟩:=h1
    injection e with e _
    injection e with _ e
    show k0=k1
    omega
  rw [hkz]
  exact inside_at B b 1 k1 1 kb kr bb [14] v1 v2 v3 (fz subs[i]) acc w0 W (fun acc W a1 a2 a3=>IH _ _ acc W (Nat.le_trans (wtZs_le subs i hi) hT.wt) h1 a1 a2 a3) (par_1 k1) (by decide) (hI.up h3) h2))
 have AD:=Lib.hid (A0.out.up (w':=W.drew) (World.Since.refl _ _).drew)
 have KD:=Lib.hid K0.out.drew
 have XD:=Lib.hid (X0.out.since (w':=W.drew) (World.Since.refl _ _).drew)
 have HD:=Lib.hid XD.out.five
 have HNR:Hid (W.heap.size ≠ b):=Lib.hid (Nat.ne_of_gt A0.out.is.lt)
 have SR:W.Since W.heap.size (W.alloc (kindRow [14])).drew:=(since_alloc W (kindRow [14])).drew
 have AR:=Lib.hid (A0.out.up SR)
 have KR:=Lib.hid (K0.out.trans (BKeep.of SR A0.out.hB))
 have XR:=Lib.hid (X0.out.since SR)
 have TR:Hid ((W.alloc (kindRow [14])).drew.heap[W.heap.size]?=some (kindRow [14])):=Lib.hid (heap_alloc_new W (kindRow [14]))
 clear SR
 obtain ⟨WR,hWR⟩:∃ WR,(W.alloc (kindRow [14])).drew=WR:=⟨_,rfl⟩
 rw [hWR] at AR KR XR TR
 have HR:=Lib.hid XR.out.five
 have KM:=Lib.hid (mk_inside b W.heap.size 1 [14] WR rfl TR.out HNR.out AR.out.is.lt)
 have hWR:(W.alloc (.cells #[.int .u8 14] 36)).drew=WR:=hWR
 clear hA hk hT IH
 go_enter Tryz.func105,Tryz.ntmps105
 go_wp2_with fail
 go_region_held3 (fun w'=>w'.cell? ⟨w.heap.size,0,none⟩=some (.pointer (some ⟨b,0,none⟩))∧w'.cell? ⟨w.heap.size+1,3,none⟩=some (.slice G subs.length c))
  (first
   | exact ⟨HD.out.1,HD.out.2.2.2.2⟩
   | (rw [hWR];exact ⟨HR.out.1,HR.out.2.2.2.2⟩)
   | exact ⟨HR.out.1,HR.out.2.2.2.2⟩
   | exact ⟨H1.out.1,H1.out.2.2.2.2⟩
   | exact ⟨H2.out.1,H2.out.2.2.2.2⟩)
  (first
   | (
    go_at_call 193;(try rw [hWR]);refine (KM.out).mono ?_;rintro r0 w1 ⟨kb,bb,rfl,hI,hs⟩;
    have A1:=Lib.hid (AR.out.up hs);
    have K1:=Lib.hid (KR.out.trans (BKeep.of hs AR.out.hB));
    have X1:=Lib.hid (XR.out.since hs);
    have H1:=Lib.hid X1.out.five;
    have KJ1:=Lib.hid (KJ.out kb bb W.heap.size acc w1 A1.out hI);clear hI hs)
   | (
    go_at_call 192;refine (KJ1.out).mono ?_;rintro r0 w2 ⟨rfl,r2,g1,g2,g3⟩;
    have R2:=Lib.hid g1;
    have A2:=Lib.hid (A1.out.next g3 g2);
    have K2:=Lib.hid (K1.out.trans g3);
    have H2:=Lib.hid (X1.out.up g3).five;clear g1 g2 g3))
 go_wp2_with fail
 go_end0
 exact ⟨rfl,r2,by have h:=R2.out;rw [HF.out];exact h,A2.out.is,K2.out⟩
end Go.Proofs.YthbdlnflmfchjaaGreatDoor
namespace Go.Proofs.YthbdlnflmfchjaaGreatDoor
open Go.RowKit Go.Proofs.Fm
set_option maxHeartbeats 6400000
set_option maxRecDepth 1000000
theorem term_12 (B b K k c:Nat) (x:ByteArray) (n:Int) (G:Option Addr) (subs:List Tz) (acc:List UInt8) (w0 w:World) (IH:WTerm B b w0 K) (hT:WTm w0 K G subs) (hx:x.size≤1000000) (hA:WAt w0 B b acc w) (hk:k=12):
  Calls Tryz.prog 105 #[.pointer (some ⟨b,0,none⟩),.agg #[.int .u8 (k:Nat),.string x,.int .i64 n,.slice G subs.length c]] w (WSay B b acc (fz (.mk k x n subs)) w):=by
 obtain ⟨W,hW,A0,X0,K0⟩:=term_start B b acc (.int .u8 (k:Nat)) (.string x) (.int .i64 n) (.slice G subs.length c) w0 w hA
 have HF:Hid (fz (.mk k x n subs)=[110,111,116,32] ++ fzAt 2 subs 0):=Lib.hid (by subst hk;rw [fz_mk];rfl)
 generalize fz (.mk k x n subs)=F at *
 obtain ⟨e1,t0,t1,t2,t3⟩:=X0.out.five
 have f1:((k:Int) == 1)=false:=beq_eq_false_iff_ne.2 (by omega)
 have f2:((k:Int) == 2)=false:=beq_eq_false_iff_ne.2 (by omega)
 have f3:((k:Int) == 3)=false:=beq_eq_false_iff_ne.2 (by omega)
 have f4:((k:Int) == 4)=false:=beq_eq_false_iff_ne.2 (by omega)
 have f5:((k:Int) == 5)=false:=beq_eq_false_iff_ne.2 (by omega)
 have f6:((k:Int) == 6)=false:=beq_eq_false_iff_ne.2 (by omega)
 have f11:((k:Int) == 11)=false:=beq_eq_false_iff_ne.2 (by omega)
 have f7:((k:Int) == 7)=false:=beq_eq_false_iff_ne.2 (by omega)
 have f8:((k:Int) == 8)=false:=beq_eq_false_iff_ne.2 (by omega)
 have f9:((k:Int) == 9)=false:=beq_eq_false_iff_ne.2 (by omega)
 have f10:((k:Int) == 10)=false:=beq_eq_false_iff_ne.2 (by omega)
 have f12:((k:Int) == 12)=true:=beq_iff_eq.2 (by omega)
 obtain ⟨us,hr,hs⟩:=hT.us
 have hwt:=hT.wt
 have hlen:=hT.len
 have KSB:=Lib.hid (fun (i:Nat) W (hi:i≤10) (h0:w0.Since w0.heap.size W)=>sub_says subs us G c k x n i w0 W h0 hr hs hi hlen)
 have KIB:=Lib.hid (fun (i:Nat) ds kb bb kr acc V (hd:SubAt w0 subs i ds) (hI:IBox b kb kr bb 2 [14,13] V) (h:WAt w0 B b acc V)=>sub_inside (q:=2) IH hwt hd par_2 (by decide) acc V hI h)
 have KTB:=Lib.hid (fun (i:Nat) ds acc W (hd:SubAt w0 subs i ds) (h:WAt w0 B b acc W)=>sub_term IH hwt hd acc W h.s h.hB h.is)
 clear hr hs hwt hlen
 have P1:=Lib.hid (put_new B b 1 acc [⟨#[110,111,116,32]⟩] [110,111,116,32] W rfl rfl A0.out.is A0.out.hB (by simp) (by
  intro s hs
  simp only [List.mem_cons,List.not_mem_nil,or_false] at hs
  subst hs
  ·
   exact (by decide:(⟨#[110,111,116,32]⟩:ByteArray).size≤10000000)))
 clear hA hk hT IH
 go_enter Tryz.func105,Tryz.ntmps105
 go_wp2_with fail
 refine P1.out.mono ?_
 rintro r0 w1 ⟨rfl,r1,g1,g2,g3⟩
 have R1:=Lib.hid g1
 have A1:=Lib.hid (A0.out.next g3 g2)
 have K1:=Lib.hid (K0.out.trans g3)
 have X1:=Lib.hid (X0.out.up g3)
 obtain ⟨e1,t0,t1,t2,t3⟩:=X1.out.five
 clear g1 g2 g3
 clear P1 t0 t1 t2 t3 e1 KTB
 go_wp2_with fail
 have S0:Hid (w1.Since w1.heap.size w1.drew):=Lib.hid (World.Since.refl _ _).drew
 have H0:=Lib.hid (X1.out.since S0.out).five
 have SR:Hid (w1.Since w1.heap.size (w1.alloc (kindRow [14,13])).drew):=Lib.hid (since_alloc w1 (kindRow [14,13])).drew
 have TR:Hid ((w1.alloc (kindRow [14,13])).drew.heap[w1.heap.size]?=some (kindRow [14,13])):=Lib.hid (heap_alloc_new w1 (kindRow [14,13]))
 have HNR:Hid (w1.heap.size ≠ b):=Lib.hid (Nat.ne_of_gt A1.out.is.lt)
 obtain ⟨WR,hWR⟩:∃ WR,(w1.alloc (kindRow [14,13])).drew=WR:=⟨_,rfl⟩
 rw [hWR] at SR TR
 have HR:=Lib.hid (X1.out.since SR.out).five
 have hWR:(w1.alloc (.cells #[.int .u8 14,.int .u8 13] 36)).drew=WR:=hWR
 have KS:=Lib.hid (fun V (h:w1.Since w1.heap.size V)=>KSB.out 0 V (by omega) (since_t A1.out.s h))
 have KM:=Lib.hid (fun kr V (h:w1.Since w1.heap.size V) (hr:V.heap[kr]?=some (kindRow [14,13])) (hn:kr ≠ b)=>mk_inside b kr 2 [14,13] V rfl hr hn (Nat.lt_of_lt_of_le A1.out.is.lt h.size))
 have KI:=Lib.hid (fun ds kb bb kr V (hd:SubAt w0 subs 0 ds) (hI:IBox b kb kr bb 2 [14,13] V) (h:w1.Since w1.heap.size V)=>KIB.out 0 ds kb bb kr r1 V hd hI (A1.out.up h))
 have KMR:=Lib.hid (KM.out w1.heap.size WR SR.out TR.out HNR.out)
 go_region_held3 (fun w'=>w'.cell? ⟨w.heap.size,0,none⟩=some (.pointer (some ⟨b,0,none⟩))∧w'.cell? ⟨w.heap.size+1,0,none⟩=some (.int .u8 (k:Nat))∧w'.cell? ⟨w.heap.size+1,1,none⟩=some (.string x)∧w'.cell? ⟨w.heap.size+1,2,none⟩=some (.int .i64 n)∧w'.cell? ⟨w.heap.size+1,3,none⟩=some (.slice G subs.length c))
  (first
   | exact H0.out
   | (rw [hWR];exact HR.out)
   | exact HR.out
   | exact HP.out
   | exact HQ.out
   | exact HV.out)
  (first
   | (
    go_at_call 193;(try rw [hWR]);refine (KMR.out).mono ?_;rintro r0 wp ⟨kb,bb,rfl,hI,hs⟩;
    have SP:=Lib.hid (since_t SR.out hs);
    have HP:=Lib.hid (X1.out.since SP.out).five;
    have KSP:=Lib.hid (KS.out wp SP.out);
    have KIP:=Lib.hid (fun ds V (hd:SubAt w0 subs 0 ds) (h:wp.Since wp.heap.size V)=>KI.out ds kb bb _ V hd (hI.since h) (since_t SP.out h));clear hI hs)
   | (
    go_at_call 187;refine (KSP.out).mono ?_;rintro r0 wq ⟨ds,rfl,hd,hs⟩;
    have HQ:=Lib.hid (X1.out.since (since_t SP.out hs)).five;
    have KF:=Lib.hid (KIP.out ds wq hd hs);
    have KV:=Lib.hid (BKeep.of (b:=b) (since_t SP.out hs) A1.out.hB);clear hd hs)
   | (
    go_at_call 187;(try rw [hWR]);refine (KS.out _ SR.out).mono ?_;rintro r0 wp ⟨ds,rfl,hd,hs⟩;
    have SP:=Lib.hid (since_t SR.out hs);
    have HP:=Lib.hid (X1.out.since SP.out).five;
    have KMP:=Lib.hid (KM.out w1.heap.size wp SP.out ((hs.block _ (blk_lt TR.out)).trans TR.out) HNR.out);
    have KIP:=Lib.hid (fun kb bb V (hI:IBox b kb w1.heap.size bb 2 [14,13] V) (h:wp.Since wp.heap.size V)=>KI.out ds kb bb _ V hd hI (since_t SP.out h));clear hd hs)
   | (
    go_at_call 187;refine (KS.out _ S0.out).mono ?_;rintro r0 wv ⟨ds,rfl,hd,hs⟩;
    have SV:=Lib.hid (since_t S0.out hs);
    have HV:=Lib.hid (X1.out.since SV.out).five;
    have SP:=Lib.hid (since_t SV.out (since_alloc wv (kindRow [14,13])));
    have HP:=Lib.hid (X1.out.since SP.out).five;
    have KMP:=Lib.hid (KM.out wv.heap.size (wv.alloc (kindRow [14,13])) SP.out (heap_alloc_new _ _) (Nat.ne_of_gt (Nat.lt_of_lt_of_le A1.out.is.lt SV.out.size)));
    have KIP:=Lib.hid (fun kb bb V (hI:IBox b kb wv.heap.size bb 2 [14,13] V) (h:(wv.alloc (kindRow [14,13])).Since (wv.alloc (kindRow [14,13])).heap.size V)=>KI.out ds kb bb _ V hd hI (since_t SP.out h));clear hd hs)
   | (
    go_at_call 193;refine (KMP.out).mono ?_;rintro r0 wq ⟨kb,bb,rfl,hI,hs⟩;
    have HQ:=Lib.hid (X1.out.since (since_t SP.out hs)).five;
    have KF:=Lib.hid (KIP.out kb bb wq hI hs);
    have KV:=Lib.hid (BKeep.of (b:=b) (since_t SP.out hs) A1.out.hB);clear hI hs)
   | (
    go_at_call 244;refine (KF.out).mono ?_;rintro r0 wz ⟨rfl,r2,g1,g2,g3⟩;
    have R2:=Lib.hid (R1.out.app g1);
    have H2:=Lib.hid (And.intro g2 (K1.out.trans (KV.out.trans g3)));
    have HV:=Lib.hid (X1.out.up (KV.out.trans g3)).five;clear g1 g2 g3))
 all_goals
  go_wp2_with fail
  go_end0
  exact ⟨rfl,r2,by have h:=R2.out;rw [HF.out];(try simp only [List.append_assoc] at h);exact h,H2.out.1,H2.out.2⟩
theorem term_15 (B b K k c:Nat) (x:ByteArray) (n:Int) (G:Option Addr) (subs:List Tz) (acc:List UInt8) (w0 w:World) (IH:WTerm B b w0 K) (hT:WTm w0 K G subs) (hx:x.size≤1000000) (hA:WAt w0 B b acc w) (hk:k=15):
  Calls Tryz.prog 105 #[.pointer (some ⟨b,0,none⟩),.agg #[.int .u8 (k:Nat),.string x,.int .i64 n,.slice G subs.length c]] w (WSay B b acc (fz (.mk k x n subs)) w):=by
 obtain ⟨W,hW,A0,X0,K0⟩:=term_start B b acc (.int .u8 (k:Nat)) (.string x) (.int .i64 n) (.slice G subs.length c) w0 w hA
 have HF:Hid (fz (.mk k x n subs)=[97,108,108,32] ++ (bytesOf x ++ ([32,105,110,32] ++ (fzAt 0 subs 0 ++ ([58,32] ++ fzAt 2 subs 1))))):=Lib.hid (by subst hk;rw [fz_mk];rfl)
 generalize fz (.mk k x n subs)=F at *
 obtain ⟨e1,t0,t1,t2,t3⟩:=X0.out.five
 have f1:((k:Int) == 1)=false:=beq_eq_false_iff_ne.2 (by omega)
 have f2:((k:Int) == 2)=false:=beq_eq_false_iff_ne.2 (by omega)
 have f3:((k:Int) == 3)=false:=beq_eq_false_iff_ne.2 (by omega)
 have f4:((k:Int) == 4)=false:=beq_eq_false_iff_ne.2 (by omega)
 have f5:((k:Int) == 5)=false:=beq_eq_false_iff_ne.2 (by omega)
 have f6:((k:Int) == 6)=false:=beq_eq_false_iff_ne.2 (by omega)
 have f11:((k:Int) == 11)=false:=beq_eq_false_iff_ne.2 (by omega)
 have f7:((k:Int) == 7)=false:=beq_eq_false_iff_ne.2 (by omega)
 have f8:((k:Int) == 8)=false:=beq_eq_false_iff_ne.2 (by omega)
 have f9:((k:Int) == 9)=false:=beq_eq_false_iff_ne.2 (by omega)
 have f10:((k:Int) == 10)=false:=beq_eq_false_iff_ne.2 (by omega)
 have f12:((k:Int) == 12)=false:=beq_eq_false_iff_ne.2 (by omega)
 have f13:((k:Int) == 13)=false:=beq_eq_false_iff_ne.2 (by omega)
 have f14:((k:Int) == 14)=false:=beq_eq_false_iff_ne.2 (by omega)
 have f15:((k:Int) == 15)=true:=beq_iff_eq.2 (by omega)
 have f16:((k:Int) == 16)=false:=beq_eq_false_iff_ne.2 (by omega)
 obtain ⟨us,hr,hs⟩:=hT.us
 have hwt:=hT.wt
 have hlen:=hT.len
 have KSB:=Lib.hid (fun (i:Nat) W (hi:i≤10) (h0:w0.Since w0.heap.size W)=>sub_says subs us G c k x n i w0 W h0 hr hs hi hlen)
 have KIB:=Lib.hid (fun (i:Nat) ds kb bb kr acc V (hd:SubAt w0 subs i ds) (hI:IBox b kb kr bb 2 [14,13] V) (h:WAt w0 B b acc V)=>sub_inside (q:=2) IH hwt hd par_2 (by decide) acc V hI h)
 have KTB:=Lib.hid (fun (i:Nat) ds acc W (hd:SubAt w0 subs i ds) (h:WAt w0 B b acc W)=>sub_term IH hwt hd acc W h.s h.hB h.is)
 clear hr hs hwt hlen
 have P1:=Lib.hid (put_new B b 3 acc [⟨#[97,108,108,32]⟩,x,⟨#[32,105,110,32]⟩] ([97,108,108,32] ++ (bytesOf x ++ [32,105,110,32])) W (by simp [flatB];try rfl) rfl A0.out.is A0.out.hB (by simp) (by
  intro s hs
  simp only [List.mem_cons,List.not_mem_nil,or_false] at hs
  rcases hs with rfl | rfl | rfl
  ·
   exact (by decide:(⟨#[97,108,108,32]⟩:ByteArray).size≤10000000)
  ·
   omega
  ·
   exact (by decide:(⟨#[32,105,110,32]⟩:ByteArray).size≤10000000)))
 clear hA hk hT IH
 go_enter Tryz.func105,Tryz.ntmps105
 go_wp2_with fail
 refine P1.out.mono ?_
 rintro r0 w1 ⟨rfl,r1,g1,g2,g3⟩
 have R1:=Lib.hid g1
 have A1:=Lib.hid (A0.out.next g3 g2)
 have K1:=Lib.hid (K0.out.trans g3)
 have X1:=Lib.hid (X0.out.up g3)
 obtain ⟨e1,t0,t1,t2,t3⟩:=X1.out.five
 clear g1 g2 g3
 clear P1 t0 t1 t2 t3 e1
 go_wp2_with fail
 have S0:Hid (w1.Since w1.heap.size w1.drew):=Lib.hid (World.Since.refl _ _).drew
 have AD:=Lib.hid (A1.out.up S0.out)
 have XD:=Lib.hid (X1.out.since S0.out)
 have H0:=Lib.hid XD.out.five
 have KS0:=Lib.hid (KSB.out 0 w1.drew (by omega) AD.out.s)
 go_region_held3 (fun w'=>w'.cell? ⟨w.heap.size,0,none⟩=some (.pointer (some ⟨b,0,none⟩))∧w'.cell? ⟨w.heap.size+1,0,none⟩=some (.int .u8 (k:Nat))∧w'.cell? ⟨w.heap.size+1,1,none⟩=some (.string x)∧w'.cell? ⟨w.heap.size+1,2,none⟩=some (.int .i64 n)∧w'.cell? ⟨w.heap.size+1,3,none⟩=some (.slice G subs.length c))
  (first
   | exact H0.out
   | exact HP.out
   | exact HQ.out)
  (first
   | (
    go_at_call 187;refine (KS0.out).mono ?_;rintro r0 wp ⟨ds,rfl,hd,hs⟩;
    have AP:=Lib.hid (AD.out.up hs);
    have KP:=Lib.hid (K1.out.trans (BKeep.of (b:=b) (since_t S0.out hs) A1.out.hB));
    have XP:=Lib.hid (XD.out.since hs);
    have HP:=Lib.hid XP.out.five;
    have KT2:=Lib.hid (KTB.out 0 ds r1 wp hd AP.out);clear hd hs)
   | (
    go_at_call 105;refine (KT2.out).mono ?_;rintro r0 w2 ⟨rfl,r2,g1,g2,g3⟩;
    have R2:=Lib.hid (R1.out.app g1);
    have A2:=Lib.hid (AP.out.next g3 g2);
    have K2:=Lib.hid (KP.out.trans g3);
    have X2:=Lib.hid (XP.out.up g3);
    have HQ:=Lib.hid X2.out.five;clear g1 g2 g3))
 clear KS0 KT2 AD XD AP XP
 obtain ⟨e1,t0,t1,t2,t3⟩:=X2.out.five
 go_wp2_with fail
 have P3:=Lib.hid (put_new B b 1 r2 [⟨#[58,32]⟩] [58,32] w2 rfl rfl A2.out.is A2.out.hB (by simp) (by
  intro s hs
  simp only [List.mem_cons,List.not_mem_nil,or_false] at hs
  subst hs
  ·
   exact (by decide:(⟨#[58,32]⟩:ByteArray).size≤10000000)))
 refine P3.out.mono ?_
 rintro r0 w3 ⟨rfl,r3,g1,g2,g3⟩
 have R3:=Lib.hid (R2.out.app g1)
 have A3:=Lib.hid (A2.out.next g3 g2)
 have K3:=Lib.hid (K2.out.trans g3)
 have X3:=Lib.hid (X2.out.up g3)
 obtain ⟨e1,t0,t1,t2,t3⟩:=X3.out.five
 clear g1 g2 g3
 clear P3 t0 t1 t2 t3 e1 KTB
 go_wp2_with fail
 have S0:Hid (w3.Since w3.heap.size w3.drew):=Lib.hid (World.Since.refl _ _).drew
 have H0:=Lib.hid (X3.out.since S0.out).five
 have SR:Hid (w3.Since w3.heap.size (w3.alloc (kindRow [14,13])).drew):=Lib.hid (since_alloc w3 (kindRow [14,13])).drew
 have TR:Hid ((w3.alloc (kindRow [14,13])).drew.heap[w3.heap.size]?=some (kindRow [14,13])):=Lib.hid (heap_alloc_new w3 (kindRow [14,13]))
 have HNR:Hid (w3.heap.size ≠ b):=Lib.hid (Nat.ne_of_gt A3.out.is.lt)
 obtain ⟨WR,hWR⟩:∃ WR,(w3.alloc (kindRow [14,13])).drew=WR:=⟨_,rfl⟩
 rw [hWR] at SR TR
 have HR:=Lib.hid (X3.out.since SR.out).five
 have hWR:(w3.alloc (.cells #[.int .u8 14,.int .u8 13] 36)).drew=WR:=hWR
 have KS:=Lib.hid (fun V (h:w3.Since w3.heap.size V)=>KSB.out 1 V (by omega) (since_t A3.out.s h))
 have KM:=Lib.hid (fun kr V (h:w3.Since w3.heap.size V) (hr:V.heap[kr]?=some (kindRow [14,13])) (hn:kr ≠ b)=>mk_inside b kr 2 [14,13] V rfl hr hn (Nat.lt_of_lt_of_le A3.out.is.lt h.size))
 have KI:=Lib.hid (fun ds kb bb kr V (hd:SubAt w0 subs 1 ds) (hI:IBox b kb kr bb 2 [14,13] V) (h:w3.Since w3.heap.size V)=>KIB.out 1 ds kb bb kr r3 V hd hI (A3.out.up h))
 have KMR:=Lib.hid (KM.out w3.heap.size WR SR.out TR.out HNR.out)
 go_region_held3 (fun w'=>w'.cell? ⟨w.heap.size,0,none⟩=some (.pointer (some ⟨b,0,none⟩))∧w'.cell? ⟨w.heap.size+1,0,none⟩=some (.int .u8 (k:Nat))∧w'.cell? ⟨w.heap.size+1,1,none⟩=some (.string x)∧w'.cell? ⟨w.heap.size+1,2,none⟩=some (.int .i64 n)∧w'.cell? ⟨w.heap.size+1,3,none⟩=some (.slice G subs.length c))
  (first
   | exact H0.out
   | (rw [hWR];exact HR.out)
   | exact HR.out
   | exact HP.out
   | exact HQ.out
   | exact HV.out)
  (first
   | (
    go_at_call 193;(try rw [hWR]);refine (KMR.out).mono ?_;rintro r0 wp ⟨kb,bb,rfl,hI,hs⟩;
    have SP:=Lib.hid (since_t SR.out hs);
    have HP:=Lib.hid (X3.out.since SP.out).five;
    have KSP:=Lib.hid (KS.out wp SP.out);
    have KIP:=Lib.hid (fun ds V (hd:SubAt w0 subs 1 ds) (h:wp.Since wp.heap.size V)=>KI.out ds kb bb _ V hd (hI.since h) (since_t SP.out h));clear hI hs)
   | (
    go_at_call 187;refine (KSP.out).mono ?_;rintro r0 wq ⟨ds,rfl,hd,hs⟩;
    have HQ:=Lib.hid (X3.out.since (since_t SP.out hs)).five;
    have KF:=Lib.hid (KIP.out ds wq hd hs);
    have KV:=Lib.hid (BKeep.of (b:=b) (since_t SP.out hs) A3.out.hB);clear hd hs)
   | (
    go_at_call 187;(try rw [hWR]);refine (KS.out _ SR.out).mono ?_;rintro r0 wp ⟨ds,rfl,hd,hs⟩;
    have SP:=Lib.hid (since_t SR.out hs);
    have HP:=Lib.hid (X3.out.since SP.out).five;
    have KMP:=Lib.hid (KM.out w3.heap.size wp SP.out ((hs.block _ (blk_lt TR.out)).trans TR.out) HNR.out);
    have KIP:=Lib.hid (fun kb bb V (hI:IBox b kb w3.heap.size bb 2 [14,13] V) (h:wp.Since wp.heap.size V)=>KI.out ds kb bb _ V hd hI (since_t SP.out h));clear hd hs)
   | (
    go_at_call 187;refine (KS.out _ S0.out).mono ?_;rintro r0 wv ⟨ds,rfl,hd,hs⟩;
    have SV:=Lib.hid (since_t S0.out hs);
    have HV:=Lib.hid (X3.out.since SV.out).five;
    have SP:=Lib.hid (since_t SV.out (since_alloc wv (kindRow [14,13])));
    have HP:=Lib.hid (X3.out.since SP.out).five;
    have KMP:=Lib.hid (KM.out wv.heap.size (wv.alloc (kindRow [14,13])) SP.out (heap_alloc_new _ _) (Nat.ne_of_gt (Nat.lt_of_lt_of_le A3.out.is.lt SV.out.size)));
    have KIP:=Lib.hid (fun kb bb V (hI:IBox b kb wv.heap.size bb 2 [14,13] V) (h:(wv.alloc (kindRow [14,13])).Since (wv.alloc (kindRow [14,13])).heap.size V)=>KI.out ds kb bb _ V hd hI (since_t SP.out h));clear hd hs)
   | (
    go_at_call 193;refine (KMP.out).mono ?_;rintro r0 wq ⟨kb,bb,rfl,hI,hs⟩;
    have HQ:=Lib.hid (X3.out.since (since_t SP.out hs)).five;
    have KF:=Lib.hid (KIP.out kb bb wq hI hs);
    have KV:=Lib.hid (BKeep.of (b:=b) (since_t SP.out hs) A3.out.hB);clear hI hs)
   | (
    go_at_call 244;refine (KF.out).mono ?_;rintro r0 wz ⟨rfl,r4,g1,g2,g3⟩;
    have R4:=Lib.hid (R3.out.app g1);
    have H4:=Lib.hid (And.intro g2 (K3.out.trans (KV.out.trans g3)));
    have HV:=Lib.hid (X3.out.up (KV.out.trans g3)).five;clear g1 g2 g3))
 all_goals
  go_wp2_with fail
  go_end0
  exact ⟨rfl,r4,by have h:=R4.out;rw [HF.out];(try simp only [List.append_assoc] at h);exact h,H4.out.1,H4.out.2⟩
theorem term_16 (B b K k c:Nat) (x:ByteArray) (n:Int) (G:Option Addr) (subs:List Tz) (acc:List UInt8) (w0 w:World) (IH:WTerm B b w0 K) (hT:WTm w0 K G subs) (hx:x.size≤1000000) (hA:WAt w0 B b acc w) (hk:k=16):
  Calls Tryz.prog 105 #[.pointer (some ⟨b,0,none⟩),.agg #[.int .u8 (k:Nat),.string x,.int .i64 n,.slice G subs.length c]] w (WSay B b acc (fz (.mk k x n subs)) w):=by
 obtain ⟨W,hW,A0,X0,K0⟩:=term_start B b acc (.int .u8 (k:Nat)) (.string x) (.int .i64 n) (.slice G subs.length c) w0 w hA
 have HF:Hid (fz (.mk k x n subs)=[97,110,121,32] ++ (bytesOf x ++ ([32,105,110,32] ++ (fzAt 0 subs 0 ++ ([58,32] ++ fzAt 2 subs 1))))):=Lib.hid (by subst hk;rw [fz_mk];rfl)
 generalize fz (.mk k x n subs)=F at *
 obtain ⟨e1,t0,t1,t2,t3⟩:=X0.out.five
 have f1:((k:Int) == 1)=false:=beq_eq_false_iff_ne.2 (by omega)
 have f2:((k:Int) == 2)=false:=beq_eq_false_iff_ne.2 (by omega)
 have f3:((k:Int) == 3)=false:=beq_eq_false_iff_ne.2 (by omega)
 have f4:((k:Int) == 4)=false:=beq_eq_false_iff_ne.2 (by omega)
 have f5:((k:Int) == 5)=false:=beq_eq_false_iff_ne.2 (by omega)
 have f6:((k:Int) == 6)=false:=beq_eq_false_iff_ne.2 (by omega)
 have f11:((k:Int) == 11)=false:=beq_eq_false_iff_ne.2 (by omega)
 have f7:((k:Int) == 7)=false:=beq_eq_false_iff_ne.2 (by omega)
 have f8:((k:Int) == 8)=false:=beq_eq_false_iff_ne.2 (by omega)
 have f9:((k:Int) == 9)=false:=beq_eq_false_iff_ne.2 (by omega)
 have f10:((k:Int) == 10)=false:=beq_eq_false_iff_ne.2 (by omega)
 have f12:((k:Int) == 12)=false:=beq_eq_false_iff_ne.2 (by omega)
 have f13:((k:Int) == 13)=false:=beq_eq_false_iff_ne.2 (by omega)
 have f14:((k:Int) == 14)=false:=beq_eq_false_iff_ne.2 (by omega)
 have f15:((k:Int) == 15)=false:=beq_eq_false_iff_ne.2 (by omega)
 have f16:((k:Int) == 16)=true:=beq_iff_eq.2 (by omega)
 obtain ⟨us,hr,hs⟩:=hT.us
 have hwt:=hT.wt
 have hlen:=hT.len
 have KSB:=Lib.hid (fun (i:Nat) W (hi:i≤10) (h0:w0.Since w0.heap.size W)=>sub_says subs us G c k x n i w0 W h0 hr hs hi hlen)
 have KIB:=Lib.hid (fun (i:Nat) ds kb bb kr acc V (hd:SubAt w0 subs i ds) (hI:IBox b kb kr bb 2 [14,13] V) (h:WAt w0 B b acc V)=>sub_inside (q:=2) IH hwt hd par_2 (by decide) acc V hI h)
 have KTB:=Lib.hid (fun (i:Nat) ds acc W (hd:SubAt w0 subs i ds) (h:WAt w0 B b acc W)=>sub_term IH hwt hd acc W h.s h.hB h.is)
 clear hr hs hwt hlen
 have P1:=Lib.hid (put_new B b 3 acc [⟨#[97,110,121,32]⟩,x,⟨#[32,105,110,32]⟩] ([97,110,121,32] ++ (bytesOf x ++ [32,105,110,32])) W (by simp [flatB];try rfl) rfl A0.out.is A0.out.hB (by simp) (by
  intro s hs
  simp only [List.mem_cons,List.not_mem_nil,or_false] at hs
  rcases hs with rfl | rfl | rfl
  ·
   exact (by decide:(⟨#[97,110,121,32]⟩:ByteArray).size≤10000000)
  ·
   omega
  ·
   exact (by decide:(⟨#[32,105,110,32]⟩:ByteArray).size≤10000000)))
 clear hA hk hT IH
 go_enter Tryz.func105,Tryz.ntmps105
 go_wp2_with fail
 refine P1.out.mono ?_
 rintro r0 w1 ⟨rfl,r1,g1,g2,g3⟩
 have R1:=Lib.hid g1
 have A1:=Lib.hid (A0.out.next g3 g2)
 have K1:=Lib.hid (K0.out.trans g3)
 have X1:=Lib.hid (X0.out.up g3)
 obtain ⟨e1,t0,t1,t2,t3⟩:=X1.out.five
 clear g1 g2 g3
 clear P1 t0 t1 t2 t3 e1
 go_wp2_with fail
 have S0:Hid (w1.Since w1.heap.size w1.drew):=Lib.hid (World.Since.refl _ _).drew
 have AD:=Lib.hid (A1.out.up S0.out)
 have XD:=Lib.hid (X1.out.since S0.out)
 have H0:=Lib.hid XD.out.five
 have KS0:=Lib.hid (KSB.out 0 w1.drew (by omega) AD.out.s)
 go_region_held3 (fun w'=>w'.cell? ⟨w.heap.size,0,none⟩=some (.pointer (some ⟨b,0,none⟩))∧w'.cell? ⟨w.heap.size+1,0,none⟩=some (.int .u8 (k:Nat))∧w'.cell? ⟨w.heap.size+1,1,none⟩=some (.string x)∧w'.cell? ⟨w.heap.size+1,2,none⟩=some (.int .i64 n)∧w'.cell? ⟨w.heap.size+1,3,none⟩=some (.slice G subs.length c))
  (first
   | exact H0.out
   | exact HP.out
   | exact HQ.out)
  (first
   | (
    go_at_call 187;refine (KS0.out).mono ?_;rintro r0 wp ⟨ds,rfl,hd,hs⟩;
    have AP:=Lib.hid (AD.out.up hs);
    have KP:=Lib.hid (K1.out.trans (BKeep.of (b:=b) (since_t S0.out hs) A1.out.hB));
    have XP:=Lib.hid (XD.out.since hs);
    have HP:=Lib.hid XP.out.five;
    have KT2:=Lib.hid (KTB.out 0 ds r1 wp hd AP.out);clear hd hs)
   | (
    go_at_call 105;refine (KT2.out).mono ?_;rintro r0 w2 ⟨rfl,r2,g1,g2,g3⟩;
    have R2:=Lib.hid (R1.out.app g1);
    have A2:=Lib.hid (AP.out.next g3 g2);
    have K2:=Lib.hid (KP.out.trans g3);
    have X2:=Lib.hid (XP.out.up g3);
    have HQ:=Lib.hid X2.out.five;clear g1 g2 g3))
 clear KS0 KT2 AD XD AP XP
 obtain ⟨e1,t0,t1,t2,t3⟩:=X2.out.five
 go_wp2_with fail
 have P3:=Lib.hid (put_new B b 1 r2 [⟨#[58,32]⟩] [58,32] w2 rfl rfl A2.out.is A2.out.hB (by simp) (by
  intro s hs
  simp only [List.mem_cons,List.not_mem_nil,or_false] at hs
  subst hs
  ·
   exact (by decide:(⟨#[58,32]⟩:ByteArray).size≤10000000)))
 refine P3.out.mono ?_
 rintro r0 w3 ⟨rfl,r3,g1,g2,g3⟩
 have R3:=Lib.hid (R2.out.app g1)
 have A3:=Lib.hid (A2.out.next g3 g2)
 have K3:=Lib.hid (K2.out.trans g3)
 have X3:=Lib.hid (X2.out.up g3)
 obtain ⟨e1,t0,t1,t2,t3⟩:=X3.out.five
 clear g1 g2 g3
 clear P3 t0 t1 t2 t3 e1 KTB
 go_wp2_with fail
 have S0:Hid (w3.Since w3.heap.size w3.drew):=Lib.hid (World.Since.refl _ _).drew
 have H0:=Lib.hid (X3.out.since S0.out).five
 have SR:Hid (w3.Since w3.heap.size (w3.alloc (kindRow [14,13])).drew):=Lib.hid (since_alloc w3 (kindRow [14,13])).drew
 have TR:Hid ((w3.alloc (kindRow [14,13])).drew.heap[w3.heap.size]?=some (kindRow [14,13])):=Lib.hid (heap_alloc_new w3 (kindRow [14,13]))
 have HNR:Hid (w3.heap.size ≠ b):=Lib.hid (Nat.ne_of_gt A3.out.is.lt)
 obtain ⟨WR,hWR⟩:∃ WR,(w3.alloc (kindRow [14,13])).drew=WR:=⟨_,rfl⟩
 rw [hWR] at SR TR
 have HR:=Lib.hid (X3.out.since SR.out).five
 have hWR:(w3.alloc (.cells #[.int .u8 14,.int .u8 13] 36)).drew=WR:=hWR
 have KS:=Lib.hid (fun V (h:w3.Since w3.heap.size V)=>KSB.out 1 V (by omega) (since_t A3.out.s h))
 have KM:=Lib.hid (fun kr V (h:w3.Since w3.heap.size V) (hr:V.heap[kr]?=some (kindRow [14,13])) (hn:kr ≠ b)=>mk_inside b kr 2 [14,13] V rfl hr hn (Nat.lt_of_lt_of_le A3.out.is.lt h.size))
 have KI:=Lib.hid (fun ds kb bb kr V (hd:SubAt w0 subs 1 ds) (hI:IBox b kb kr bb 2 [14,13] V) (h:w3.Since w3.heap.size V)=>KIB.out 1 ds kb bb kr r3 V hd hI (A3.out.up h))
 have KMR:=Lib.hid (KM.out w3.heap.size WR SR.out TR.out HNR.out)
 go_region_held3 (fun w'=>w'.cell? ⟨w.heap.size,0,none⟩=some (.pointer (some ⟨b,0,none⟩))∧w'.cell? ⟨w.heap.size+1,0,none⟩=some (.int .u8 (k:Nat))∧w'.cell? ⟨w.heap.size+1,1,none⟩=some (.string x)∧w'.cell? ⟨w.heap.size+1,2,none⟩=some (.int .i64 n)∧w'.cell? ⟨w.heap.size+1,3,none⟩=some (.slice G subs.length c))
  (first
   | exact H0.out
   | (rw [hWR];exact HR.out)
   | exact HR.out
   | exact HP.out
   | exact HQ.out
   | exact HV.out)
  (first
   | (
    go_at_call 193;(try rw [hWR]);refine (KMR.out).mono ?_;rintro r0 wp ⟨kb,bb,rfl,hI,hs⟩;
    have SP:=Lib.hid (since_t SR.out hs);
    have HP:=Lib.hid (X3.out.since SP.out).five;
    have KSP:=Lib.hid (KS.out wp SP.out);
    have KIP:=Lib.hid (fun ds V (hd:SubAt w0 subs 1 ds) (h:wp.Since wp.heap.size V)=>KI.out ds kb bb _ V hd (hI.since h) (since_t SP.out h));clear hI hs)
   | (
    go_at_call 187;refine (KSP.out).mono ?_;rintro r0 wq ⟨ds,rfl,hd,hs⟩;
    have HQ:=Lib.hid (X3.out.since (since_t SP.out hs)).five;
    have KF:=Lib.hid (KIP.out ds wq hd hs);
    have KV:=Lib.hid (BKeep.of (b:=b) (since_t SP.out hs) A3.out.hB);clear hd hs)
   | (
    go_at_call 187;(try rw [hWR]);refine (KS.out _ SR.out).mono ?_;rintro r0 wp ⟨ds,rfl,hd,hs⟩;
    have SP:=Lib.hid (since_t SR.out hs);
    have HP:=Lib.hid (X3.out.since SP.out).five;
    have KMP:=Lib.hid (KM.out w3.heap.size wp SP.out ((hs.block _ (blk_lt TR.out)).trans TR.out) HNR.out);
    have KIP:=Lib.hid (fun kb bb V (hI:IBox b kb w3.heap.size bb 2 [14,13] V) (h:wp.Since wp.heap.size V)=>KI.out ds kb bb _ V hd hI (since_t SP.out h));clear hd hs)
   | (
    go_at_call 187;refine (KS.out _ S0.out).mono ?_;rintro r0 wv ⟨ds,rfl,hd,hs⟩;
    have SV:=Lib.hid (since_t S0.out hs);
    have HV:=Lib.hid (X3.out.since SV.out).five;
    have SP:=Lib.hid (since_t SV.out (since_alloc wv (kindRow [14,13])));
    have HP:=Lib.hid (X3.out.since SP.out).five;
    have KMP:=Lib.hid (KM.out wv.heap.size (wv.alloc (kindRow [14,13])) SP.out (heap_alloc_new _ _) (Nat.ne_of_gt (Nat.lt_of_lt_of_le A3.out.is.lt SV.out.size)));
    have KIP:=Lib.hid (fun kb bb V (hI:IBox b kb wv.heap.size bb 2 [14,13] V) (h:(wv.alloc (kindRow [14,13])).Since (wv.alloc (kindRow [14,13])).heap.size V)=>KI.out ds kb bb _ V hd hI (since_t SP.out h));clear hd hs)
   | (
    go_at_call 193;refine (KMP.out).mono ?_;rintro r0 wq ⟨kb,bb,rfl,hI,hs⟩;
    have HQ:=Lib.hid (X3.out.since (since_t SP.out hs)).five;
    have KF:=Lib.hid (KIP.out kb bb wq hI hs);
    have KV:=Lib.hid (BKeep.of (b:=b) (since_t SP.out hs) A3.out.hB);clear hI hs)
   | (
    go_at_call 244;refine (KF.out).mono ?_;rintro r0 wz ⟨rfl,r4,g1,g2,g3⟩;
    have R4:=Lib.hid (R3.out.app g1);
    have H4:=Lib.hid (And.intro g2 (K3.out.trans (KV.out.trans g3)));
    have HV:=Lib.hid (X3.out.up (KV.out.trans g3)).five;clear g1 g2 g3))
 all_goals
  go_wp2_with fail
  go_end0
  exact ⟨rfl,r4,by have h:=R4.out;rw [HF.out];(try simp only [List.append_assoc] at h);exact h,H4.out.1,H4.out.2⟩
end Go.Proofs.YthbdlnflmfchjaaGreatDoor
namespace Go.Proofs.YthbdlnflmfchjaaGreatDoor
open Go.RowKit Go.Proofs.Fm
set_option maxHeartbeats 6400000
set_option maxRecDepth 1000000
def quoRow:Obj:=.cells #[.string ⟨#[92]⟩,.string ⟨#[92,92]⟩,.string ⟨#[34]⟩,.string ⟨#[92,34]⟩] 9
structure RepC (RI:Nat→Addr→World→Prop):Prop where
 new:∀ w:World,Calls Tryz.prog 190 #[.slice (some ⟨w.heap.size,0,none⟩) 4 4] (w.alloc quoRow).drew fun e w'=>∃ p,e=.returned (.pointer (some p))∧RI w.heap.size p w'∧w.Since w.heap.size w'
 use:∀ (w0 w:World) (p:Addr) (x:ByteArray),RI w0.heap.size p w→w0.Since w0.heap.size w→x.size≤1000000→Calls Tryz.prog 191 #[.pointer (some p),.string x] w fun e w'=>e=.returned (.string (ofBytes (esc (bytesOf x))))∧w0.Since w0.heap.size w'
theorem esc_len:∀ l:List UInt8,(esc l).length≤2 * l.length
 | []=>by rw [esc];exact Nat.le_refl _
 | c :: l=>by
  have:=esc_len l
  rw [esc]
  split <;> simp <;> omega
theorem ofB_size (l:List UInt8):(ofBytes l).size=l.length:=rfl
theorem term_1 (B b K k c:Nat) (x:ByteArray) (n:Int) (G:Option Addr) (subs:List Tz) (acc:List UInt8) (w0 w:World) (IH:WTerm B b w0 K) (hT:WTm w0 K G subs) (hx:x.size≤1000000) (hA:WAt w0 B b acc w) (hk:k=1) (hn:n64 n) (hP:PowV w0):
  Calls Tryz.prog 105 #[.pointer (some ⟨b,0,none⟩),.agg #[.int .u8 (k:Nat),.string x,.int .i64 n,.slice G subs.length c]] w (WSay B b acc (fz (.mk k x n subs)) w):=by
 obtain ⟨W,hW,A0,X0,K0⟩:=term_start B b acc (.int .u8 (k:Nat)) (.string x) (.int .i64 n) (.slice G subs.length c) w0 w hA
 have HF:Hid (fz (.mk k x n subs)=Lib.itoa n):=Lib.hid (by subst hk;rw [fz_mk];rfl)
 generalize fz (.mk k x n subs)=F at *
 obtain ⟨e1,t0,t1,t2,t3⟩:=X0.out.five
 have f1:((k:Int) == 1)=true:=beq_iff_eq.2 (by omega)
 have S0:Hid (W.Since W.heap.size W.drew):=Lib.hid (World.Since.refl _ _).drew
 have H0:=Lib.hid (X0.out.since S0.out).five
 have KN:=Lib.hid (num_form n hn W.drew (hP.up (since_t A0.out.s S0.out)))
 have HL:Hid ((ofBytes (Lib.itoa n)).size≤10000000):=Lib.hid (by have:=Lib.itoa_length_le n hn.1 hn.2;rw [ofB_size];omega)
 have HFL:Hid (flatB [ofBytes (Lib.itoa n)]=Lib.itoa n):=Lib.hid (by simp [flatB,bytes_of])
 clear hn hP
 generalize Lib.itoa n=D at *
 clear hA hk hT IH
 go_enter Tryz.func105,Tryz.ntmps105
 go_wp2_with fail
 go_region_held3 (fun w'=>w'.cell? ⟨w.heap.size,0,none⟩=some (.pointer (some ⟨b,0,none⟩))∧w'.cell? ⟨w.heap.size+1,2,none⟩=some (.int .i64 n))
  (first
   | exact ⟨H0.out.1,H0.out.2.2.2.1⟩
   | exact ⟨HP.out.1,HP.out.2.2.2.1⟩
   | exact ⟨HQ.out.1,HQ.out.2.2.2.1⟩
   | exact ⟨HV.out.1,HV.out.2.2.2.1⟩)
  (first
   | (
    go_at_call 189;refine (KN.out).mono ?_;rintro r0 wp ⟨rfl,hs⟩;
    have SP:=Lib.hid (since_t S0.out hs);
    have AP:=Lib.hid (A0.out.up SP.out);
    have HP:=Lib.hid (X0.out.since SP.out).five;
    have HQ:=Lib.hid (X0.out.since (since_t SP.out (since_alloc wp (.cells #[.string (ofBytes D)] 9)))).five;
    have KF:=Lib.hid (put_new B b 1 acc [ofBytes D] D wp HFL.out rfl AP.out.is AP.out.hB (by simp) (by intro s hs;rw [List.mem_singleton.1 hs];exact HL.out));clear hs)
   | (
    go_at_call 188;refine (KF.out).mono ?_;rintro r0 w2 ⟨rfl,r2,g1,g2,g3⟩;
    have R2:=Lib.hid g1;
    have A2:=Lib.hid (AP.out.next g3 g2);
    have K2:=Lib.hid (K0.out.trans ((BKeep.of SP.out A0.out.hB).trans g3));
    have HV:=Lib.hid ((X0.out.since SP.out).up g3).five;clear g1 g2 g3))
 go_wp2_with fail
 go_end0
 exact ⟨rfl,r2,by have h:=R2.out;rw [HF.out];exact h,A2.out.is,K2.out⟩
theorem term_2 {RI:Nat→Addr→World→Prop} (HC:RepC RI) (B b K k c:Nat) (x:ByteArray) (n:Int) (G:Option Addr) (subs:List Tz) (acc:List UInt8) (w0 w:World) (IH:WTerm B b w0 K) (hT:WTm w0 K G subs) (hx:x.size≤1000000) (hA:WAt w0 B b acc w) (hk:k=2):
  Calls Tryz.prog 105 #[.pointer (some ⟨b,0,none⟩),.agg #[.int .u8 (k:Nat),.string x,.int .i64 n,.slice G subs.length c]] w (WSay B b acc (fz (.mk k x n subs)) w):=by
 obtain ⟨W,hW,A0,X0,K0⟩:=term_start B b acc (.int .u8 (k:Nat)) (.string x) (.int .i64 n) (.slice G subs.length c) w0 w hA
 have HF:Hid (fz (.mk k x n subs)=34 :: (esc (bytesOf x) ++ [34])):=Lib.hid (by subst hk;rw [fz_mk];rfl)
 generalize fz (.mk k x n subs)=F at *
 obtain ⟨e1,t0,t1,t2,t3⟩:=X0.out.five
 have f1:((k:Int) == 1)=false:=beq_eq_false_iff_ne.2 (by omega)
 have f2:((k:Int) == 2)=true:=beq_iff_eq.2 (by omega)
 have S0:Hid (W.Since W.heap.size W.drew):=Lib.hid (World.Since.refl _ _).drew
 have H0:=Lib.hid (X0.out.since S0.out).five
 have SR:Hid (W.Since W.heap.size (W.alloc quoRow).drew):=Lib.hid (since_alloc W quoRow).drew
 have TR:Hid ((W.alloc quoRow).drew.heap[W.heap.size]?=some quoRow):=Lib.hid (heap_alloc_new W quoRow)
 obtain ⟨WR,hWR⟩:∃ WR,(W.alloc quoRow).drew=WR:=⟨_,rfl⟩
 rw [hWR] at SR TR
 have HR:=Lib.hid (X0.out.since SR.out).five
 have hWR:(W.alloc (.cells #[.string ⟨#[92]⟩,.string ⟨#[92,92]⟩,.string ⟨#[34]⟩,.string ⟨#[92,34]⟩] 9)).drew=WR:=hWR
 have KN:=Lib.hid (HC.new W)
 rw [show (W.alloc quoRow).drew=WR from hWR] at KN
 have KU:=Lib.hid (fun p V (h1:RI W.heap.size p V) (h2:W.Since W.heap.size V)=>HC.use W V p x h1 h2 hx)
 have HL:Hid ((ofBytes (esc (bytesOf x))).size≤10000000):=Lib.hid (by have:=esc_len (bytesOf x);rw [bytesOf_length] at this;rw [ofB_size];omega)
 have HFL:Hid (flatB [⟨#[34]⟩,ofBytes (esc (bytesOf x)),⟨#[34]⟩]=34 :: (esc (bytesOf x) ++ [34])):=Lib.hid (by simp [flatB,bytes_of];try rfl)
 clear HC
 generalize esc (bytesOf x)=D at *
 clear hA hk hT IH
 go_enter Tryz.func105,Tryz.ntmps105
 go_wp2_with fail
 go_region_held3 (fun w'=>w'.cell? ⟨w.heap.size,0,none⟩=some (.pointer (some ⟨b,0,none⟩))∧w'.cell? ⟨w.heap.size+1,1,none⟩=some (.string x))
  (first
   | exact ⟨H0.out.1,H0.out.2.2.1⟩
   | (rw [hWR];exact ⟨HR.out.1,HR.out.2.2.1⟩)
   | exact ⟨HR.out.1,HR.out.2.2.1⟩
   | exact ⟨HP.out.1,HP.out.2.2.1⟩
   | exact ⟨HT.out.1,HT.out.2.2.1⟩
   | exact ⟨HQ.out.1,HQ.out.2.2.1⟩
   | exact ⟨HV.out.1,HV.out.2.2.1⟩)
  (first
   | (
    go_at_call 190;(try rw [hWR]);refine (KN.out).mono ?_;rintro r0 wp ⟨p,rfl,hri,hs⟩;
    have HP:=Lib.hid (X0.out.since hs).five;
    have KUP:=Lib.hid (KU.out p wp hri hs);clear hri hs)
   | (
    go_at_call 191;refine (KUP.out).mono ?_;rintro r0 wt ⟨rfl,hs⟩;
    have SP:=Lib.hid hs;
    have AP:=Lib.hid (A0.out.up SP.out);
    have HT:=Lib.hid (X0.out.since SP.out).five;
    have HQ:=Lib.hid (X0.out.since (since_t SP.out (since_alloc wt (.cells #[.string ⟨#[34]⟩,.string (ofBytes D),.string ⟨#[34]⟩] 9)))).five;
    have KF:=Lib.hid (put_new B b 3 acc [⟨#[34]⟩,ofBytes D,⟨#[34]⟩] (34 :: (D ++ [34])) wt HFL.out rfl AP.out.is AP.out.hB (by simp) (by
     intro s hs;
     simp only [List.mem_cons,List.not_mem_nil,or_false] at hs;
     rcases hs with rfl | rfl | rfl;
     ·
      exact (by decide:(⟨#[34]⟩:ByteArray).size≤10000000);
     ·
      exact HL.out;
     ·
      exact (by decide:(⟨#[34]⟩:ByteArray).size≤10000000)));clear hs)
   | (
    go_at_call 188;refine (KF.out).mono ?_;rintro r0 w2 ⟨rfl,r2,g1,g2,g3⟩;
    have R2:=Lib.hid g1;
    have A2:=Lib.hid (AP.out.next g3 g2);
    have K2:=Lib.hid (K0.out.trans ((BKeep.of SP.out A0.out.hB).trans g3));
    have HV:=Lib.hid ((X0.out.since SP.out).up g3).five;clear g1 g2 g3))
 go_wp2_with fail
 go_end0
 exact ⟨rfl,r2,by have h:=R2.out;rw [HF.out];exact h,A2.out.is,K2.out⟩
theorem term_none (B b K k c:Nat) (x:ByteArray) (n:Int) (G:Option Addr) (subs:List Tz) (acc:List UInt8) (w0 w:World) (IH:WTerm B b w0 K) (hT:WTm w0 K G subs) (hx:x.size≤1000000) (hA:WAt w0 B b acc w) (hk:∀ j ∈ [1,2,3,4,5,6,7,8,9,10,11,12,13,14,15,16],k ≠ j):
  Calls Tryz.prog 105 #[.pointer (some ⟨b,0,none⟩),.agg #[.int .u8 (k:Nat),.string x,.int .i64 n,.slice G subs.length c]] w (WSay B b acc (fz (.mk k x n subs)) w):=by
 obtain ⟨W,hW,A0,X0,K0⟩:=term_start B b acc (.int .u8 (k:Nat)) (.string x) (.int .i64 n) (.slice G subs.length c) w0 w hA
 have HF:Hid (fz (.mk k x n subs)=([]:List UInt8)):=Lib.hid (by simp only [List.mem_cons,List.not_mem_nil,or_false,forall_eq_or_imp,forall_eq] at hk;rw [fz_mk,if_neg (by omega),if_neg (by omega),if_neg (by omega),if_neg (by omega),if_neg (by omega),if_neg (by omega),if_neg (by omega),if_neg (by omega),if_neg (by omega),if_neg (by omega),if_neg (by omega),if_neg (by omega),if_neg (by omega),if_neg (by omega)])
 generalize fz (.mk k x n subs)=F at *
 obtain ⟨e1,t0,t1,t2,t3⟩:=X0.out.five
 simp only [List.mem_cons,List.not_mem_nil,or_false,forall_eq_or_imp,forall_eq] at hk
 have f1:((k:Int) == 1)=false:=beq_eq_false_iff_ne.2 (by omega)
 have f2:((k:Int) == 2)=false:=beq_eq_false_iff_ne.2 (by omega)
 have f3:((k:Int) == 3)=false:=beq_eq_false_iff_ne.2 (by omega)
 have f4:((k:Int) == 4)=false:=beq_eq_false_iff_ne.2 (by omega)
 have f5:((k:Int) == 5)=false:=beq_eq_false_iff_ne.2 (by omega)
 have f6:((k:Int) == 6)=false:=beq_eq_false_iff_ne.2 (by omega)
 have f11:((k:Int) == 11)=false:=beq_eq_false_iff_ne.2 (by omega)
 have f7:((k:Int) == 7)=false:=beq_eq_false_iff_ne.2 (by omega)
 have f8:((k:Int) == 8)=false:=beq_eq_false_iff_ne.2 (by omega)
 have f9:((k:Int) == 9)=false:=beq_eq_false_iff_ne.2 (by omega)
 have f10:((k:Int) == 10)=false:=beq_eq_false_iff_ne.2 (by omega)
 have f12:((k:Int) == 12)=false:=beq_eq_false_iff_ne.2 (by omega)
 have f13:((k:Int) == 13)=false:=beq_eq_false_iff_ne.2 (by omega)
 have f14:((k:Int) == 14)=false:=beq_eq_false_iff_ne.2 (by omega)
 have f15:((k:Int) == 15)=false:=beq_eq_false_iff_ne.2 (by omega)
 have f16:((k:Int) == 16)=false:=beq_eq_false_iff_ne.2 (by omega)
 clear hA hk hT IH
 go_enter Tryz.func105,Tryz.ntmps105
 go_wp2_with fail
 go_end0
 exact ⟨rfl,acc,by rw [HF.out];exact .nil _,A0.out.is,K0.out⟩
theorem wterm_all {RI:Nat→Addr→World→Prop} (HC:RepC RI) (B b:Nat) (w0:World) (hP:PowV w0) (hB:w0.heap.size≤B):∀ K,K≤1000000→WTerm B b w0 K
 | 0,_,t,_,_,_,hK,_,_,_,_=>by have:=wtZ_pos t;omega
 | K+1,hM,.mk k x n subs,cs,acc,w,hK,ht,h0,hBw,hA=>by
  have IH:=wterm_all HC B b w0 hP hB K (by omega)
  have hA':WAt w0 B b acc w:=⟨h0,hB,hBw,hA⟩
  rw [wtZ] at hK
  have hx:x.size≤1000000:=by omega
  unfold TzAt at ht
  obtain ⟨G,c,us,rfl,⟨hn,_,_⟩,hr,hs⟩:=ht
  have hT:WTm w0 K G subs:=⟨⟨us,hr,hs⟩,by omega,by have:=wtZs_length subs;omega⟩
  by_cases k1:k=1
  ·
   exact term_1 B b K k c x n G subs acc w0 w IH hT hx hA' k1 hn hP
  by_cases k2:k=2
  ·
   exact term_2 HC B b K k c x n G subs acc w0 w IH hT hx hA' k2
  by_cases k3:k=3
  ·
   exact term_3 B b K k c x n G subs acc w0 w IH hT hx hA' k3
  by_cases k4:k=4
  ·
   exact term_4 B b K k c x n G subs acc w0 w IH hT hx hA' k4
  by_cases k5:k=5
  ·
   exact term_5 B b K k c x n G subs acc w0 w IH hT hx hA' k5
  by_cases k6:k=6
  ·
   exact term_6 B b K k c x n G subs acc w0 w IH hT hx hA' k6
  by_cases k11:k=11
  ·
   exact term_11 B b K k c x n G subs acc w0 w IH hT hx hA' k11
  by_cases k7:k=7
  ·
   exact term_7 B b K k c x n G subs acc w0 w IH hT hx hA' k7
  by_cases k8:k=8
  ·
   exact term_8 B b K k c x n G subs acc w0 w IH hT hx hA' k8
  by_cases k9:k=9
  ·
   exact term_9 B b K k c x n G subs acc w0 w IH hT hx hA' k9
  by_cases k10:k=10
  ·
   exact term_10 B b K k c x n G subs acc w0 w IH hT hx hA' k10
  by_cases k12:k=12
  ·
   exact term_12 B b K k c x n G subs acc w0 w IH hT hx hA' k12
  by_cases k13:k=13
  ·
   exact term_13 B b K k c x n G subs acc w0 w IH hT hx hA' k13
  by_cases k14:k=14
  ·
   exact term_14 B b K k c x n G subs acc w0 w IH hT hx hA' k14
  by_cases k15:k=15
  ·
   exact term_15 B b K k c x n G subs acc w0 w IH hT hx hA' k15
  by_cases k16:k=16
  ·
   exact term_16 B b K k c x n G subs acc w0 w IH hT hx hA' k16
  exact term_none B b K k c x n G subs acc w0 w IH hT hx hA' (by
   intro j hj
   simp only [List.mem_cons,List.not_mem_nil,or_false] at hj
   omega)
end Go.Proofs.YthbdlnflmfchjaaGreatDoor
namespace Go.Proofs.YthbdlnflmfchjaaGreatDoor
open Go.RowKit Go.Proofs.Fm
set_option maxHeartbeats 3200000
set_option maxRecDepth 1000000
theorem written_says {RI:Nat→Addr→World→Prop} (HC:RepC RI) (t:Tz) (cs:List Value) (w:World) (hK:wtZ t≤1000000) (ht:TzAt w t cs) (hP:PowV w):
  Calls Tryz.prog 49 #[.agg cs.toArray] w fun e w'=>(∃ r,e=.returned (.string (ofBytes r))∧WR [] (fz t) r)∧w.Since w.heap.size w':=by
 obtain ⟨k,x,n,G,m,c,rfl⟩:=tz_4 ht
 obtain ⟨W,hW⟩:∃ W,(w.alloc (.cells #[.int .u8 (k:Nat),.string x,.int .i64 n,.slice G m c] 39)).alloc (.cells #[.pointer none,.slice none 0 0] 196)=W:=⟨_,rfl⟩
 have hs:w.Since w.heap.size W:=by rw [← hW];exact ((World.Since.refl _ _).alloc (Nat.le_refl _) _).alloc (by simp) _
 have hb:W.heap[w.heap.size]?=some (.cells #[.int .u8 (k:Nat),.string x,.int .i64 n,.slice G m c] 39):=by rw [← hW];exact (Go.Deep.blk_alloc_lt _ _ _ (by simp)).trans (heap_alloc_new w _)
 have hA:BIs 196 (w.heap.size+1) (w.heap.size+1) [] W:=by
  rw [← hW]
  refine .inl ⟨Nat.le_refl _,.slice none 0 0,?_,World.ownsRowF_nil _ _ _ _,by simp [Value.ownBlock]⟩
  have:=heap_alloc_new (w.alloc (.cells #[.int .u8 (k:Nat),.string x,.int .i64 n,.slice G m c] 39)) (.cells #[.pointer none,.slice none 0 0] 196)
  rw [World.size_alloc] at this
  exact this
 have hsz:w.heap.size+1≤W.heap.size:=by rw [← hW];simp
 obtain ⟨t0,t1,t2,t3,-⟩:=cells4 hb
 have KT:=Lib.hid (wterm_all HC (w.heap.size+1) (w.heap.size+1) w hP (Nat.le_succ _) 1000000 (Nat.le_refl _) t _ [] W hK ht hs hsz hA)
 have HS:=Lib.hid hs
 have HZ:=Lib.hid hsz
 have HKW:Hid (BKeep (w.heap.size+1) (w.heap.size+1) W W):=Lib.hid (BKeep.refl _ _ _)
 generalize fz t=F at *
 clear hs hb hA hsz ht hK HC
 go_enter Tryz.func49,Tryz.ntmps49
 go_wp2_with fail
 refine KT.out.mono ?_
 rintro r0 w1 ⟨rfl,r,g1,g2,g3⟩
 have R:=Lib.hid g1
 have K1:=Lib.hid g3
 have KS:=Lib.hid (bstring (w.heap.size+1) (w.heap.size+1) r w1 g2 (Nat.le_trans HZ.out g3.size))
 clear g1 g2 g3 KT
 go_wp2_with fail
 refine KS.out.mono ?_
 rintro r0 w2 ⟨rfl,-,g3⟩
 have HE:=Lib.hid ((K1.out.trans g3).since HS.out (Nat.le_succ _))
 clear g3 KS
 go_wp2_with fail
 go_ret
 exact ⟨⟨r,rfl,R.out⟩,HE.out⟩
end Go.Proofs.YthbdlnflmfchjaaGreatDoor
namespace Go.Proofs.YthbdlnflmfchjaaGreatDoor
open Go Go.RowKit Go.Proofs.Eng
def rho0 (g:Nat):Rho:=fun k=>if k < 8 then some ⟨k,0,0,0⟩ else if k=100 then some ⟨g,0,4,1⟩ else none
theorem lows27:lows m27.pre=true∧lows m27.post=true∧lows m28.pre=true∧lows m28.post=true:=⟨by kernel_rfl,by kernel_rfl,by kernel_rfl,by kernel_rfl⟩
theorem hcell {ρ:Rho} {A:AW} {w:World} (H:HRel ρ A w) {k:Nat} {c:Array Value} {e:TypeId} {fr:Nat × Nat} (hk:A.get k=some (.cells c e fr)):∃ p,ρ k=some p∧p.s=0∧p.b < w.heap.size∧∀ (i:Nat) (v:Value),c[i]?=some v→∃ v',w.cell? ⟨p.b,i,none⟩=some v'∧VRel ρ v v':=by
 obtain ⟨p,o',h1,h2,h3⟩:=H.obj k _ hk
 cases h3 with
 | cells h0 hn ht hc hf=>
  refine ⟨p,h1,h0,blk_lt h2,fun i v hv=>?_⟩
  obtain ⟨v',a,b⟩:=hc i v hv
  rw [h0,Nat.zero_add] at a
  exact ⟨v',by unfold World.cell?;rw [h2];exact a,b⟩
def RI (base:Nat) (a:Addr) (w:World):Prop:=∃ ρ p,HRel ρ (mheap m28.pre 103) w∧Gl 8 ρ∧ρ 102=some p∧p.s=0∧a=⟨p.b,0,none⟩∧∀ k o q,(mheap m28.pre 103).get k=some o→ρ k=some q→base≤q.b
theorem pre_rel (g:Nat) (w:World) (hg:w.heap[g]?=some quoRow):HRel (rho0 g) (mheap m27.pre 101) w:=by
 have hm:∀ k o,(mheap m27.pre 101).get k=some o→k=100∧o=quoRow:=fun k o h=>by
  have:=layOn_mem k o lows27.1 h
  unfold m27 at this
  simp only [List.mem_singleton,Prod.mk.injEq] at this
  exact this
 refine ⟨fun k o h=>?_,fun k k' o o' p p' h h' _ _ _=>by rw [(hm k o h).1,(hm k' o' h').1],fun k h1 _=>?_,fun k o h=>by rw [(hm k o h).1];decide,⟨by decide,by decide⟩⟩
 ·
  obtain ⟨rfl,rfl⟩:=hm k o h
  refine ⟨⟨g,0,4,1⟩,_,rfl,hg,?_⟩
  unfold quoRow
  refine ORel.cells rfl (show 0+4≤4 by decide) rfl (fun i v hv=>⟨v,by rw [Nat.zero_add];exact hv,?_⟩) ⟨Nat.le_refl _,fun j _ h=>absurd h (Nat.not_lt_zero _),fun _=>Nat.zero_le _⟩
  match i,hv with
  | 0,hv=>cases hv;exact .string _
  | 1,hv=>cases hv;exact .string _
  | 2,hv=>cases hv;exact .string _
  | 3,hv=>cases hv;exact .string _
  | i+4,hv=>simp at hv
 ·
  have:101≤k:=h1
  unfold rho0
  rw [if_neg (by omega),if_neg (by omega)]
theorem mem28 (k:Nat) (o:Obj) (h:(mheap m28.pre 103).get k=some o):k=102 ∨ k=101:=by
 have:=layOn_mem k o lows27.2.2.1 h
 unfold m28 at this
 simp only [List.mem_cons,List.not_mem_nil,or_false,Prod.mk.injEq] at this
 rcases this with h | h
 ·
  exact .inl h.1
 ·
  exact .inr h.1
theorem sub28 (k:Nat) (o:Obj) (h:(mheap m28.pre 103).get k=some o):(mheap m27.post 103).get k=some o:=by
 have e2:(mheap m28.pre 103).get 102=(mheap m27.post 103).get 102:=by kernel_rfl
 have e1:(mheap m28.pre 103).get 101=(mheap m27.post 103).get 101:=by kernel_rfl
 rcases mem28 k o h with rfl | rfl
 ·
  rw [← e2];exact h
 ·
  rw [← e1];exact h
theorem rep_new (w:World):Calls Tryz.prog 190 #[.slice (some ⟨w.heap.size,0,none⟩) 4 4] (w.alloc quoRow).drew fun e w'=>∃ p,e=.returned (.pointer (some p))∧RI w.heap.size p w'∧w.Since w.heap.size w':=by
 have hg:(w.alloc quoRow).drew.heap[w.heap.size]?=some quoRow:=heap_alloc_new w quoRow
 have hm:=(oks29 m27 (.tail _ (.head _))).2 (rho0 w.heap.size) (w.alloc quoRow).drew #[.slice (some ⟨w.heap.size,0,none⟩) 4 4]
  (fun g hg=>⟨⟨g,0,0,0⟩,by unfold rho0;rw [if_pos hg],rfl,rfl⟩) (pre_rel w.heap.size _ hg)
  (.cons (.slice ⟨rfl,⟨w.heap.size,0,4,1⟩,rfl,rfl⟩ (.inl ⟨rfl,by decide⟩)) .nil)
 refine (callsIn_wide.1 hm).mono fun e w' hh=>?_
 obtain ⟨ρ',v',rfl,hv,hH,hS⟩:=hh
 have hv:VRel ρ' (.pointer (some ⟨102,0,none⟩)) v':=hv
 cases hv with
 | ptr h=>
  obtain ⟨_,p,hp,rfl⟩:=h
  have hpre:∀ k o,(mheap m27.pre 101).get k=some o→k=100:=fun k o h=>by
   have:=layOn_mem k o lows27.1 h
   unfold m27 at this
   simp only [List.mem_singleton,Prod.mk.injEq] at this
   exact this.1
  have H2:HRel ρ' (mheap m28.pre 103) w':=hH.sub sub28 hH.none ⟨by decide,by decide⟩
  obtain ⟨p',hp',hs0,_,_⟩:=hcell H2 (k:=102) (show (mheap m28.pre 103).get 102=some (.cells #[.int .u32 0,.int .i32 0,.int .u32 0,.nilIface,.slice (some ⟨101,0,none⟩) 4 1180591620717411303425] 322 (0,0)) by kernel_rfl)
  have hpp:p'=p:=by have:=hp'.symm.trans hp;injection this
  subst hpp
  refine ⟨_,rfl,⟨ρ',p',H2,Gl.mono hS.le (fun g hg=>⟨⟨g,0,0,0⟩,by unfold rho0;rw [if_pos hg],rfl,rfl⟩),hp,hs0,by rw [hs0];rfl,fun k o q hk hq=>?_⟩,?_⟩
  ·
   rcases hS.fresh k o q (sub28 k o hk) hq with h | ⟨k0,o0,p0,_,h1,h2,h3⟩ | ⟨h,_⟩
   ·
    have:(w.alloc quoRow).heap.size≤q.b:=h
    rw [World.size_alloc] at this;omega
   ·
    have:=hpre k0 o0 h1
    subst this
    have h2:some (⟨w.heap.size,0,4,1⟩:Pos)=some p0:=h2
    injection h2 with h2
    rw [← h3,← h2]
    exact Nat.le_refl _
   ·
    have h:(mheap m27.post 103).get k=(mheap m27.pre 101).get k:=h
    rw [sub28 k o hk] at h
    have:=hpre k o h.symm
    rcases mem28 k o hk with e | e <;> omega
  ·
   refine ⟨hS.os,hS.tape,hS.out,?_,fun k hk=>?_⟩
   ·
    have:=hS.size
    have h2:(w.alloc quoRow).heap.size≤w'.heap.size:=this
    rw [World.size_alloc] at h2;omega
   ·
    refine (hS.frame k (by show k < (w.alloc quoRow).heap.size;rw [World.size_alloc];omega) (fun k0 o0 p0 _ h1 h2=>?_)).trans (Go.Deep.blk_alloc_lt w quoRow k hk)
    have:=hpre k0 o0 h1
    subst this
    have h2:some (⟨w.heap.size,0,4,1⟩:Pos)=some p0:=h2
    injection h2 with h2
    rw [← h2]
    show w.heap.size ≠ k
    omega
structure RepAt (B:Nat) (w:World):Prop where
 lt:B < w.heap.size
 no:∀ c,c < 256→c ≠ 34→c ≠ 92→w.cell? ⟨B,c,none⟩=some (.slice none 0 0)
 q34:∃ q cp,w.cell? ⟨B,34,none⟩=some (.slice (some ⟨q,0,none⟩) 2 cp)∧q < w.heap.size∧w.cell? ⟨q,0,none⟩=some (.int .u8 92)∧w.cell? ⟨q,1,none⟩=some (.int .u8 34)
 q92:∃ q cp,w.cell? ⟨B,92,none⟩=some (.slice (some ⟨q,0,none⟩) 2 cp)∧q < w.heap.size∧w.cell? ⟨q,0,none⟩=some (.int .u8 92)∧w.cell? ⟨q,1,none⟩=some (.int .u8 92)
 tr:∃ q cp,w.cell? ⟨B,256,none⟩=some (.slice (some ⟨q,0,none⟩) 2 cp)∧q < w.heap.size∧w.cell? ⟨q,0,none⟩=some (.string ⟨#[34]⟩)∧w.cell? ⟨q,1,none⟩=some (.string ⟨#[92]⟩)
theorem vint {ρ:Rho} {k:IntKind} {n:Int} {v:Value} (h:VRel ρ (.int k n) v):v=.int k n:=by cases h;rfl
theorem vstr {ρ:Rho} {s:ByteArray} {v:Value} (h:VRel ρ (.string s) v):v=.string s:=by cases h;rfl
theorem vsl {ρ:Rho} {k n c:Nat} {v:Value} (h:VRel ρ (.slice (some ⟨k,0,none⟩) n c) v):∃ p c',ρ k=some p∧v=.slice (some ⟨p.b,p.s+0,none⟩) n c':=by
 cases h with
 | slice h hc=>obtain ⟨_,p,hp,rfl⟩:=h;exact ⟨p,_,hp,rfl⟩
theorem vsn {ρ:Rho} {n c:Nat} {v:Value} (h:VRel ρ (.slice none n c) v):v=.slice none n c:=by cases h;rfl
def objC:Option Obj→Array Value
 | some (.cells c _ _)=>c
 | _=>#[]
def rv (c:Nat):Value:=if c=34 then .slice (some ⟨107,0,none⟩) 2 1180591620717411303425 else if c=92 then .slice (some ⟨110,0,none⟩) 2 1180591620717411303425 else if c=256 then .slice (some ⟨103,0,none⟩) 2 2 else .slice none 0 0
theorem arr104:(List.range 257).map (fun c=>(objC ((mheap m28.post 117).get 104)).getD c .nilFunc)=(List.range 257).map rv:=by kernel_rfl
theorem is104:∃ C,(mheap m28.post 117).get 104=some (.cells C 398 (0,0))∧objC ((mheap m28.post 117).get 104)=C:=⟨objC ((mheap m28.post 117).get 104),by kernel_rfl,rfl⟩
theorem rv_ne (c:Nat):rv c ≠ .nilFunc:=by
 unfold rv
 split
 ·
  exact fun h=>by cases h
 ·
  split
  ·
   exact fun h=>by cases h
  ·
   split
   ·
    exact fun h=>by cases h
   ·
    exact fun h=>by cases h
theorem at104 (c:Nat) (hc:c < 257):(objC ((mheap m28.post 117).get 104))[c]?=some (rv c):=by
 have h:=List.map_inj_left.1 arr104 c (List.mem_range.2 hc)
 rw [Array.getD_eq_getD_getElem?] at h
 cases hx:(objC ((mheap m28.post 117).get 104))[c]? with
 | none=>rw [hx] at h;exact absurd h.symm (rv_ne c)
 | some u=>rw [hx] at h;exact congrArg some h
theorem rep_at {ρ:Rho} {w:World} (H:HRel ρ (mheap m28.post 117) w):∃ p B,ρ 102=some p∧p.s=0∧w.cell? ⟨p.b,3,none⟩=some (.iface 399 (.pointer (some ⟨B,0,none⟩)))∧RepAt B w:=by
 obtain ⟨p,h1,h2,h3,h4⟩:=hcell H (k:=102) (show (mheap m28.post 117).get 102=some (.cells #[.int .u32 1,.int .i32 0,.int .u32 0,.iface 399 (.pointer (some ⟨104,0,none⟩)),.slice none 0 0] 322 (0,0)) by kernel_rfl)
 obtain ⟨C,c1,c2⟩:=is104
 obtain ⟨q,q1,q2,q3,q4⟩:=hcell H c1
 rw [← c2] at q4
 obtain ⟨a,a1,a2,a3,a4⟩:=hcell H (k:=107) (show (mheap m28.post 117).get 107=some (.cells #[.int .u8 92,.int .u8 34] 5 (1180591620717411303424,0)) by kernel_rfl)
 obtain ⟨b,b1,b2,b3,b4⟩:=hcell H (k:=110) (show (mheap m28.post 117).get 110=some (.cells #[.int .u8 92,.int .u8 92] 5 (1180591620717411303424,0)) by kernel_rfl)
 obtain ⟨t,t1,t2,t3,t4⟩:=hcell H (k:=103) (show (mheap m28.post 117).get 103=some (.cells #[.string ⟨#[34]⟩,.string ⟨#[92]⟩] 9 (0,0)) by kernel_rfl)
 obtain ⟨v,v1,v2⟩:=h4 3 _ rfl
 have hv:v=.iface 399 (.pointer (some ⟨q.b,0,none⟩)):=by
  cases v2 with
  | iface _ h=>
   cases h with
   | ptr h=>
    obtain ⟨_,p',hp',rfl⟩:=h
    have:p'=q:=by have:=hp'.symm.trans q1;injection this
    subst this
    rw [q2];rfl
 subst hv
 refine ⟨p,q.b,h1,h2,v1,⟨q3,fun c hc n34 n92=>?_,?_,?_,?_⟩⟩
 ·
  obtain ⟨v,e1,e2⟩:=q4 c _ (at104 c (by omega))
  unfold rv at e2
  rw [if_neg n34,if_neg n92,if_neg (by omega)] at e2
  rw [e1,vsn e2]
 ·
  obtain ⟨v,e1,e2⟩:=q4 34 _ (at104 34 (by decide))
  obtain ⟨p',c',f1,f2⟩:=vsl (show VRel ρ (.slice (some ⟨107,0,none⟩) 2 1180591620717411303425) v from e2)
  have:p'=a:=by have:=f1.symm.trans a1;injection this
  subst this
  obtain ⟨x,x1,x2⟩:=a4 0 _ rfl
  obtain ⟨y,y1,y2⟩:=a4 1 _ rfl
  refine ⟨p'.b,c',by rw [e1,f2,a2],a3,by rw [x1,vint x2],by rw [y1,vint y2]⟩
 ·
  obtain ⟨v,e1,e2⟩:=q4 92 _ (at104 92 (by decide))
  obtain ⟨p',c',f1,f2⟩:=vsl (show VRel ρ (.slice (some ⟨110,0,none⟩) 2 1180591620717411303425) v from e2)
  have:p'=b:=by have:=f1.symm.trans b1;injection this
  subst this
  obtain ⟨x,x1,x2⟩:=b4 0 _ rfl
  obtain ⟨y,y1,y2⟩:=b4 1 _ rfl
  refine ⟨p'.b,c',by rw [e1,f2,b2],b3,by rw [x1,vint x2],by rw [y1,vint y2]⟩
 ·
  obtain ⟨v,e1,e2⟩:=q4 256 _ (at104 256 (by decide))
  obtain ⟨p',c',f1,f2⟩:=vsl (show VRel ρ (.slice (some ⟨103,0,none⟩) 2 2) v from e2)
  have:p'=t:=by have:=f1.symm.trans t1;injection this
  subst this
  obtain ⟨x,x1,x2⟩:=t4 0 _ rfl
  obtain ⟨y,y1,y2⟩:=t4 1 _ rfl
  refine ⟨p'.b,c',by rw [e1,f2,t2],t3,by rw [x1,vstr x2],by rw [y1,vstr y2]⟩
end Go.Proofs.YthbdlnflmfchjaaGreatDoor
namespace Go.Proofs.YthbdlnflmfchjaaGreatDoor
open Go Go.Shelf
def Tryz.lays138_ren:Go.Shelf.Ren:=⟨fun | 138=>425 | 195=>426 | 218=>427 | 143=>212 | 219=>258 | 217=>303 | 225=>304 | 224=>305 | 267=>306 | 266=>336 | 314=>337 | n=>n,fun | 9=>9 | 3=>3 | 4=>4 | 5=>5 | 0=>0 | 46=>262 | 146=>401 | 51=>310 | n=>n,fun | 1=>4 | n=>n⟩
theorem Tryz.lays138:Go.Proofs.Lays.n138 Tryz.prog Tryz.lays138_ren:={
 mixed:=by kernel_rfl
 f138:=Tryz.func425.trans (congrArg some (by kernel_rfl))
 f143:=Tryz.func212.trans (congrArg some (by kernel_rfl))
 f195:=Tryz.func426.trans (congrArg some (by kernel_rfl))
 f217:=Tryz.func303.trans (congrArg some (by kernel_rfl))
 f218:=Tryz.func427.trans (congrArg some (by kernel_rfl))
 f219:=Tryz.func258.trans (congrArg some (by kernel_rfl))
 f224:=Tryz.func305.trans (congrArg some (by kernel_rfl))
 f225:=Tryz.func304.trans (congrArg some (by kernel_rfl))
 f266:=Tryz.func336.trans (congrArg some (by kernel_rfl))
 f267:=Tryz.func306.trans (congrArg some (by kernel_rfl))
 f314:=Tryz.func337.trans (congrArg some (by kernel_rfl))
 t0:=Tryz.underlying0
 a0:=Tryz.isAgg0
 z0:=Tryz.sizeOf0
 v0:=Tryz.zeroValue0
 t3:=Tryz.underlying3
 a3:=Tryz.isAgg3
 z3:=Tryz.sizeOf3
 v3:=Tryz.zeroValue3
 t4:=Tryz.underlying4
 a4:=Tryz.isAgg4
 z4:=Tryz.sizeOf4
 v4:=Tryz.zeroValue4
 t5:=Tryz.underlying5
 a5:=Tryz.isAgg5
 z5:=Tryz.sizeOf5
 v5:=Tryz.zeroValue5
 t9:=Tryz.underlying9
 a9:=Tryz.isAgg9
 z9:=Tryz.sizeOf9
 v9:=Tryz.zeroValue9
 t46:=Tryz.underlying262
 a46:=Tryz.isAgg262
 z46:=Tryz.sizeOf262
 v46:=Tryz.zeroValue262
 t51:=Tryz.underlying310
 a51:=Tryz.isAgg310
 z51:=Tryz.sizeOf310
 v51:=Tryz.zeroValue310
 t146:=Tryz.underlying401
 a146:=Tryz.isAgg401
 z146:=Tryz.sizeOf401
 v146:=Tryz.zeroValue401
 g1:=by kernel_rfl }
end Go.Proofs.YthbdlnflmfchjaaGreatDoor
namespace Go.Proofs.YthbdlnflmfchjaaGreatDoor
open Go.RowKit Go.Proofs.Fm
theorem count_says (x:ByteArray) (c:UInt8) (w:World):Calls Tryz.prog 425 #[.string x,.string ⟨#[c]⟩] w fun e w'=>e=.returned (.int .i64 ((bytesOf x).count c:Nat))∧w'=w:=Any.strings_Count_one Tryz.lays138 x c w
theorem esc_length:∀ l:List UInt8,(esc l).length=l.length+l.count 34+l.count 92
 | []=>by rw [esc];rfl
 | c :: l=>by
  have h:=esc_length l
  rw [esc,List.count_cons,List.count_cons]
  by_cases h1:c=34
  ·
   subst h1
   rw [if_pos (.inl rfl)]
   simp only [List.length_cons,h]
   have:((34:UInt8) == 92)=false:=by decide
   simp [this];omega
  ·
   by_cases h2:c=92
   ·
    subst h2
    rw [if_pos (.inr rfl)]
    simp only [List.length_cons,h]
    have:((92:UInt8) == 34)=false:=by decide
    simp [this];omega
   ·
    rw [if_neg (by simp [h1,h2])]
    have e1:(c == 34)=false:=beq_eq_false_iff_ne.2 h1
    have e2:(c == 92)=false:=beq_eq_false_iff_ne.2 h2
    simp only [List.length_cons,h,e1,e2]
    simp;omega
theorem esc_none:∀ l:List UInt8,l.count 34=0→l.count 92=0→esc l=l
 | [],_,_=>by rw [esc]
 | c :: l,h1,h2=>by
  rw [List.count_cons] at h1 h2
  have e1:(c == 34)=false:=by cases h:c == 34 with
   | false=>rfl
   | true=>rw [h] at h1;simp at h1
  have e2:(c == 92)=false:=by cases h:c == 92 with
   | false=>rfl
   | true=>rw [h] at h2;simp at h2
  rw [e1] at h1
  rw [e2] at h2
  rw [esc,if_neg (by rw [beq_eq_false_iff_ne] at e1 e2;simp [e1,e2]),esc_none l (by simpa using h1) (by simpa using h2)]
theorem esc_app (a b:List UInt8):esc (a ++ b)=esc a ++ esc b:=by
 induction a with
 | nil=>rw [esc];rfl
 | cons c a ih=>
  rw [List.cons_append,esc,esc,ih]
  split <;> rfl
end Go.Proofs.YthbdlnflmfchjaaGreatDoor
