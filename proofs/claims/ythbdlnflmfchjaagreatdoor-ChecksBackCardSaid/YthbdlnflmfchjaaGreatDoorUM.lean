/- The library's small functions on kinds and names, as the program's typed uses them. -/
import Derived.Test.YthbdlnflmfchjaaGreatDoorUT
import Derived.Test.YthbdlnflmfchjaaGreatDoorTC
import Derived.Test.YthbdlnflmfchjaaGreatDoorUJ
import Derived.Deep.CutRange
import Derived.Deep.RegionLaw
import Derived.BigQuiet
set_option linter.unusedVariables false
set_option linter.unusedSimpArgs false
namespace Go.Proofs.YthbdlnflmfchjaaGreatDoor
open Go.RowKit Go.Proofs.Fm Go.Proofs.MapEnt
set_option maxHeartbeats 1600000
set_option maxRecDepth 1000000
theorem cell_oneU {w:World} {g T:Nat} {v:Value} (h:w.heap[g]?=some (.cells #[v] T)):w.cell? ⟨g,0,none⟩=some v:=by unfold World.cell?;rw [h];rfl
def KsAt (w:World) (G:Option Addr) (ks:List Nat):Prop:=∀ i (h:i < ks.length),∃ b,G=some ⟨b,0,none⟩∧b < w.heap.size∧w.cell? ⟨b,i,none⟩=some (.int .u8 (ks[i]:Nat))
theorem KsAt.up {w w':World} {G:Option Addr} {ks:List Nat} (h:KsAt w G ks) (hs:w.Since w.heap.size w'):KsAt w' G ks:=fun i hi=>by
 obtain ⟨b,h1,h2,h3⟩:=h i hi
 exact ⟨b,h1,Nat.lt_of_lt_of_le h2 hs.size,(hs.cell (a:=⟨b,i,none⟩) h2).trans h3⟩
theorem drop_eq {ks ks':List Nat} {i:Nat} (h:i < ks.length) (h':i < ks'.length):decide (ks.drop i=ks'.drop i)=(decide (ks[i]=ks'[i]) && decide (ks.drop (i+1)=ks'.drop (i+1))):=by
 rw [← Bool.decide_and]
 apply decide_eq_decide.2
 conv=>lhs;rw [List.drop_eq_getElem_cons h,List.drop_eq_getElem_cons h']
 exact ⟨fun e=>by injection e with e1 e2;exact ⟨e1,e2⟩,fun e=>by rw [e.1,e.2]⟩
theorem pequal_says (ks ks':List Nat) (w:World) (G G':Option Addr) (c c':Nat) (h:KsAt w G ks) (h':KsAt w G' ks') (hl:ks.length≤100000):
  Calls Tryz.prog 98 #[.slice G ks.length c,.slice G' ks'.length c'] w fun E w'=>E=.returned (.bool (decide (ks=ks')))∧w.Since w.heap.size w':=by
 have HK:=Lib.hid h
 have HK':=Lib.hid h'
 clear h h'
 by_cases q:ks.length=ks'.length
 ·
  have f0:((ks.length:Int) != (ks'.length:Int))=false:=by rw [q];simp
  have HL:=Lib.hid q
  have HR:Hid (decide (ks=ks')=decide (ks.drop 0=ks'.drop 0)):=Lib.hid rfl
  generalize decide (ks=ks')=R at HR ⊢
  clear q
  go_enter Tryz.func98,Tryz.ntmps98
  go_wp2_with fail
  go_loopg [13] ks.length (fun gg o13 wr=>∃ (i:Nat),gg=ks.length - i∧i≤ks.length∧o13=.int .i64 (i:Nat)∧Hid (R=decide (ks.drop i=ks'.drop i))∧Hid (w.Since w.heap.size wr))
  case atStart=>exact ⟨0,rfl,Nat.zero_le _,rfl,HR,Lib.hid (World.Since.refl _ _)⟩
  case round=>
   obtain ⟨i,rfl,hi,rfl,hE,hW⟩:=hrel
   by_cases h1:i < ks.length
   ·
    have h2:i < ks'.length:=by have:=HL.out;omega
    obtain ⟨b,rfl,hb,g0⟩:=(HK.out.up hW.out) i h1
    obtain ⟨b',rfl,hb',g1⟩:=(HK'.out.up hW.out) i h2
    have hE2:=Lib.hid (hE.out.trans (drop_eq h1 h2))
    have i1:(i:Int) < (ks.length:Int):=by omega
    have i2:(i:Int) < (ks'.length:Int):=by omega
    have z5:IntKind.i64.wrap ((i:Int)+1)=(i:Int)+1:=IntWalk.i64_in _ (by omega)
    have W2:=Lib.hid hW.out.drew
    generalize ks[i]=a at g0 hE2
    generalize ks'[i]=a' at g1 hE2
    by_cases q1:a=a'
    ·
     have f1:((a:Int) != (a':Int))=false:=bne_eq_false_iff_eq.2 (by omega)
     have hE3:Hid (R=decide (ks.drop (i+1)=ks'.drop (i+1))):=Lib.hid (by rw [hE2.out,decide_eq_true q1];rfl)
     clear q1
     go_wp2_with fail
     go_region
     all_goals go_wp2_with fail
     all_goals (
      go_roundg (ks.length - (i+1))
      case measure=>omega
      case rel=>exact ⟨i+1,rfl,by omega,by simp,hE3,W2⟩)
    ·
     have f1:((a:Int) != (a':Int))=true:=bne_iff_ne.2 (by omega)
     have hE3:Hid (R=false):=Lib.hid (by rw [hE2.out,decide_eq_false q1];rfl)
     clear q1
     go_wp2_with fail
     go_region
     all_goals go_wp2_with fail
     all_goals (
      go_ret
      exact ⟨by rw [hE3.out];rfl,W2.out⟩)
   ·
    have i1:¬ (i:Int) < (ks.length:Int):=by omega
    have hE3:Hid (R=true):=Lib.hid (by rw [hE.out,List.drop_of_length_le (by omega),List.drop_of_length_le (by have:=HL.out;omega)];rfl)
    go_wp2_with fail
    go_ret
    exact ⟨by rw [hE3.out];rfl,hW.out⟩
 ·
  have f0:((ks.length:Int) != (ks'.length:Int))=true:=bne_iff_ne.2 (by omega)
  have HR:Hid (decide (ks=ks')=false):=Lib.hid (decide_eq_false (fun e=>q (by rw [e])))
  clear q
  go_enter Tryz.func98,Tryz.ntmps98
  go_wp2_with fail
  go_ret
  exact ⟨by rw [HR.out];rfl,World.Since.refl _ _⟩
theorem kind_ne (a k bx:Nat) (w:World) (hb:w.cell? ⟨bx,0,none⟩=some (.int .u8 (k:Nat))):Calls Tryz.prog 96 #[.int .u8 (a:Nat),.pointer (some ⟨bx,0,none⟩)] w fun E w'=>E=.returned (.bool (decide (a ≠ k)))∧w'=w:=by
 by_cases q:a=k
 ·
  have f1:((a:Int) != (k:Int))=false:=bne_eq_false_iff_eq.2 (by omega)
  have HR:Hid (decide (a ≠ k)=false):=Lib.hid (decide_eq_false (fun h=>h q))
  clear q
  go_enter Tryz.func96,Tryz.ntmps96
  go_wp2_with fail
  go_ret
  exact ⟨by rw [HR.out];rfl,rfl⟩
 ·
  have f1:((a:Int) != (k:Int))=true:=bne_iff_ne.2 (by omega)
  have HR:Hid (decide (a ≠ k)=true):=Lib.hid (decide_eq_true q)
  clear q
  go_enter Tryz.func96,Tryz.ntmps96
  go_wp2_with fail
  go_ret
  exact ⟨by rw [HR.out];rfl,rfl⟩
theorem index_says (ks:List Nat) (k bx:Nat) (w:World) (G:Option Addr) (c:Nat) (h:KsAt w G ks) (hl:ks.length≤100000) (hb:w.cell? ⟨bx,0,none⟩=some (.int .u8 (k:Nat))):
  Calls Tryz.prog 170 #[.slice G ks.length c,.func (.func 96) #[] #[.pointer (some ⟨bx,0,none⟩)]] w fun E w'=>(∃ j:Int,E=.returned (.int .i64 j)∧(0≤j ↔ ks.any (fun a=>decide (a ≠ k))=true))∧w'=w:=by
 have HK:=Lib.hid h
 have KN:=Lib.hid (fun a=>kind_ne a k bx w hb)
 have HR:Hid (ks.any (fun a=>decide (a ≠ k))=(ks.drop 0).any (fun a=>decide (a ≠ k))):=Lib.hid rfl
 generalize ks.any (fun a=>decide (a ≠ k))=R at HR ⊢
 clear h
 go_enter Tryz.func170,Tryz.ntmps170
 go_wp2_with fail
 go_loopg [8] ks.length (fun gg o8 wr=>∃ (i:Nat),gg=ks.length - i∧i≤ks.length∧o8=.int .i64 (i:Nat)∧Hid (R=(ks.drop i).any (fun a=>decide (a ≠ k)))∧wr=w)
 case atStart=>exact ⟨0,rfl,Nat.zero_le _,rfl,HR,rfl⟩
 case round=>
  obtain ⟨i,rfl,hi,rfl,hE,rfl⟩:=hrel
  by_cases h1:i < ks.length
  ·
   obtain ⟨b,rfl,hb',g0⟩:=HK.out i h1
   have hE2:Hid (R=(decide (ks[i] ≠ k) || (ks.drop (i+1)).any (fun a=>decide (a ≠ k)))):=Lib.hid (by rw [hE.out,List.drop_eq_getElem_cons h1,List.any_cons])
   have i1:(i:Int) < (ks.length:Int):=by omega
   have z5:IntKind.i64.wrap ((i:Int)+1)=(i:Int)+1:=IntWalk.i64_in _ (by omega)
   have K1:=Lib.hid (KN.out ks[i])
   generalize ks[i]=a at g0 hE2 K1
   cases hq:decide (a ≠ k) with
   | true=>
    rw [hq] at K1 hE2
    have hE3:Hid (R=true):=Lib.hid hE2.out
    clear hq
    go_wp2_with fail
    refine K1.out.mono ?_
    rintro r0 w2 ⟨rfl,rfl⟩
    go_wp2_with fail
    go_ret
    exact ⟨⟨_,rfl,by rw [hE3.out];simp⟩,rfl⟩
   | false=>
    rw [hq] at K1 hE2
    have hE3:Hid (R=(ks.drop (i+1)).any (fun a=>decide (a ≠ k))):=Lib.hid hE2.out
    clear hq
    go_wp2_with fail
    refine K1.out.mono ?_
    rintro r0 w2 ⟨rfl,rfl⟩
    go_wp2_with fail
    go_roundg (ks.length - (i+1))
    case measure=>omega
    case rel=>exact ⟨i+1,rfl,by omega,by simp,hE3,rfl⟩
  ·
   have i1:¬ (i:Int) < (ks.length:Int):=by omega
   have hE3:Hid (R=false):=Lib.hid (by rw [hE.out,List.drop_of_length_le (by omega)];rfl)
   go_wp2_with fail
   go_ret
   exact ⟨⟨_,rfl,by rw [hE3.out];simp⟩,rfl⟩
theorem any_all (ks:List Nat) (k:Nat):(!ks.any (fun a=>decide (a ≠ k)))=ks.all (fun a=>decide (a=k)):=by
 rw [List.not_any_eq_all_not]
 congr 1
 funext a
 by_cases h:a=k
 ·
  rw [decide_eq_true h,decide_eq_false (fun h2=>h2 h)];rfl
 ·
  rw [decide_eq_false h,decide_eq_true h];rfl
theorem pcontainsf_says (ks:List Nat) (k bx:Nat) (w:World) (G:Option Addr) (c:Nat) (h:KsAt w G ks) (hl:ks.length≤100000) (hb:w.cell? ⟨bx,0,none⟩=some (.int .u8 (k:Nat))):
  Calls Tryz.prog 95 #[.slice G ks.length c,.func (.func 96) #[] #[.pointer (some ⟨bx,0,none⟩)]] w fun E w'=>E=.returned (.bool (ks.any (fun a=>decide (a ≠ k))))∧w'=w:=by
 have KI:=Lib.hid (index_says ks k bx w G c h hl hb)
 generalize ks.any (fun a=>decide (a ≠ k))=R at KI ⊢
 clear h
 go_enter Tryz.func95,Tryz.ntmps95
 go_wp2_with fail
 refine KI.out.mono ?_
 rintro r0 w2 ⟨⟨j,rfl,hj⟩,rfl⟩
 cases R with
 | true=>
  have f1:j ≥ 0:=hj.2 rfl
  clear hj
  go_wp2_with fail
  go_ret
  exact ⟨rfl,rfl⟩
 | false=>
  have f1:¬ j ≥ 0:=fun h=>by have:=hj.1 h;cases this
  have F1:Hid (decide (0≤j)=false):=Lib.hid (decide_eq_false f1)
  clear hj
  go_wp2_with fail
  go_ret
  exact ⟨by rw [← F1.out];rfl,rfl⟩
theorem pall_says (ks:List Nat) (k tb:Nat) (w:World) (G:Option Addr) (c:Nat) (h:KsAt w G ks) (hl:ks.length≤100000) (ht:w.cell? ⟨tb,0,none⟩=some (.slice G ks.length c)) (htl:tb < w.heap.size):
  Calls Tryz.prog 94 #[.int .u8 (k:Nat),.pointer (some ⟨tb,0,none⟩)] w fun E w'=>E=.returned (.bool (ks.all (fun a=>decide (a=k))))∧w.Since w.heap.size w':=by
 have hs:w.Since w.heap.size (w.alloc (.cells #[.int .u8 (k:Nat)] 104)):=(World.Since.refl _ _).alloc (Nat.le_refl _) _
 have hb:=heap_alloc_new w (.cells #[.int .u8 (k:Nat)] 104)
 have KC:=Lib.hid (pcontainsf_says ks k w.heap.size _ G c (h.up hs) hl (by unfold World.cell?;rw [hb];rfl))
 have HR:=Lib.hid (any_all ks k)
 have ht2:(w.alloc (.cells #[.int .u8 (k:Nat)] 104)).cell? ⟨tb,0,none⟩=_:=(World.cell?_alloc_lt w _ ⟨tb,0,none⟩ htl).trans ht
 have HS:=Lib.hid hs
 generalize ks.any (fun a=>decide (a ≠ k))=R at KC HR
 clear h hs hb
 rw [← HR.out]
 go_enter Tryz.func94,Tryz.ntmps94
 go_wp2_with fail
 refine KC.out.mono ?_
 rintro r0 w2 ⟨rfl,rfl⟩
 go_wp2_with fail
 exact bodyPost_ret (v:=.bool (!R)) (by simp [results,Tryz.results94,go_sem]) rfl ⟨rfl,HS.out⟩
end Go.Proofs.YthbdlnflmfchjaaGreatDoor
namespace Go.Proofs.YthbdlnflmfchjaaGreatDoor
open Go.RowKit Go.Proofs.Fm Go.Proofs.MapEnt Go.Proofs.Uni Go.Proofs.StrIt
set_option maxHeartbeats 6400000
set_option maxRecDepth 1000000
theorem info304:(Tryz.prog.info? 304).map (fun i=>(i.zero,i.size,i.bytes))=some (some (.agg #[.slice none 0 0,.slice none 0 0,.bool false]),3,56):=by kernel_rfl
theorem brkE_items (p:ByteArray):brkE p=match itemsR p with
 | none=>4
 | some n=>if 32 < n then 3 else 0:=by
 unfold brkE itemsR
 cases hT:isT p with
 | false=>
  rw [if_neg (by simp)]
  cases itN (runes p.data.toList) with
  | none=>rfl
  | some n=>simp
 | true=>
  rw [if_pos rfl]
  cases itN (runes p.data.toList) with
  | none=>rfl
  | some n=>simp
theorem items_empty:itemsR ⟨#[]⟩=some 0:=by
 unfold itemsR
 rw [isT_empty,if_pos rfl,runes_empty,itN_nil]
theorem Tabs.up2 {w w':World} (h:Tabs w) (hb:w.Since w.heap.size w'):Tabs w':=Utf8Tabs_below h ⟨hb.os,hb.tape,hb.output,hb.size,hb.block⟩
theorem arr_cells {W:World} {b:Nat} {v0 v1:Value} {T:Nat} (h:W.heap[b]?=some (.cells #[v0,v1] T)):W.cell? ⟨b,0,none⟩=some v0∧W.cell? ⟨b,1,none⟩=some v1∧∀ j,W.frozen? ⟨b,j,none⟩=false:=by
 refine ⟨?_,?_,fun j=>?_⟩
 ·
  unfold World.cell?;rw [h];rfl
 ·
  unfold World.cell?;rw [h];rfl
 ·
  unfold World.frozen?;rw [h];simp
theorem arr_set {W:World} {b:Nat} {v0 v1:Value} {T:Nat} (h:W.heap[b]?=some (.cells #[v0,v1] T)) (v:Value):(W.setCell ⟨b,0,none⟩ v).heap[b]?=some (.cells #[v,v1] T)∧(W.setCell ⟨b,1,none⟩ v).heap[b]?=some (.cells #[v0,v] T):=by
 constructor <;> simp [World.setCell,Array.getElem?_modify,h]
theorem since_setB {w W:World} {B:Nat} (h:w.Since w.heap.size W) (hB:w.heap.size≤B) (j:Nat) (v:Value):w.Since w.heap.size (W.setCell ⟨B,j,none⟩ v):=
 ⟨h.os,h.tape,h.output,by simp;exact h.size,fun k hk=>(Go.Deep.blk_setCell_other _ _ _ _ (by dsimp only;omega)).trans (h.block k hk)⟩
theorem compiled_says (p:ByteArray) (w:World) (g:Nat) (hp:p.size≤100000) (c0:w.cell? ⟨g,0,none⟩=some (.string ⟨#[]⟩)) (c1:w.cell? ⟨g,1,none⟩=some (.string p)) (c2:w.cell? ⟨g,2,none⟩=some (.bool false)) (hg:g < w.heap.size) (hT:Tabs w):
  Calls Tryz.prog 172 #[.slice (some ⟨g,0,none⟩) 1 1] w fun E w'=>(∃ v,E=.returned (.tuple #[v,.int .u8 (brkE p:Nat)]))∧w.Since w.heap.size w':=by
 have HT:=Lib.hid hT
 have KI:=Lib.hid (fun (s:ByteArray) W (h:s.size≤100000) (hs:w.Since w.heap.size W)=>items_says s W h (hT.up2 hs))
 have HB:=Lib.hid (brkE_items p)
 generalize brkE p=K at HB ⊢
 clear hT
 go_enter Tryz.func172,Tryz.ntmps172
 go_wp2_with fail
 go_loopg [4,17] 1 (fun gg o4 o17 wr=>(gg=1∧o4=.slice none 0 0∧o17=.int .i64 0∧wr=w) ∨ (gg=0∧o17=.int .i64 1∧Hid (K=0)∧Hid (w.Since w.heap.size wr)))
 case atStart=>exact .inl ⟨rfl,rfl,rfl,rfl⟩
 case round=>
  rcases hrel with ⟨rfl,rfl,rfl,rfl⟩ | ⟨rfl,rfl,hK,hW⟩
  ·
   obtain ⟨wo,hwo⟩:∃ wo,wo=wr:=⟨_,rfl⟩
   subst hwo
   go_wp2_with fail
   have A0:=heap_alloc_new wo (.cells #[.string ⟨#[]⟩,.string p,.bool false] 185)
   have A1:=heap_alloc_new (wo.alloc (.cells #[.string ⟨#[]⟩,.string p,.bool false] 185)) (.cells #[.slice none 0 0,.slice none 0 0] 300)
   have A2:=heap_alloc_new ((wo.alloc (.cells #[.string ⟨#[]⟩,.string p,.bool false] 185)).alloc (.cells #[.slice none 0 0,.slice none 0 0] 300)) (.cells #[.string ⟨#[]⟩,.string p] 9)
   simp only [World.size_alloc] at A1 A2
   have A0:=Lib.hid ((Go.Deep.blk_alloc_lt _ (.cells #[.string ⟨#[]⟩,.string p] 9) _ (by simp;omega)).trans ((Go.Deep.blk_alloc_lt _ (.cells #[.slice none 0 0,.slice none 0 0] 300) _ (by simp)).trans A0))
   have A1:=Lib.hid ((Go.Deep.blk_alloc_lt _ (.cells #[.string ⟨#[]⟩,.string p] 9) _ (by simp)).trans A1)
   have A2:=Lib.hid A2
   have S3:Hid (wo.Since wo.heap.size (((wo.alloc (.cells #[.string ⟨#[]⟩,.string p,.bool false] 185)).alloc (.cells #[.slice none 0 0,.slice none 0 0] 300)).alloc (.cells #[.string ⟨#[]⟩,.string p] 9))):=Lib.hid ((((World.Since.refl _ _).alloc (Nat.le_refl _) _).alloc (by simp) _).alloc (by simp;omega) _)
   go_loopg [27] 2 (fun gg o27 wr=>∃ (j n0 n1 q0 q1:Nat) (G0 G1:Option Addr),gg=2 - j∧j≤2∧o27=.int .i64 (j:Nat)∧Hid (wo.Since wo.heap.size wr)∧Hid (wr.heap[wo.heap.size]?=some (.cells #[.string ⟨#[]⟩,.string p,.bool false] 185))∧Hid (wr.heap[wo.heap.size+1]?=some (.cells #[.slice G0 n0 q0,.slice G1 n1 q1] 300))∧Hid (wr.heap[wo.heap.size+1+1]?=some (.cells #[.string ⟨#[]⟩,.string p] 9))∧Hid (j=2→K=0))
   case atStart=>exact ⟨0,0,0,0,0,none,none,rfl,by omega,rfl,S3,A0,A1,A2,Lib.hid (fun h=>by cases h)⟩
   case round=>
    obtain ⟨j,n0,n1,q0,q1,G0,G1,rfl,hj,rfl,hS,hA,hB,hC,hK⟩:=hrel
    obtain ⟨a0,a1,af⟩:=arr_cells hB.out
    obtain ⟨l0,l1,-⟩:=arr_cells hC.out
    rcases (by omega:j=0 ∨ j=1 ∨ j=2) with rfl | rfl | rfl
    ·
     have K1:=KI.out ⟨#[]⟩ wr (by show 0≤100000;omega) hS.out
     rw [items_empty] at K1
     have K1:=Lib.hid K1
     go_wp2_with fail
     refine K1.out.mono ?_
     rintro r0 w2 ⟨⟨G,c,rfl⟩,s2⟩
     have W2:=Lib.hid (wr_since hS.out s2)
     have A2:=Lib.hid ((s2.block _ (blk_lt hA.out)).trans hA.out)
     have B2:=Lib.hid ((s2.block _ (blk_lt hB.out)).trans hB.out)
     have C2:=Lib.hid ((s2.block _ (blk_lt hC.out)).trans hC.out)
     obtain ⟨a0,a1,af⟩:=arr_cells B2.out
     clear s2 K1
     go_wp2_with fail
     go_roundg 1
     case measure=>omega
     case rel=>exact ⟨1,0,n1,c,q1,G,G1,rfl,by omega,rfl,Lib.hid (since_setB W2.out (by omega) _ _),Lib.hid ((Go.Deep.blk_setCell_other _ _ _ _ (by simp)).trans A2.out),Lib.hid ((arr_set B2.out _).1),Lib.hid ((Go.Deep.blk_setCell_other _ _ _ _ (by simp)).trans C2.out),Lib.hid (fun h=>by cases h)⟩
    ·
     have K1:=Lib.hid (KI.out p wr hp hS.out)
     cases hq:itemsR p with
     | none=>
      rw [hq] at K1
      have HK:Hid (K=4):=Lib.hid (by rw [HB.out,hq])
      clear hq
      go_wp2_with fail
      refine K1.out.mono ?_
      rintro r0 w2 ⟨hr,s2⟩
      have hr:r0=.returned (.tuple #[.slice none 0 0,.bool false]):=hr
      subst hr
      have W2:=Lib.hid (wr_since hS.out s2)
      clear s2 K1
      go_wp2_with fail
      exact bodyPost_ret (v:=.tuple #[.slice none 0 0,.int .u8 4]) (by simp [results,Tryz.results172,go_sem]) rfl ⟨⟨_,by rw [HK.out];rfl⟩,W2.out⟩
     | some n=>
      rw [hq] at K1
      by_cases q2:32 < n
      ·
       have HK:Hid (K=3):=Lib.hid (by rw [HB.out,hq];exact if_pos q2)
       have f2:(32:Int) < (n:Int):=by omega
       clear hq q2
       go_wp2_with fail
       refine K1.out.mono ?_
       rintro r0 w2 ⟨⟨G,c,rfl⟩,s2⟩
       have W2:=Lib.hid (wr_since hS.out s2)
       clear s2 K1
       go_wp2_with fail
       exact bodyPost_ret (v:=.tuple #[.slice none 0 0,.int .u8 3]) (by simp [results,Tryz.results172,go_sem]) rfl ⟨⟨_,by rw [HK.out];rfl⟩,W2.out⟩
      ·
       have HK:Hid (K=0):=Lib.hid (by rw [HB.out,hq];exact if_neg q2)
       have f2:¬ (32:Int) < (n:Int):=by omega
       clear hq q2
       go_wp2_with fail
       refine K1.out.mono ?_
       rintro r0 w2 ⟨⟨G,c,rfl⟩,s2⟩
       have W2:=Lib.hid (wr_since hS.out s2)
       have A2:=Lib.hid ((s2.block _ (blk_lt hA.out)).trans hA.out)
       have B2:=Lib.hid ((s2.block _ (blk_lt hB.out)).trans hB.out)
       have C2:=Lib.hid ((s2.block _ (blk_lt hC.out)).trans hC.out)
       obtain ⟨a0,a1,af⟩:=arr_cells B2.out
       clear s2 K1
       go_wp2_with fail
       go_roundg 0
       case measure=>omega
       case rel=>exact ⟨2,n0,n,q0,c,G0,G,rfl,by omega,rfl,Lib.hid (since_setB W2.out (by omega) _ _),Lib.hid ((Go.Deep.blk_setCell_other _ _ _ _ (by simp)).trans A2.out),Lib.hid ((arr_set B2.out _).2),Lib.hid ((Go.Deep.blk_setCell_other _ _ _ _ (by simp)).trans C2.out),Lib.hid (fun _=>HK.out)⟩
    ·
     have HK:=Lib.hid (hK.out rfl)
     obtain ⟨-,-,b2⟩:=cells3 hA.out
     obtain ⟨v',w6,g',cap',r1,hv',hg1,hg2,O6,S6,-⟩:=append_one Tryz.underlying235 info304 rfl (by decide) (by decide) wr wo.heap.size none 0 0 [] [.slice G0 n0 q0,.slice G1 n1 q1,.bool false] (World.ownsRow_nil _ _ _ _) rfl (fun u hu=>by
      simp only [List.mem_cons,List.not_mem_nil,or_false] at hu
      rcases hu with rfl | rfl | rfl <;> rfl) (by omega) hS.out.size
     subst hv'
     have W6:Hid (wo.Since wo.heap.size w6):=Lib.hid (hS.out.trans S6.out)
     clear hg1 hg2 S6
     go_wp2_with (refine wpList_append_g (ts:=235) (v:=.slice none 0 0) (xv:=.slice (some ⟨wr.heap.size,0,none⟩) 1 1) (v':=.slice (some ⟨g',0,none⟩) (0+1) cap') (w':=w6) ?_ (.tmp 46) (.tmp 54) ?_ ?_ ?_ ?_ ?_ ?_;exact rfl;exact rfl;exact rfl;exact rfl;exact rfl;exact r1)
     go_roundg 0
     case measure=>omega
     case rel=>exact .inr ⟨rfl,rfl,HK,W6⟩
  ·
   have HK:=hK
   have W2:=hW
   go_wp2_with fail
   refine bodyPost_ret (v:=.tuple #[u4,.int .u8 0]) (by simp [results,Tryz.results172,go_sem]) rfl ⟨⟨_,by rw [HK.out];rfl⟩,W2.out⟩
theorem pbreaks_says (p:ByteArray) (w:World) (g:Nat) (hp:p.size≤100000) (c0:w.cell? ⟨g,0,none⟩=some (.string ⟨#[]⟩)) (c1:w.cell? ⟨g,1,none⟩=some (.string p)) (c2:w.cell? ⟨g,2,none⟩=some (.bool false)) (hg:g < w.heap.size) (hT:Tabs w):
  Calls Tryz.prog 99 #[.slice (some ⟨g,0,none⟩) 1 1] w fun E w'=>E=.returned (.int .u8 (brkE p:Nat))∧w.Since w.heap.size w':=by
 have KC:=Lib.hid (compiled_says p w g hp c0 c1 c2 hg hT)
 generalize brkE p=K at KC ⊢
 clear c0 c1 c2 hT
 go_enter Tryz.func99,Tryz.ntmps99
 go_wp2_with fail
 refine KC.out.mono ?_
 rintro r0 w2 ⟨⟨v,rfl⟩,s2⟩
 have W2:=Lib.hid s2
 clear s2
 go_wp2_with fail
 go_ret
 exact ⟨rfl,W2.out⟩
end Go.Proofs.YthbdlnflmfchjaaGreatDoor
namespace Go.Proofs.YthbdlnflmfchjaaGreatDoor
open Go.RowKit Go.Proofs.Fm Go.Proofs.MapEnt
set_option maxHeartbeats 200000
set_option maxRecDepth 1000000
theorem pclone_says (ns:List ByteArray) (w:World) (Gn:Option Addr) (cn:Nat) (h:NsAt w Gn ns) (hn:ns.length≤1000) (hz:Gn=none→cn=0):
  Calls Tryz.prog 93 #[.slice Gn ns.length cn] w fun E w'=>∃ G c,E=.returned (.slice G ns.length c)∧w'.ownsRow w.heap.size 9 1 (.slice G ns.length c) ns.length (ns.map Value.string)∧w.Since w.heap.size w':=by
 have e0:∀ W,(binOp BinOp.eql 70 (.slice none 0 0) (.slice none 0 0)).run Tryz.prog W=.ok (.bool true) W:=fun _=>rfl
 have e1:∀ a n c W,(binOp BinOp.eql 70 (.slice (some a) n c) (.slice none 0 0)).run Tryz.prog W=.ok (.bool false) W:=fun _ _ _ _=>rfl
 rcases h with ⟨rfl,rfl⟩ | ⟨b,rfl,hs⟩
 ·
  obtain rfl:=hz rfl
  go_enter Tryz.func93,Tryz.ntmps93
  go_wp2_with fail
  go_ret
  exact ⟨none,0,rfl,World.ownsRow_nil _ _ _ _,World.Since.refl _ _⟩
 ·
  have s0:w.Since w.heap.size (w.alloc E0):=(World.Since.refl _ _).alloc (Nat.le_refl _) _
  obtain ⟨W1,g1,c1,a1,a2,a3,-⟩:=app_names (W:=w.alloc E0) (E:=w.heap.size) (base:=w.heap.size) (Gn:=some ⟨b,0,none⟩) (ns:=ns) cn (heap_alloc_new w E0) (Nat.le_refl _) s0.size (.inr ⟨b,rfl,hs.up s0⟩) (by omega)
  have s1:=Lib.hid (s0.trans a3.out)
  unfold E0 at a1
  go_enter Tryz.func93,Tryz.ntmps93
  go_wp2_with (refine wpList_append_g (ts:=70) (v:=.slice (some ⟨w.heap.size,0,none⟩) 0 0) (xv:=.slice (some ⟨b,0,none⟩) ns.length cn) (v':=.slice (some ⟨g1,0,none⟩) ns.length c1) (w':=W1) ?_ (.tmp 5) (.tmp 6) ?_ ?_ ?_ ?_ ?_ ?_;exact rfl;exact rfl;exact rfl;exact rfl;exact rfl;exact a1)
  go_ret
  exact ⟨_,_,rfl,a2.out,s1.out⟩
theorem app_textG {W:World} {base X n cp:Nat} {G:Option Addr} {ns:List ByteArray} (x:ByteArray) (hO:W.ownsRow base 9 1 (.slice G n cp) n (ns.map Value.string)) (hl:ns.length=n) (hX:W.cell? ⟨X,0,none⟩=some (.string x)) (hbase:base≤W.heap.size) (hn:n≤100000):
  ∃ W' g' cp',(Builtin.append_ #[70,70] 70 #[.slice G n cp,.slice (some ⟨X,0,none⟩) 1 1]).run Tryz.prog W=.ok (.slice (some ⟨g',0,none⟩) (n+1) cp') W'∧Hid (SsAt W' g' (ns ++ [x]))∧Hid (W.Since base W'):=by
 obtain ⟨i0,hi,hz0,hz1,hz2⟩:=info_parts info9
 obtain ⟨v',w',r1,r2,r3,r0,r4⟩:=run_append_own_at (P:=Tryz.prog) (w:=W) base 70 70 9 i0 (.string ByteArray.empty) 1 16 Tryz.underlying70 hi hz0 hz1 hz2 rfl (by decide) _ n (ns.map Value.string) hO ⟨X,0,none⟩ 1 1 [.string x] rfl
  (fun j u hu=>by
   match j,hu with
   | 0,hu=>cases hu;exact hX)
  (fun u hu=>by
   rw [List.mem_singleton.1 hu];rfl) (by simp only [maxLen];omega) (by omega) hbase
 obtain ⟨g',cp',rfl,hg'⟩:∃ g' cp',v'=.slice (some ⟨g',0,none⟩) (n+1) cp'∧g' < w'.heap.size:=by
  rcases r2.2 with ⟨_,e2⟩ | ⟨g',cp,cur,e,_,h3,_⟩
  ·
   omega
  ·
   exact ⟨g',cp,e,blk_lt h3⟩
 refine ⟨w',g',cp',r1,Lib.hid ⟨hg',fun j hj=>?_⟩,Lib.hid ((World.Since.refl base W).grown r3 hbase (fun q hq=>own_ge hO q hq))⟩
 have h1:=r2.cells (g:=g') rfl j (.string (ns ++ [x])[j]) (by
  rw [← List.map_singleton (f:=Value.string),← List.map_append,List.getElem?_map,List.getElem?_eq_getElem hj]
  rfl)
 have e1:((⟨g',0,none⟩:Addr).add j)=⟨g',j,none⟩:=by unfold Addr.add;split <;> simp_all
 rw [e1] at h1
 exact h1
end Go.Proofs.YthbdlnflmfchjaaGreatDoor
namespace Go.Proofs.YthbdlnflmfchjaaGreatDoor
open Go.RowKit Go.Proofs.Fm Go.Proofs.MapEnt
set_option maxHeartbeats 200000
set_option maxRecDepth 1000000
theorem index_nil (x:ByteArray) (c:Nat) (w:World):Calls Tryz.prog 171 #[.slice none 0 c,.string x] w fun e w'=>e=.returned (.int .i64 (-1))∧w'=w:=by
 go_enter Tryz.func171,Tryz.ntmps171
 go_wp2_with fail
 go_loopg [8] 1 (fun g o wr=>g=1∧o=.int .i64 0∧wr=w)
 case atStart=>exact ⟨rfl,rfl,rfl⟩
 case round=>
  obtain ⟨rfl,rfl,rfl⟩:=hrel
  go_wp2_with fail
  go_ret
  exact ⟨rfl,rfl⟩
theorem pcontains2 {w:World} {Gn:Option Addr} {ns:List ByteArray} (x:ByteArray) (c:Nat) (h:NsAt w Gn ns) (hn:ns.length≤1000):Calls Tryz.prog 97 #[.slice Gn ns.length c,.string x] w fun e w'=>e=.returned (.bool (ns.any fun y=>decide (y=x)))∧w'=w:=by
 rcases h with ⟨rfl,rfl⟩ | ⟨b,rfl,h⟩
 ·
  have KI:=Lib.hid (index_nil x c w)
  go_enter Tryz.func97,Tryz.ntmps97
  go_wp2_with fail
  refine KI.out.mono ?_
  rintro r0 w2 ⟨rfl,rfl⟩
  go_wp2_with fail
  go_ret
  exact ⟨rfl,rfl⟩
 ·
  exact contains_says ns x b c w hn h.2
end Go.Proofs.YthbdlnflmfchjaaGreatDoor
namespace Go.Proofs.YthbdlnflmfchjaaGreatDoor
open Go.RowKit Go.Proofs.Fm Go.Proofs.MapEnt
theorem since_a (w:World) (o:Obj):w.Since w.heap.size (w.alloc o):=(World.Since.refl _ _).alloc (Nat.le_refl _) _
theorem ite_and {a a':Prop} [Decidable a] [Decidable a'] (h:a ↔ a') (b:Prop) [Decidable b] (x y:Except Nat Nat):(if a∧b then x else y)=if a'∧b then x else y:=by
 by_cases hb:b
 ·
  by_cases ha:a
  ·
   rw [if_pos ⟨ha,hb⟩,if_pos ⟨h.1 ha,hb⟩]
  ·
   rw [if_neg (fun e=>ha e.1),if_neg (fun e=>ha (h.2 e.1))]
 ·
  rw [if_neg (fun e=>hb e.2),if_neg (fun e=>hb e.2)]
theorem ent_nums:∀ e ∈ table,e.gives=((e.gives.toNat:Nat):Int)∧e.args=(e.args.map Int.toNat).map (fun a:Nat=>(a:Int)):=by decide +kernel
theorem ent_in {x:ByteArray} {e:Ent} (h:findE x=some e):e ∈ table:=by
 unfold findE at h
 exact List.mem_of_find?_eq_some h
theorem args_eq {e:Ent} (he:e ∈ table) (ks:List Nat):((ks.map fun (a:Nat)=>(a:Int))=e.args) ↔ ks=e.args.map Int.toNat:=by
 constructor
 ·
  intro h
  rw [← h,List.map_map]
  have:(Int.toNat ∘ fun (a:Nat)=>(a:Int))=id:=by funext a;simp
  rw [this,List.map_id]
 ·
  intro h
  rw [h]
  exact (ent_nums e he).2.symm
theorem ks_of_kind {e:Ent} (he:e ∈ table) {W:World} {b:Nat} (hb:W.heap[b]?=some (kindCells e)):KsAt W (some ⟨b,0,none⟩) (e.args.map Int.toNat):=by
 obtain ⟨_,n2⟩:=ent_nums e he
 intro i hi
 refine ⟨b,rfl,blk_lt hb,?_⟩
 unfold World.cell?
 rw [hb]
 unfold kindCells
 dsimp only
 rw [show e.args.map (Value.int .u8)=(e.args.map Int.toNat).map (fun a:Nat=>Value.int .u8 (a:Int)) from by
  conv=>lhs;rw [n2]
  rw [List.map_map];rfl]
 generalize e.args.map Int.toNat=aN at hi ⊢
 simp [hi]
theorem tab_ent {w0 w:World} {m:Nat} {l:List (Ent × Nat)} (h:TabAt w0 w m l) (hl:l.map (·.1)=table) (x:ByteArray) (hx:x.size≤maxLen) {e:Ent} (he:findE x=some e):
  ∃ (b fn:Nat),(Instr.lookup 147 (.map (some m)) (.string x) false).run Tryz.prog w=.ok (.agg #[.slice (some ⟨b,0,none⟩) (e.args.map Int.toNat).length (e.args.map Int.toNat).length,.int .u8 (e.gives.toNat:Nat),.func (.func fn) #[] #[]]) w∧Hid (w.heap[b]?=some (kindCells e)):=by
 rcases tab_look h hl x hx with ⟨h1,_⟩ | ⟨e',b,h1,h2,_,h3⟩
 ·
  rw [h1] at he;cases he
 ·
  rw [h1] at he
  injection he with he
  subst he
  obtain ⟨n1,n2⟩:=ent_nums e' (ent_in h1)
  obtain ⟨_,_,hb⟩:=h.row _ h2
  refine ⟨b,e'.fn,?_,Lib.hid hb⟩
  rw [h3]
  unfold entV
  rw [← n1,List.length_map]
theorem set3_is {W:World} {B T:Nat} {a b c:Value} (hb:W.heap[B]?=some (.cells #[a,b,c] T)) (v0 v1 v2:Value):
  ∃ V,((W.setCell ⟨B,0,none⟩ v0).setCell ⟨B,1,none⟩ v1).setCell ⟨B,2,none⟩ v2=V∧Hid (V.heap[B]?=some (.cells #[v0,v1,v2] T))∧Hid (W.Since B V)∧Hid (∀ k,k ≠ B→V.heap[k]?=W.heap[k]?):=
 ⟨_,rfl,Lib.hid (by simp [World.setCell,Array.getElem?_modify,hb]),Lib.hid ⟨rfl,rfl,rfl,by simp,fun k hk=>by
  rw [Go.Deep.blk_setCell_other _ _ _ _ (by dsimp only;omega),Go.Deep.blk_setCell_other _ _ _ _ (by dsimp only;omega),Go.Deep.blk_setCell_other _ _ _ _ (by dsimp only;omega)]⟩,Lib.hid (fun k hk=>by rw [Go.Deep.blk_setCell_other _ _ _ _ hk,Go.Deep.blk_setCell_other _ _ _ _ hk,Go.Deep.blk_setCell_other _ _ _ _ hk])⟩
theorem cells3t {W:World} {B T:Nat} {a b c:Value} (hb:W.heap[B]?=some (.cells #[a,b,c] T)):W.cell? ⟨B,0,none⟩=some a∧W.cell? ⟨B,1,none⟩=some b∧W.cell? ⟨B,2,none⟩=some c∧∀ j,W.frozen? ⟨B,j,none⟩=false:=by
 refine ⟨?_,?_,?_,fun j=>?_⟩
 ·
  unfold World.cell?;rw [hb];rfl
 ·
  unfold World.cell?;rw [hb];rfl
 ·
  unfold World.cell?;rw [hb];rfl
 ·
  unfold World.frozen?;rw [hb];simp
end Go.Proofs.YthbdlnflmfchjaaGreatDoor
namespace Go.Proofs.YthbdlnflmfchjaaGreatDoor
open Go.RowKit Go.Proofs.Fm Go.Proofs.MapEnt
set_option maxHeartbeats 6400000
set_option maxRecDepth 1000000
def ktv (a:Nat):Value:=.int .u8 (a:Nat)
theorem ksAt_of {w:World} {base:Nat} {G:Option Addr} {c:Nat} {ks:List Nat} (h:w.ownsRow base 104 1 (.slice G ks.length c) ks.length (ks.map ktv)):KsAt w G ks:=fun i hi=>by
 rcases h.2 with ⟨_,h2⟩ | ⟨g,cp,cur,e,_,h3,_⟩
 ·
  omega
 ·
  injection e with e _ _
  subst e
  refine ⟨g,rfl,blk_lt h3,?_⟩
  have h1:=h.cells (g:=g) rfl i (ktv ks[i]) (by rw [List.getElem?_map,List.getElem?_eq_getElem hi];rfl)
  have e1:((⟨g,0,none⟩:Addr).add i)=⟨g,i,none⟩:=by unfold Addr.add;split <;> simp_all
  rw [e1] at h1
  exact h1
theorem info104:(Tryz.prog.info? 104).map (fun i=>(i.zero,i.size,i.bytes))=some (some (.int .u8 0),1,1):=by kernel_rfl
theorem ptyped_step (K:Nat) (hM:K+1≤100000) (IH0:PTypC K) (k:Nat) (x:ByteArray) (n:Nat) (subs:List Tm) (ns:List ByteArray) (w:World) (A:Nat→Prop) (lo:Nat) (cs:List Value) (Gn:Option Addr) (cn:Nat) (hK:siz (.mk k x n subs)≤K+1) (hok:TyOk (.mk k x n subs)) (hd:ns.length+dep (.mk k x n subs)≤1000) (h:TmAt w A lo (.mk k x n subs) cs) (hns:NsAt w Gn ns) (hz:Gn=none→cn=0) (hT:Tabs w):
  Calls Tryz.prog 41 #[.agg cs.toArray,.slice Gn ns.length cn] w fun E w'=>E=ptypRes (typK (.mk k x n subs) ns)∧w.Since w.heap.size w':=by
  have IH:=Lib.hid IH0
  rw [siz] at hK
  rw [dep] at hd
  rw [TyOk] at hok
  unfold TmAt at h
  obtain ⟨G,c,us,rfl,hr,hs⟩:=h
  have HG:=Lib.hid (fun i h=>trow_get hr hs i h)
  have HR:=Lib.hid (typK_mk k x n subs ns)
  have hnl:ns.length≤1000:=by omega
  have hlen:subs.length≤100000:=by have:=siz_length subs;omega
  have HD:=Lib.hid (fun i (h:i < subs.length)=>depL_at subs i h)
  have HSB:=Lib.hid (fun i h=>siz_le subs i h)
  have HK:=Lib.hid hK
  have HDD:=Lib.hid hd
  have HY:=Lib.hid (fun i h=>tyOks_at subs hok.2 i h)
  have HH:=Lib.hid hok.1
  have HN:=Lib.hid hns
  have HZ:=Lib.hid hz
  have HTb:=Lib.hid hT
  have HT:=Lib.hid (TyIs.start (quan k) x subs ns)
  obtain ⟨TL,hTL⟩:∃ TL,typL (quan k) x subs 0 ns=TL:=⟨_,rfl⟩
  rw [hTL] at HT HR
  have HTL:=Lib.hid hTL
  generalize typK (.mk k x n subs) ns=R at HR ⊢
  have S1:Hid (w.Since w.heap.size ((w.alloc (.cells #[.int .u8 (k:Nat),.string x,.int .i64 (n:Nat),.slice G subs.length c] 39)).alloc (.cells #[.slice none 0 0] 143))):=Lib.hid (((World.Since.refl _ _).alloc (Nat.le_refl _) _).alloc (by simp) _)
  have B1:Hid (((w.alloc (.cells #[.int .u8 (k:Nat),.string x,.int .i64 (n:Nat),.slice G subs.length c] 39)).alloc (.cells #[.slice none 0 0] 143)).heap[w.heap.size]?=some (.cells #[.int .u8 (k:Nat),.string x,.int .i64 (n:Nat),.slice G subs.length c] 39)):=Lib.hid ((Go.Deep.blk_alloc_lt _ _ _ (by simp)).trans (heap_alloc_new w _))
  have B2:Hid (((w.alloc (.cells #[.int .u8 (k:Nat),.string x,.int .i64 (n:Nat),.slice G subs.length c] 39)).alloc (.cells #[.slice none 0 0] 143)).heap[w.heap.size+1]?=some (.cells #[.slice none 0 0] 143)):=by
   have:=heap_alloc_new (w.alloc (.cells #[.int .u8 (k:Nat),.string x,.int .i64 (n:Nat),.slice G subs.length c] 39)) (.cells #[.slice none 0 0] 143)
   rw [World.size_alloc] at this
   exact Lib.hid this
  clear hr hs hK hd hok hns hz hTL hT
  go_enter Tryz.func41,Tryz.ntmps41
  go_wp2_with fail
  go_loopg [19] subs.length (fun gg o19 wr=>∃ (i cl:Nat) (Gl:Option Addr) (ks:List Nat),gg=subs.length - i∧i≤subs.length∧o19=.int .i64 (i:Nat)∧Hid (ks.length=i)∧Hid (TyIs (quan k) x subs ns TL i ks)∧Hid (wr.ownsRow (w.heap.size+1+1) 104 1 (.slice Gl i cl) i (ks.map ktv))∧Hid (w.Since w.heap.size wr)∧Hid (wr.heap[w.heap.size]?=some (.cells #[.int .u8 (k:Nat),.string x,.int .i64 (n:Nat),.slice G subs.length c] 39))∧Hid (wr.heap[w.heap.size+1]?=some (.cells #[.slice Gl i cl] 143)))
  case atStart=>exact ⟨0,0,none,[],rfl,by omega,rfl,Lib.hid rfl,HT,Lib.hid ⟨rfl,.inl ⟨rfl,rfl⟩⟩,S1,B1,B2⟩
  case round=>
   obtain ⟨i,cl,Gl,ks,rfl,hi,rfl,hkl,hTy,hO,hW,hB,hB2⟩:=hrel
   obtain ⟨p0,p1,p2,p3,-⟩:=cells4 hB.out
   have hc6:=cell_oneU hB2.out
   by_cases h1:i < subs.length
   ·
    as_aux_lemma=>
     have i1:(i:Int) < (subs.length:Int):=by omega
     obtain ⟨b,kk,xx,nn,G',m,cc,ss,hG,hb,hts,ht,g0,g1,g2,g3⟩:=HG.out i h1
     have lift0:∀ j v,w.cell? ⟨b,j,none⟩=some v→wr.cell? ⟨b,j,none⟩=some v:=fun j v hj=>(World.cell?_of_block (hW.out.block b hb)).trans hj
     have d0:=lift0 _ _ g0
     have d1:=lift0 _ _ g1
     have d2:=lift0 _ _ g2
     have d3:=lift0 _ _ g3
     have q0:∀ o,(wr.alloc o).cell? ⟨w.heap.size,0,none⟩=some (.int .u8 (k:Nat)):=fun o=>(World.cell?_alloc_lt wr o _ (blk_lt hB.out)).trans p0
     go_upto_region 6 with fail
     have HGe:=Lib.hid hG
     clear hG
     go_cut [36] from 20 to 56 (fun v wx=>v=.bool (decide (i=1) && quan k)∧wx=wr.alloc (.cells #[.int .u8 (kk:Nat),.string xx,.int .i64 (nn:Nat),.slice G' m cc] 39))
     case first=>
      by_cases r1:i=1
      ·
       have f1:((i:Int) == 1)=true:=beq_iff_eq.2 (by omega)
       by_cases r3:k=15
       ·
        have f15:((k:Int) == 15)=true:=beq_iff_eq.2 (by omega)
        have HB:Hid ((decide (i=1) && quan k)=true):=Lib.hid (by subst r1 r3;rfl)
        clear r1 r3
        go_wp2_with fail
        go_meet
        exact ⟨by rw [HB.out],rfl⟩
       ·
        have f15:((k:Int) == 15)=false:=beq_eq_false_iff_ne.2 (by omega)
        by_cases r4:k=16
        ·
         have f16:((k:Int) == 16)=true:=beq_iff_eq.2 (by omega)
         have HB:Hid ((decide (i=1) && quan k)=true):=Lib.hid (by subst r1 r4;rfl)
         clear r1 r3 r4
         go_wp2_with fail
         go_meet
         exact ⟨by rw [HB.out],rfl⟩
        ·
         have f16:((k:Int) == 16)=false:=beq_eq_false_iff_ne.2 (by omega)
         have HB:Hid ((decide (i=1) && quan k)=false):=Lib.hid (by unfold quan;rw [decide_eq_false r3,decide_eq_false r4];simp)
         clear r1 r3 r4
         go_wp2_with fail
         go_meet
         exact ⟨by rw [HB.out],rfl⟩
      ·
       have f1:((i:Int) == 1)=false:=beq_eq_false_iff_ne.2 (by omega)
       have HB:Hid ((decide (i=1) && quan k)=false):=Lib.hid (by rw [decide_eq_false r1];rfl)
       clear r1
       go_wp2_with fail
       go_meet
       exact ⟨by rw [HB.out],rfl⟩
     case rest=>
      obtain ⟨rfl,hwc⟩:=hcut
      have HI:Hid (inner (quan k) x i ns=if (decide (i=1) && quan k)=true then ns ++ [x] else ns):=Lib.hid rfl
      have HIL:=Lib.hid (inner_len (quan k) x i ns)
      obtain ⟨qb,hqb⟩:∃ qb,(decide (i=1) && quan k)=qb:=⟨_,rfl⟩
      obtain ⟨NI,hNI⟩:∃ NI,inner (quan k) x i ns=NI:=⟨_,rfl⟩
      rw [hqb,hNI] at HI
      rw [hqb]
      rw [hNI] at HIL
      have HNI:=Lib.hid hNI
      clear hqb hNI
      obtain ⟨wo,hwo⟩:∃ wo,wo=wc:=⟨_,rfl⟩
      subst hwo
      have hso:Hid (wr.Since wr.heap.size wo):=Lib.hid (by rw [hwc];exact (World.Since.refl _ _).alloc (Nat.le_refl _) _)
      have hbo:Hid (wo.heap[wr.heap.size]?=some (.cells #[.int .u8 (kk:Nat),.string xx,.int .i64 (nn:Nat),.slice G' m cc] 39)):=Lib.hid (by rw [hwc];exact heap_alloc_new wr _)
      clear hwc
      have hWo:=Lib.hid (wr_since hW.out hso.out)
      have hBo:=Lib.hid ((hso.out.block w.heap.size (blk_lt hB.out)).trans hB.out)
      obtain ⟨-,t1,-,-,-⟩:=cells4 hBo.out
      go_upto_if 36 with fail
      go_cut [9] from 20 to 56 (fun v wx=>∃ (Gi:Option Addr) (ci:Nat),v=.slice Gi NI.length ci∧Hid (NsAt wx Gi NI)∧Hid (wo.Since wo.heap.size wx)∧Hid (Gi=none→ci=0))
      case first=>
       cases qb with
       | false=>
        have HI:Hid (NI=ns):=HI
        have HN2:=Lib.hid (HN.out.up hWo.out)
        rw [← HI.out] at HN2
        go_wp2_with fail
        go_meet
        exact ⟨Gn,cn,by rw [HI.out],HN2,Lib.hid (World.Since.refl _ _),HZ⟩
       | true=>
        have HI:Hid (NI=ns ++ [x]):=HI
        go_upto_region 7 with fail
        have HNo:=Lib.hid (HN.out.up hWo.out)
        have KCl:=Lib.hid (fun W (h:wo.Since wo.heap.size W)=>pclone_says ns W Gn cn (HNo.out.up h) hnl HZ.out)
        have HL2:Hid (NI.length=ns.length+1):=Lib.hid (by rw [HI.out,List.length_append];rfl)
        have sA:Hid (wo.Since wo.heap.size wo.drew):=Lib.hid (World.Since.refl _ _).drew
        have sB:Hid (wo.Since wo.heap.size (wo.alloc (.cells #[.string x] 9)).drew):=Lib.hid ((World.Since.refl _ _).alloc (Nat.le_refl _) _).drew
        have FA:Hid (∀ w3 G3 c3,w3.ownsRow wo.drew.heap.size 9 1 (.slice G3 ns.length c3) ns.length (ns.map Value.string)→wo.drew.Since wo.drew.heap.size w3→w3.cell? ⟨w.heap.size,1,none⟩=some (.string x)∧∃ W' g' cp',(Builtin.append_ #[70,70] 70 #[.slice G3 ns.length c3,.slice (some ⟨w3.heap.size,0,none⟩) 1 1]).run Tryz.prog (w3.alloc (.cells #[.string x] 9))=.ok (.slice (some ⟨g',0,none⟩) (ns.length+1) cp') W'∧Hid (SsAt W' g' (ns ++ [x]))∧Hid (wo.Since wo.heap.size W')):=Lib.hid (fun w3 G3 c3 o3 s3=>by
         refine ⟨(s3.cell (a:=⟨w.heap.size,1,none⟩) (blk_lt hBo.out)).trans t1,?_⟩
         have hs3:wo.Since wo.heap.size w3:=⟨s3.os,s3.tape,s3.output,s3.size,s3.block⟩
         have hs4:=hs3.alloc hs3.size (.cells #[.string x] 9)
         obtain ⟨W',g',cp',a1,a2,a3⟩:=app_textG (W:=w3.alloc (X0 x)) (base:=wo.heap.size) (X:=w3.heap.size) x (own_up o3 (fun q _ hq=>Go.Deep.blk_alloc_lt w3 _ q hq)) rfl (cell1_of (heap_alloc_new w3 (X0 x))) hs4.size (by omega)
         exact ⟨W',g',cp',a1,a2,Lib.hid (hs4.trans a3.out)⟩)
        have FB:Hid (∀ w3 G3 c3,w3.ownsRow (wo.alloc (.cells #[.string x] 9)).drew.heap.size 9 1 (.slice G3 ns.length c3) ns.length (ns.map Value.string)→(wo.alloc (.cells #[.string x] 9)).drew.Since (wo.alloc (.cells #[.string x] 9)).drew.heap.size w3→w3.cell? ⟨w.heap.size,1,none⟩=some (.string x)∧∃ W' g' cp',(Builtin.append_ #[70,70] 70 #[.slice G3 ns.length c3,.slice (some ⟨wo.heap.size,0,none⟩) 1 1]).run Tryz.prog w3=.ok (.slice (some ⟨g',0,none⟩) (ns.length+1) cp') W'∧Hid (SsAt W' g' (ns ++ [x]))∧Hid (wo.Since wo.heap.size W')):=Lib.hid (fun w3 G3 c3 o3 s3=>by
         have hbl:=blk_lt hBo.out
         refine ⟨(s3.cell (a:=⟨w.heap.size,1,none⟩) (by show w.heap.size < (wo.alloc _).heap.size;rw [World.size_alloc];omega)).trans ((World.cell?_alloc_lt wo _ ⟨w.heap.size,1,none⟩ hbl).trans t1),?_⟩
         have hs0:wo.Since wo.heap.size (wo.alloc (.cells #[.string x] 9)).drew:=((World.Since.refl _ _).alloc (Nat.le_refl _) _).drew
         have hs3:wo.Since wo.heap.size w3:=wr_since hs0 s3
         obtain ⟨W',g',cp',a1,a2,a3⟩:=app_textG (W:=w3) (base:=wo.heap.size) (X:=wo.heap.size) x (by
          refine ⟨o3.1,?_⟩
          rcases o3.2 with h | ⟨g,q1,q2,q3,q4,q5⟩
          ·
           exact .inl h
          ·
           exact .inr ⟨g,q1,q2,q3,Nat.le_trans hs0.size q4,q5⟩) rfl ((s3.cell (a:=⟨wo.heap.size,0,none⟩) (by show wo.heap.size < (wo.alloc _).heap.size;rw [World.size_alloc];omega)).trans (cell1_of (heap_alloc_new wo (X0 x)))) hs3.size (by omega)
         exact ⟨W',g',cp',a1,a2,Lib.hid (hs3.trans a3.out)⟩)
        go_region_law (first
         | (with_reducible refine step_append_run ?_ (.tmp 38) (.tmp 41) ?_ ?_ r1 ?_ ?_ ?_;exact rfl;exact rfl;exact rfl;simp [Act.eval,Act.put];simp [Act.eval,Act.put])
         | (rw [if_pos (by rfl)];go_simp;refine (KCl.out _ (by first | exact sA.out | exact sB.out)).mono ?_;rintro r0 w3 ⟨G3,c3,rfl,o3,s3⟩;first | (obtain ⟨px3,W',g',cp',r1,n3,t3⟩:=FA.out _ _ _ o3 s3) | (obtain ⟨px3,W',g',cp',r1,n3,t3⟩:=FB.out _ _ _ o3 s3)))
        all_goals (go_wp2_with fail;go_meet)
        all_goals exact ⟨_,_,by rw [HL2.out],Lib.hid (.inr ⟨_,rfl,by rw [HI.out];exact n3.out⟩),t3,Lib.hid (fun h=>by cases h)⟩
      case rest=>
       obtain ⟨Gi,ci,rfl,hNi,hSi,hGi⟩:=hcut
       have hW2:=Lib.hid (wr_since hWo.out hSi.out)
       have hB3:=Lib.hid ((hSi.out.block w.heap.size (blk_lt hBo.out)).trans hBo.out)
       have hb3:=(hSi.out.block wr.heap.size (blk_lt hbo.out)).trans hbo.out
       have hB4:=Lib.hid ((hSi.out.block (w.heap.size+1) (Nat.lt_of_lt_of_le (blk_lt hB2.out) hso.out.size)).trans ((hso.out.block _ (blk_lt hB2.out)).trans hB2.out))
       have hO2:Hid (wc.ownsRow (w.heap.size+1+1) 104 1 (.slice Gl i cl) i (ks.map ktv)):=Lib.hid (own_up hO.out (fun q hq hlt=>(hSi.out.block q (Nat.lt_of_lt_of_le hlt hso.out.size)).trans (hso.out.block q hlt)))
       obtain ⟨d0,d1,d2,d3,-⟩:=cells4 hb3
       have hc6:=cell_oneU hB4.out
       have ht2:TmAt wc A lo subs[i] [.int .u8 (kk:Nat),.string xx,.int .i64 (nn:Nat),.slice G' m cc]:=TmAt.up ⟨hW2.out.size,fun q _ hq _=>hW2.out.block q hq⟩ _ _ ht
       have KI:=Lib.hid (IH.out subs[i] NI wc A lo _ Gi ci (by have:=HSB.out i h1;have:=HK.out;omega) (HY.out i h1) (by have:=HD.out i h1;have:=HDD.out;have:=HIL.out;omega) ht2 hNi.out hGi.out (Tabs.up2 HTb.out hW2.out))
       have HER:=Lib.hid (typK_err subs[i] NI)
       have HNX:Hid (∀ a,typK subs[i] NI=.ok a→TyIs (quan k) x subs ns TL (i+1) (ks ++ [a])):=Lib.hid (fun a ha=>hTy.out.next h1 (by rw [HNI.out];exact ha))
       have HBX:Hid (∀ e,typK subs[i] NI=.error e→TL=.error e):=Lib.hid (fun e he=>hTy.out.bad h1 (by rw [HNI.out];exact he))
       generalize typK subs[i] NI=ty at *
       clear hts ht ht2
       go_wp2_with fail
       refine KI.out.mono ?_
       rintro rr w3 ⟨rfl,hs3⟩
       have W3:=Lib.hid (wr_since hW2.out hs3)
       have B3:=Lib.hid ((hs3.block w.heap.size (blk_lt hB3.out)).trans hB3.out)
       have B4:=Lib.hid ((hs3.block (w.heap.size+1) (blk_lt hB4.out)).trans hB4.out)
       have O3:Hid (w3.ownsRow (w.heap.size+1+1) 104 1 (.slice Gl i cl) i (ks.map ktv)):=Lib.hid (own_up hO2.out (fun q _ hq=>hs3.block q hq))
       clear hs3
       cases ty with
       | error e=>
        have he:=HER.out e rfl
        have hR2:Hid (R=.error e):=Lib.hid (by rw [HR.out,HBX.out e rfl])
        have f5:((e:Int) != 0)=true:=bne_iff_ne.2 (by omega)
        unfold ptypRes
        go_wp2_with fail
        exact bodyPost_ret (v:=.tuple #[.int .u8 0,.int .u8 (e:Nat)]) (by simp [results,Tryz.results41,go_sem]) rfl ⟨by rw [hR2.out];rfl,W3.out⟩
       | ok a=>
        have hTn:=Lib.hid (HNX.out a rfl)
        have z5:IntKind.i64.wrap ((i:Int)+1)=(i:Int)+1:=IntWalk.i64_in _ (by omega)
        have hc6:=cell_oneU B4.out
        obtain ⟨v',w6,g',cap',a1,hv',hg1,hg2,O6,S6,K6⟩:=append_one Tryz.underlying143 info104 rfl (by decide) (by decide) w3 (w.heap.size+1+1) Gl i cl (ks.map ktv) [ktv a] O3.out rfl (fun u hu=>by
         rw [List.mem_singleton.1 hu];rfl) (by omega) (by have:=blk_lt B4.out;omega)
        subst hv'
        have W6:Hid (w.Since w.heap.size w6):=Lib.hid (W3.out.trans ⟨S6.out.os,S6.out.tape,S6.out.output,S6.out.size,fun q hq=>S6.out.block q (by omega)⟩)
        have B6:=Lib.hid ((S6.out.block w.heap.size (by omega)).trans B3.out)
        have B7:=(S6.out.block (w.heap.size+1) (by omega)).trans B4.out
        have hc7:=cell_oneU B7
        have hf7:w6.frozen? ⟨w.heap.size+1,0,none⟩=false:=by unfold World.frozen?;rw [B7];simp
        have B8:Hid ((w6.setCell ⟨w.heap.size+1,0,none⟩ (.slice (some ⟨g',0,none⟩) (i+1) cap')).heap[w.heap.size+1]?=some (.cells #[.slice (some ⟨g',0,none⟩) (i+1) cap'] 143)):=Lib.hid (by simp [World.setCell,Array.getElem?_modify,B7])
        have hgne:g' ≠ w.heap.size+1:=by omega
        have O8:Hid ((w6.setCell ⟨w.heap.size+1,0,none⟩ (.slice (some ⟨g',0,none⟩) (i+1) cap')).ownsRow (w.heap.size+1+1) 104 1 (.slice (some ⟨g',0,none⟩) (i+1) cap') (i+1) ((ks ++ [a]).map ktv)):=Lib.hid (by
         rw [List.map_append]
         exact own_up O6.out (fun q hq _=>Go.Deep.blk_setCell_other _ _ _ _ (by
          have:g'=q:=by injection hq
          dsimp only;omega)))
        clear hg2 K6
        unfold ktv at a1
        unfold ptypRes
        go_wp2_with (refine wpList_append_g (ts:=143) (v:=.slice Gl i cl) (xv:=.slice (some ⟨w3.heap.size,0,none⟩) 1 1) (v':=.slice (some ⟨g',0,none⟩) (i+1) cap') (w':=w6) ?_ (.tmp 52) (.tmp 54) ?_ ?_ ?_ ?_ ?_ ?_;exact rfl;exact rfl;exact rfl;exact rfl;exact rfl;exact a1)
        go_roundg (subs.length - (i+1))
        case measure=>omega
        case rel=>exact ⟨i+1,cap',some ⟨g',0,none⟩,ks ++ [a],rfl,by omega,by simp,Lib.hid (by rw [List.length_append,hkl.out];rfl),hTn,O8,Lib.hid (since_setB W6.out (by omega) _ _),Lib.hid ((Go.Deep.blk_setCell_other _ _ _ _ (by simp)).trans B6.out),B8⟩
   ·
    have i1:¬ (i:Int) < (subs.length:Int):=by omega
    have hT2:Hid (TL=.ok ks):=Lib.hid (hTy.out.all h1)
    have hO2:Hid (wr.ownsRow (w.heap.size+1+1) 104 1 (.slice Gl ks.length cl) ks.length (ks.map ktv)):=Lib.hid (by rw [hkl.out];exact hO.out)
    have hKS:=Lib.hid (ksAt_of hO2.out)
    have hks:typL (quan k) x subs 0 ns=.ok ks:=HTL.out.trans hT2.out
    have hrng:=Lib.hid (typL_range _ _ _ _ _ _ hks)
    have hkl2:=Lib.hid (typL_len _ _ _ _ _ _ hks)
    have HR2:Hid (R=ownK k x subs ks ns):=Lib.hid (by rw [HR.out,hT2.out])
    have hei:i=ks.length:=hkl.out.symm
    have hksl:ks.length≤100000:=by omega
    rw [hei] at hc6
    clear hks hei
    by_cases k1:k=1
    ·
     as_aux_lemma=>
      have f1:((k:Int) == 1)=true:=beq_iff_eq.2 (by omega)
      have HX:Hid (R=.ok 1):=Lib.hid (by rw [HR2.out];unfold ownK;rw [if_pos (by omega)])
      clear k1
      go_wp2_with fail
      exact bodyPost_ret (v:=.tuple #[.int .u8 1,.int .u8 0]) (by simp [results,Tryz.results41,go_sem]) rfl ⟨by rw [HX.out];rfl,hW.out⟩
    by_cases k2:k=2
    ·
     as_aux_lemma=>
      have f1:((k:Int) == 1)=false:=beq_eq_false_iff_ne.2 (by omega)
      have f2:((k:Int) == 2)=true:=beq_iff_eq.2 (by omega)
      have HX:Hid (R=.ok 2):=Lib.hid (by rw [HR2.out];unfold ownK;rw [if_neg (by omega),if_pos (by omega)])
      clear k2
      go_wp2_with fail
      exact bodyPost_ret (v:=.tuple #[.int .u8 2,.int .u8 0]) (by simp [results,Tryz.results41,go_sem]) rfl ⟨by rw [HX.out];rfl,hW.out⟩
    by_cases k4:k=4
    ·
     as_aux_lemma=>
      have f1:((k:Int) == 1)=false:=beq_eq_false_iff_ne.2 (by omega)
      have f2:((k:Int) == 2)=false:=beq_eq_false_iff_ne.2 (by omega)
      have f4:((k:Int) == 4)=true:=beq_iff_eq.2 (by omega)
      have HX:Hid (R=.ok 4):=Lib.hid (by rw [HR2.out];unfold ownK;rw [if_neg (by omega),if_neg (by omega),if_neg (by omega),if_pos (by omega)])
      clear k4
      go_wp2_with fail
      exact bodyPost_ret (v:=.tuple #[.int .u8 4,.int .u8 0]) (by simp [results,Tryz.results41,go_sem]) rfl ⟨by rw [HX.out];rfl,hW.out⟩
    by_cases k5:k=5
    ·
     as_aux_lemma=>
      have f1:((k:Int) == 1)=false:=beq_eq_false_iff_ne.2 (by omega)
      have f2:((k:Int) == 2)=false:=beq_eq_false_iff_ne.2 (by omega)
      have f4:((k:Int) == 4)=false:=beq_eq_false_iff_ne.2 (by omega)
      have f5:((k:Int) == 5)=true:=beq_iff_eq.2 (by omega)
      have HX:Hid (R=.ok 4):=Lib.hid (by rw [HR2.out];unfold ownK;rw [if_neg (by omega),if_neg (by omega),if_neg (by omega),if_pos (by omega)])
      clear k5
      go_wp2_with fail
      exact bodyPost_ret (v:=.tuple #[.int .u8 4,.int .u8 0]) (by simp [results,Tryz.results41,go_sem]) rfl ⟨by rw [HX.out];rfl,hW.out⟩
    by_cases k3:k=3
    ·
     as_aux_lemma=>
      have f1:((k:Int) == 1)=false:=beq_eq_false_iff_ne.2 (by omega)
      have f2:((k:Int) == 2)=false:=beq_eq_false_iff_ne.2 (by omega)
      have f4:((k:Int) == 4)=false:=beq_eq_false_iff_ne.2 (by omega)
      have f5:((k:Int) == 5)=false:=beq_eq_false_iff_ne.2 (by omega)
      have f3:((k:Int) == 3)=true:=beq_iff_eq.2 (by omega)
      have HX:Hid (R=if ns.any fun y=>decide (y=x) then .ok 2 else .error 5):=Lib.hid (by rw [HR2.out];unfold ownK;rw [if_neg (by omega),if_neg (by omega),if_pos k3])
      have KX:=Lib.hid (pcontains2 (w:=wr) (Gn:=Gn) (ns:=ns) x cn (HN.out.up hW.out) hnl)
      clear k3
      generalize ns.any (fun y=>decide (y=x))=q at HX KX
      cases q with
      | true=>
       have HX2:Hid (R=.ok 2):=Lib.hid HX.out
       go_wp2_with fail
       refine KX.out.mono ?_
       rintro rr w3 ⟨rfl,rfl⟩
       go_wp2_with fail
       exact bodyPost_ret (v:=.tuple #[.int .u8 2,.int .u8 0]) (by simp [results,Tryz.results41,go_sem]) rfl ⟨by rw [HX2.out];rfl,hW.out⟩
      | false=>
       have HX2:Hid (R=.error 5):=Lib.hid HX.out
       go_wp2_with fail
       refine KX.out.mono ?_
       rintro rr w3 ⟨rfl,rfl⟩
       go_wp2_with fail
       exact bodyPost_ret (v:=.tuple #[.int .u8 0,.int .u8 5]) (by simp [results,Tryz.results41,go_sem]) rfl ⟨by rw [HX2.out];rfl,hW.out⟩
    by_cases k6:k=6 ∨ k=11
    ·
     as_aux_lemma=>
      have f1:((k:Int) == 1)=false:=beq_eq_false_iff_ne.2 (by omega)
      have f2:((k:Int) == 2)=false:=beq_eq_false_iff_ne.2 (by omega)
      have f4:((k:Int) == 4)=false:=beq_eq_false_iff_ne.2 (by omega)
      have f5:((k:Int) == 5)=false:=beq_eq_false_iff_ne.2 (by omega)
      have f3:((k:Int) == 3)=false:=beq_eq_false_iff_ne.2 (by omega)
      obtain ⟨e,he⟩:∃ e,findE x=some e:=by
       rcases k6 with h | h
       ·
        obtain ⟨e,he,_⟩:=func_ent (HH.out.1 h);exact ⟨e,he⟩
       ·
        obtain ⟨e,he,_⟩:=test_ent (HH.out.2.1 h);exact ⟨e,he⟩
      have hxs:x.size≤maxLen:=by have:=HH.out.2.2.2.2.2;unfold maxLen;omega
      have KT:=Lib.hid (fun w0 W m l (h:TabAt w0 W m l) (hl:l.map (·.1)=table)=>tab_ent h hl x hxs he)
      have HX:Hid (R=if ks=e.args.map Int.toNat∧(x=sHas→(subs[1]?.map patOf)=some true) then .ok e.gives.toNat else .error 1):=Lib.hid (by
       rw [HR2.out];unfold ownK;rw [if_neg (by omega),if_neg (by omega),if_neg (by omega),if_neg (by omega),if_pos k6,he]
       dsimp only
       exact ite_and (args_eq (ent_in he) ks) _ _ _)
      have HKA:=Lib.hid (fun (W:World) (b:Nat) (hb:W.heap[b]?=some (kindCells e))=>ks_of_kind (ent_in he) hb)
      have HL2:Hid (x=sHas→(e.args.map Int.toNat).length=2):=Lib.hid (fun h=>by
       have h11:findE sHas=some ent11:=by decide +kernel
       rw [h,h11] at he
       injection he with he
       subst he
       rfl)
      clear he
      generalize e.args.map Int.toNat=aN at *
      generalize e.gives.toNat=gN at *
      have S0:Hid (wr.Since wr.heap.size wr.drew):=Lib.hid (World.Since.refl _ _).drew
      have q1:∀ o,(wr.alloc o).cell? ⟨w.heap.size,1,none⟩=some (.string x):=fun o=>(World.cell?_alloc_lt wr o _ (blk_lt hB.out)).trans p1
      have hbl:=blk_lt hB.out
      have hf:((k:Int) == 6)=true ∨ (((k:Int) == 6)=false∧((k:Int) == 11)=true):=by
       rcases k6 with h | h
       ·
        exact .inl (beq_iff_eq.2 (by omega))
       ·
        exact .inr ⟨beq_eq_false_iff_ne.2 (by omega),beq_iff_eq.2 (by omega)⟩
      clear k6
      obtain ⟨b6,f6⟩:∃ b6,((k:Int) == 6)=b6:=⟨_,rfl⟩
      have HFK:Hid (b6=true ∨ (b6=false∧((k:Int) == 11)=true)):=Lib.hid (by rw [← f6];exact hf)
      clear hf
      go_upto_if 74 with fail
      go_cut [74] from 75 to 76 (fun v wx=>v=.bool true∧wx=wr)
      case first=>
       rcases HFK.out with rfl | ⟨rfl,f11⟩
       all_goals (go_wp2_with fail;go_meet;exact ⟨rfl,rfl⟩)
      case rest=>
       obtain ⟨rfl,hwc⟩:=hcut
       have hwc:=hwc.symm
       subst hwc
       go_upto_region 30 with fail
       go_cut [15] from 77 to 80 (fun v wx=>∃ (eb b fn:Nat),v=.pointer (some ⟨eb,0,none⟩)∧Hid (wx.heap[eb]?=some (.cells #[.slice (some ⟨b,0,none⟩) aN.length aN.length,.int .u8 (gN:Nat),.func (.func fn) #[] #[]] 146))∧Hid (KsAt wx (some ⟨b,0,none⟩) aN)∧Hid (wr.Since wr.heap.size wx))
       case first=>
        have HS0:Hid (wr.drew.cell? ⟨w.heap.size,1,none⟩=some (.string x)):=Lib.hid p1
        have HS1:Hid (∀ o,(wr.alloc o).drew.cell? ⟨w.heap.size,1,none⟩=some (.string x)):=Lib.hid q1
        go_region_held3 (fun w'=>w'.cell? ⟨w.heap.size,1,none⟩=some (.string x))
         (first
          | exact HS0.out
          | exact HS1.out _
          | exact T1.out
          | exact T2.out _
          | (rw [hV3];exact T3.out)
          | exact T3.out)
         (first
          | (
           go_at_call 71;refine (calls_says wr.drew).mono ?_;rintro r0 w3 ⟨m,l,rfl,hT,hl⟩;
           obtain ⟨b1,fv1,r1,n1⟩:=KT.out _ _ _ _ hT hl;
           obtain ⟨b2,fv2,r2,n2⟩:=KT.out _ _ _ _ (hT.up (since_a w3 (.cells #[.slice none 0 0,.int .u8 0,.nilFunc] 146))) hl;
           have S3:=Lib.hid (wr_since S0.out hT.since);
           have T1:Hid (w3.cell? ⟨w.heap.size,1,none⟩=some (.string x)):=Lib.hid ((S3.out.cell (a:=⟨w.heap.size,1,none⟩) hbl).trans p1);
           have T2:Hid (∀ o,(w3.alloc o).cell? ⟨w.heap.size,1,none⟩=some (.string x)):=Lib.hid (fun o=>(World.cell?_alloc_lt w3 o _ (Nat.lt_of_lt_of_le hbl S3.out.size)).trans T1.out);
           clear hT)
          | (
           go_at_call 71;refine (calls_says (wr.alloc (.cells #[.slice none 0 0,.int .u8 0,.nilFunc] 146)).drew).mono ?_;rintro r0 w3 ⟨m,l,rfl,hT,hl⟩;
           obtain ⟨b1,fv1,r1,n1⟩:=KT.out _ _ _ _ hT hl;
           have S3:=Lib.hid (wr_since (since_a wr (.cells #[.slice none 0 0,.int .u8 0,.nilFunc] 146)).drew hT.since);
           have T1:Hid (w3.cell? ⟨w.heap.size,1,none⟩=some (.string x)):=Lib.hid ((S3.out.cell (a:=⟨w.heap.size,1,none⟩) hbl).trans p1);
           have HZ:Hid (w3.heap[wr.heap.size]?=some (.cells #[.slice none 0 0,.int .u8 0,.nilFunc] 146)):=Lib.hid ((hT.since.block _ (by simp)).trans (heap_alloc_new wr _));
           obtain ⟨z0,z1,z2,z3⟩:=cells3t HZ.out;
           obtain ⟨V3,hV3,a3,s3,o3⟩:=set3_is HZ.out (.slice (some ⟨b1,0,none⟩) aN.length aN.length) (.int .u8 (gN:Nat)) (.func (.func fv1) #[] #[]);
           have T3:Hid (V3.cell? ⟨w.heap.size,1,none⟩=some (.string x)):=Lib.hid ((s3.out.cell (a:=⟨w.heap.size,1,none⟩) hbl).trans T1.out);
           clear hT))
        ·
         go_wp2_with fail
         go_meet
         exact ⟨_,b1,fv1,rfl,Lib.hid (heap_alloc_new w3 _),Lib.hid (HKA.out _ _ ((Go.Deep.blk_alloc_lt w3 _ b1 (blk_lt n1.out)).trans n1.out)),Lib.hid (wr_since S3.out (since_a w3 _))⟩
        ·
         go_wp2_with fail
         go_meet
         exact ⟨_,b2,fv2,rfl,Lib.hid (heap_alloc_new w3 _),Lib.hid (HKA.out _ _ (by
          have h:=n2.out
          refine Eq.trans ?_ h
          have hlt:=blk_lt h
          rw [World.size_alloc] at hlt
          rcases Nat.lt_or_ge b2 w3.heap.size with h1 | h1
          ·
           rw [Go.Deep.blk_alloc_lt w3 _ b2 h1,Go.Deep.blk_alloc_lt w3 _ b2 h1]
          ·
           have e1:b2=w3.heap.size:=by omega
           rw [e1,heap_alloc_new] at h
           unfold kindCells at h
           injection h with h
           injection h with _ h
           exact absurd h (by decide))),Lib.hid (wr_since S3.out (since_a w3 _))⟩
        ·
         go_wp2_with fail
         go_meet
         exact ⟨_,b1,fv1,rfl,a3,Lib.hid (HKA.out _ _ ((o3.out b1 (fun e1=>by
          have h:=n1.out
          rw [e1,HZ.out] at h
          unfold kindCells at h
          injection h with h
          injection h with _ h
          exact absurd h (by decide))).trans n1.out)),Lib.hid ⟨s3.out.os.trans S3.out.os,s3.out.tape.trans S3.out.tape,s3.out.output.trans S3.out.output,Nat.le_trans S3.out.size s3.out.size,fun k hk=>(s3.out.block k hk).trans (S3.out.block k hk)⟩⟩
       case rest=>
        obtain ⟨eb,b,fn,rfl,hE,hKA,hSx⟩:=hcut
        have W2:=Lib.hid (wr_since hW.out hSx.out)
        have SD:Hid (wc.Since wc.heap.size wc.drew):=Lib.hid (World.Since.refl _ _).drew
        have BB:=Lib.hid ((hSx.out.block w.heap.size (blk_lt hB.out)).trans hB.out)
        have BL:=Lib.hid ((hSx.out.block (w.heap.size+1) (blk_lt hB2.out)).trans hB2.out)
        have KEQ:=Lib.hid (pequal_says ks aN wc.drew Gl (some ⟨b,0,none⟩) cl aN.length ((hKS.out.up hSx.out).up SD.out) (hKA.out.up SD.out) hksl)
        have HC:Hid (wc.drew.cell? ⟨w.heap.size+1,0,none⟩=some (.slice Gl ks.length cl)∧wc.drew.cell? ⟨eb,0,none⟩=some (.slice (some ⟨b,0,none⟩) aN.length aN.length)∧wc.drew.cell? ⟨eb,1,none⟩=some (.int .u8 (gN:Nat))):=Lib.hid ⟨by
         have h:=cell_oneU BL.out
         rw [← hkl.out] at h
         exact h,(cells3t hE.out).1,(cells3t hE.out).2.1⟩
        obtain ⟨bq,hbq⟩:∃ bq,decide (ks=aN)=bq:=⟨_,rfl⟩
        rw [hbq] at KEQ
        have HBQ:=Lib.hid hbq
        clear hbq
        go_wp2_with fail
        go_region_held3 (fun w'=>w'.cell? ⟨w.heap.size+1,0,none⟩=some (.slice Gl ks.length cl)∧w'.cell? ⟨eb,0,none⟩=some (.slice (some ⟨b,0,none⟩) aN.length aN.length)∧w'.cell? ⟨eb,1,none⟩=some (.int .u8 (gN:Nat)))
         (first
          | exact HC.out
          | exact HC2.out)
         (first
          | (
           go_at_call 98;refine (KEQ.out).mono ?_;rintro r0 w4 ⟨rfl,hs⟩;
           have S4:=Lib.hid (wr_since SD.out hs);
           have HC2:Hid (w4.cell? ⟨w.heap.size+1,0,none⟩=some (.slice Gl ks.length cl)∧w4.cell? ⟨eb,0,none⟩=some (.slice (some ⟨b,0,none⟩) aN.length aN.length)∧w4.cell? ⟨eb,1,none⟩=some (.int .u8 (gN:Nat))):=Lib.hid ⟨(hs.cell (a:=⟨w.heap.size+1,0,none⟩) (blk_lt BL.out)).trans HC.out.1,(hs.cell (a:=⟨eb,0,none⟩) (blk_lt hE.out)).trans HC.out.2.1,(hs.cell (a:=⟨eb,1,none⟩) (blk_lt hE.out)).trans HC.out.2.2⟩;clear hs))
        have W4:=Lib.hid (wr_since W2.out S4.out)
        have B4:=Lib.hid ((S4.out.block w.heap.size (blk_lt BB.out)).trans BB.out)
        obtain ⟨y0,y1,y2,y3,-⟩:=cells4 B4.out
        cases bq with
        | false=>
         have HX2:Hid (R=.error 1):=Lib.hid (by rw [HX.out,if_neg (fun h=>by have:=HBQ.out;rw [decide_eq_true h.1] at this;cases this)])
         go_wp2_with fail
         exact bodyPost_ret (v:=.tuple #[.int .u8 0,.int .u8 1]) (by simp [results,Tryz.results41,go_sem]) rfl ⟨by rw [HX2.out];rfl,W4.out⟩
        | true=>
         have hkeq:Hid (ks=aN):=Lib.hid (of_decide_eq_true HBQ.out)
         by_cases hx:x=sHas
         ·
          have fx:(x.toList == [104,97,115])=true:=by
           rw [show [104,97,115]=sHas.toList from by rw [Lib.toList_data];rfl,bytes_beq,decide_eq_true hx]
          have hs1:1 < subs.length:=by
           have h1:=HL2.out hx
           have h2:=hkeq.out
           rw [← hkl2.out,h2];omega
          obtain ⟨b5,kk,xx,nn,G5,m5,cc5,ss5,hG5,hb5,hts,ht,g0,g1,g2,g3⟩:=HG.out 1 hs1
          have lift0:∀ j v,w.cell? ⟨b5,j,none⟩=some v→w4.cell? ⟨b5,j,none⟩=some v:=fun j v hj=>(World.cell?_of_block (W4.out.block b5 hb5)).trans hj
          have d0:w4.cell? ⟨b5,4,none⟩=some (.int .u8 (kk:Nat)):=lift0 _ _ g0
          have d1:w4.cell? ⟨b5,5,none⟩=some (.string xx):=lift0 _ _ g1
          have i2:(1:Int) < (subs.length:Int):=by omega
          have hxx:xx.size≤100000:=by
           have h:=HY.out 1 hs1
           rw [hts,TyOk] at h
           exact h.1.2.2.2.2.2
          have HP:Hid (R=if (decide (kk=2) && decide (brkE xx=0))=true then .ok gN else .error 1):=Lib.hid (by
           rw [HX.out,List.getElem?_eq_getElem hs1,Option.map_some,hts]
           show (if ks=aN∧(x=sHas→some (decide (kk=2) && decide (brkE xx=0))=some true) then (.ok gN:Except Nat Nat) else .error 1)=_
           by_cases hc:(decide (kk=2) && decide (brkE xx=0))=true
           ·
            rw [if_pos hc,if_pos ⟨hkeq.out,fun _=>by rw [hc]⟩]
           ·
            rw [if_neg hc,if_neg (fun h=>hc (by have:=h.2 hx;injection this))])
          have KB:=Lib.hid (pbreaks_says xx (w4.alloc (.cells #[.string ⟨#[]⟩,.string xx,.bool false] 185)) w4.heap.size hxx (cells3t (heap_alloc_new w4 _)).1 (cells3t (heap_alloc_new w4 _)).2.1 (cells3t (heap_alloc_new w4 _)).2.2.1 (by simp) (Tabs.up2 (Tabs.up2 HTb.out W4.out) (since_a w4 _)))
          have S5:=Lib.hid (since_a w4 (.cells #[.string ⟨#[]⟩,.string xx,.bool false] 185))
          subst hG5
          clear hx hts ht g0 g1 g2 g3 lift0
          by_cases hk2:kk=2
          ·
           have fk:((kk:Int) == 2)=true:=beq_iff_eq.2 (by omega)
           have HP2:Hid (R=if brkE xx=0 then .ok gN else .error 1):=Lib.hid (by rw [HP.out,decide_eq_true hk2];simp)
           generalize brkE xx=E5 at *
           clear hk2
           by_cases hE5:E5=0
           ·
            have fe:((E5:Int) == 0)=true:=beq_iff_eq.2 (by omega)
            have HX2:Hid (R=.ok gN):=Lib.hid (by rw [HP2.out,if_pos hE5])
            clear hE5
            go_wp2_with fail
            refine KB.out.mono ?_
            rintro r0 w5 ⟨rfl,hs⟩
            have W5:=Lib.hid (wr_since W4.out (wr_since S5.out hs))
            clear hs
            go_wp2_with fail
            exact bodyPost_ret (v:=.tuple #[.int .u8 (gN:Nat),.int .u8 0]) (by simp [results,Tryz.results41,go_sem]) rfl ⟨by rw [HX2.out];rfl,W5.out⟩
           ·
            have fe:((E5:Int) == 0)=false:=beq_eq_false_iff_ne.2 (by omega)
            have HX2:Hid (R=.error 1):=Lib.hid (by rw [HP2.out,if_neg hE5])
            clear hE5
            go_wp2_with fail
            refine KB.out.mono ?_
            rintro r0 w5 ⟨rfl,hs⟩
            have W5:=Lib.hid (wr_since W4.out (wr_since S5.out hs))
            clear hs
            go_wp2_with fail
            exact bodyPost_ret (v:=.tuple #[.int .u8 0,.int .u8 1]) (by simp [results,Tryz.results41,go_sem]) rfl ⟨by rw [HX2.out];rfl,W5.out⟩
          ·
           have fk:((kk:Int) == 2)=false:=beq_eq_false_iff_ne.2 (by omega)
           have HX2:Hid (R=.error 1):=Lib.hid (by rw [HP.out,decide_eq_false hk2];rfl)
           clear hk2
           go_wp2_with fail
           exact bodyPost_ret (v:=.tuple #[.int .u8 0,.int .u8 1]) (by simp [results,Tryz.results41,go_sem]) rfl ⟨by rw [HX2.out];rfl,W4.out⟩
         ·
          have fx:(x.toList == [104,97,115])=false:=by
           rw [show [104,97,115]=sHas.toList from by rw [Lib.toList_data];rfl,bytes_beq,decide_eq_false hx]
          have HX2:Hid (R=.ok gN):=Lib.hid (by rw [HX.out,if_pos ⟨hkeq.out,fun h=>absurd h hx⟩])
          clear hx
          go_wp2_with fail
          exact bodyPost_ret (v:=.tuple #[.int .u8 (gN:Nat),.int .u8 0]) (by simp [results,Tryz.results41,go_sem]) rfl ⟨by rw [HX2.out];rfl,W4.out⟩
    by_cases k7:k=7
    ·
     as_aux_lemma=>
      have f1:((k:Int) == 1)=false:=beq_eq_false_iff_ne.2 (by omega)
      have f2:((k:Int) == 2)=false:=beq_eq_false_iff_ne.2 (by omega)
      have f4:((k:Int) == 4)=false:=beq_eq_false_iff_ne.2 (by omega)
      have f5:((k:Int) == 5)=false:=beq_eq_false_iff_ne.2 (by omega)
      have f3:((k:Int) == 3)=false:=beq_eq_false_iff_ne.2 (by omega)
      have f6:((k:Int) == 6)=false:=beq_eq_false_iff_ne.2 (by omega)
      have f11:((k:Int) == 11)=false:=beq_eq_false_iff_ne.2 (by omega)
      have f7:((k:Int) == 7)=true:=beq_iff_eq.2 (by omega)
      have HX:Hid (R=if ks.all (fun a=>decide (a=1)) then .ok 1 else .error 1):=Lib.hid (by rw [HR2.out];unfold ownK;rw [if_neg (by omega),if_neg (by omega),if_neg (by omega),if_neg (by omega),if_neg (by omega),if_pos (by omega)])
      have KA:=Lib.hid (pall_says ks 1 (w.heap.size+1) wr Gl cl hKS.out hksl hc6 (blk_lt hB2.out))
      clear k7
      cases hq:ks.all (fun a=>decide (a=1)) with
      | true=>
       rw [hq] at KA HX
       have HX2:Hid (R=.ok 1):=Lib.hid HX.out
       clear hq
       go_wp2_with fail
       refine KA.out.mono ?_
       rintro rr w3 ⟨rfl,hs3⟩
       have W3:=Lib.hid (wr_since hW.out hs3)
       clear hs3
       go_wp2_with fail
       exact bodyPost_ret (v:=.tuple #[.int .u8 1,.int .u8 0]) (by simp [results,Tryz.results41,go_sem]) rfl ⟨by rw [HX2.out];rfl,W3.out⟩
      | false=>
       rw [hq] at KA HX
       have HX2:Hid (R=.error 1):=Lib.hid HX.out
       clear hq
       go_wp2_with fail
       refine KA.out.mono ?_
       rintro rr w3 ⟨rfl,hs3⟩
       have W3:=Lib.hid (wr_since hW.out hs3)
       clear hs3
       go_wp2_with fail
       exact bodyPost_ret (v:=.tuple #[.int .u8 0,.int .u8 1]) (by simp [results,Tryz.results41,go_sem]) rfl ⟨by rw [HX2.out];rfl,W3.out⟩
    by_cases k8:k=8
    ·
     as_aux_lemma=>
      have f1:((k:Int) == 1)=false:=beq_eq_false_iff_ne.2 (by omega)
      have f2:((k:Int) == 2)=false:=beq_eq_false_iff_ne.2 (by omega)
      have f4:((k:Int) == 4)=false:=beq_eq_false_iff_ne.2 (by omega)
      have f5:((k:Int) == 5)=false:=beq_eq_false_iff_ne.2 (by omega)
      have f3:((k:Int) == 3)=false:=beq_eq_false_iff_ne.2 (by omega)
      have f6:((k:Int) == 6)=false:=beq_eq_false_iff_ne.2 (by omega)
      have f11:((k:Int) == 11)=false:=beq_eq_false_iff_ne.2 (by omega)
      have f7:((k:Int) == 7)=false:=beq_eq_false_iff_ne.2 (by omega)
      have f8:((k:Int) == 8)=true:=beq_iff_eq.2 (by omega)
      have HX:Hid (R=if ks.all (fun a=>decide (a=1)) then .ok 1 else .error 1):=Lib.hid (by rw [HR2.out];unfold ownK;rw [if_neg (by omega),if_neg (by omega),if_neg (by omega),if_neg (by omega),if_neg (by omega),if_pos (by omega)])
      have KA:=Lib.hid (pall_says ks 1 (w.heap.size+1) wr Gl cl hKS.out hksl hc6 (blk_lt hB2.out))
      clear k8
      cases hq:ks.all (fun a=>decide (a=1)) with
      | true=>
       rw [hq] at KA HX
       have HX2:Hid (R=.ok 1):=Lib.hid HX.out
       clear hq
       go_wp2_with fail
       refine KA.out.mono ?_
       rintro rr w3 ⟨rfl,hs3⟩
       have W3:=Lib.hid (wr_since hW.out hs3)
       clear hs3
       go_wp2_with fail
       exact bodyPost_ret (v:=.tuple #[.int .u8 1,.int .u8 0]) (by simp [results,Tryz.results41,go_sem]) rfl ⟨by rw [HX2.out];rfl,W3.out⟩
      | false=>
       rw [hq] at KA HX
       have HX2:Hid (R=.error 1):=Lib.hid HX.out
       clear hq
       go_wp2_with fail
       refine KA.out.mono ?_
       rintro rr w3 ⟨rfl,hs3⟩
       have W3:=Lib.hid (wr_since hW.out hs3)
       clear hs3
       go_wp2_with fail
       exact bodyPost_ret (v:=.tuple #[.int .u8 0,.int .u8 1]) (by simp [results,Tryz.results41,go_sem]) rfl ⟨by rw [HX2.out];rfl,W3.out⟩
    by_cases k9:k=9
    ·
     as_aux_lemma=>
      have f1:((k:Int) == 1)=false:=beq_eq_false_iff_ne.2 (by omega)
      have f2:((k:Int) == 2)=false:=beq_eq_false_iff_ne.2 (by omega)
      have f4:((k:Int) == 4)=false:=beq_eq_false_iff_ne.2 (by omega)
      have f5:((k:Int) == 5)=false:=beq_eq_false_iff_ne.2 (by omega)
      have f3:((k:Int) == 3)=false:=beq_eq_false_iff_ne.2 (by omega)
      have f6:((k:Int) == 6)=false:=beq_eq_false_iff_ne.2 (by omega)
      have f11:((k:Int) == 11)=false:=beq_eq_false_iff_ne.2 (by omega)
      have f7:((k:Int) == 7)=false:=beq_eq_false_iff_ne.2 (by omega)
      have f8:((k:Int) == 8)=false:=beq_eq_false_iff_ne.2 (by omega)
      have f9:((k:Int) == 9)=true:=beq_iff_eq.2 (by omega)
      have HX:Hid (R=if ks.all (fun a=>decide (a=1)) then .ok 1 else .error 1):=Lib.hid (by rw [HR2.out];unfold ownK;rw [if_neg (by omega),if_neg (by omega),if_neg (by omega),if_neg (by omega),if_neg (by omega),if_pos (by omega)])
      have KA:=Lib.hid (pall_says ks 1 (w.heap.size+1) wr Gl cl hKS.out hksl hc6 (blk_lt hB2.out))
      clear k9
      cases hq:ks.all (fun a=>decide (a=1)) with
      | true=>
       rw [hq] at KA HX
       have HX2:Hid (R=.ok 1):=Lib.hid HX.out
       clear hq
       go_wp2_with fail
       refine KA.out.mono ?_
       rintro rr w3 ⟨rfl,hs3⟩
       have W3:=Lib.hid (wr_since hW.out hs3)
       clear hs3
       go_wp2_with fail
       exact bodyPost_ret (v:=.tuple #[.int .u8 1,.int .u8 0]) (by simp [results,Tryz.results41,go_sem]) rfl ⟨by rw [HX2.out];rfl,W3.out⟩
      | false=>
       rw [hq] at KA HX
       have HX2:Hid (R=.error 1):=Lib.hid HX.out
       clear hq
       go_wp2_with fail
       refine KA.out.mono ?_
       rintro rr w3 ⟨rfl,hs3⟩
       have W3:=Lib.hid (wr_since hW.out hs3)
       clear hs3
       go_wp2_with fail
       exact bodyPost_ret (v:=.tuple #[.int .u8 0,.int .u8 1]) (by simp [results,Tryz.results41,go_sem]) rfl ⟨by rw [HX2.out];rfl,W3.out⟩
    by_cases k10:k=10
    ·
     as_aux_lemma=>
      have f1:((k:Int) == 1)=false:=beq_eq_false_iff_ne.2 (by omega)
      have f2:((k:Int) == 2)=false:=beq_eq_false_iff_ne.2 (by omega)
      have f4:((k:Int) == 4)=false:=beq_eq_false_iff_ne.2 (by omega)
      have f5:((k:Int) == 5)=false:=beq_eq_false_iff_ne.2 (by omega)
      have f3:((k:Int) == 3)=false:=beq_eq_false_iff_ne.2 (by omega)
      have f6:((k:Int) == 6)=false:=beq_eq_false_iff_ne.2 (by omega)
      have f11:((k:Int) == 11)=false:=beq_eq_false_iff_ne.2 (by omega)
      have f7:((k:Int) == 7)=false:=beq_eq_false_iff_ne.2 (by omega)
      have f8:((k:Int) == 8)=false:=beq_eq_false_iff_ne.2 (by omega)
      have f9:((k:Int) == 9)=false:=beq_eq_false_iff_ne.2 (by omega)
      have f10:((k:Int) == 10)=true:=beq_iff_eq.2 (by omega)
      have hl2:ks.length=2:=by
       obtain ⟨a,b,e,_⟩:=HH.out.2.2.2.1 k10
       rw [hkl2.out,e];rfl
      obtain ⟨bb,hGl,hbb,c0⟩:=hKS.out 0 (by omega)
      obtain ⟨bb2,hGl2,hbb2,c1⟩:=hKS.out 1 (by omega)
      rw [hGl] at hGl2
      injection hGl2 with hGl2
      injection hGl2 with hGl2
      subst hGl2
      subst hGl
      have j0:(0:Int) < (ks.length:Int):=by omega
      have j1:(1:Int) < (ks.length:Int):=by omega
      have HX:Hid (R=if cmpP x ks[0] ks[1] then .ok 5 else .error 1):=Lib.hid (by rw [HR2.out];unfold ownK;rw [if_neg (by omega),if_neg (by omega),if_neg (by omega),if_neg (by omega),if_neg (by omega),if_neg (by omega),if_pos k10,List.getElem?_eq_getElem (show 0 < ks.length by omega),List.getElem?_eq_getElem (show 1 < ks.length by omega)];rfl)
      have KC:=Lib.hid (fun W=>pcompared_says x ks[0] ks[1] W)
      generalize ks[0]=a at c0 HX KC
      generalize ks[1]=a2 at c1 HX KC
      clear k10
      cases hq:cmpP x a a2 with
      | true=>
       rw [hq] at KC HX
       have HX2:Hid (R=.ok 5):=Lib.hid HX.out
       clear hq
       go_upto_region 39 with fail
       go_quiet ((refine (KC.out _).mono ?_;rintro r0 w3 ⟨rfl,rfl⟩;exact ⟨rfl,_,rfl⟩))
       go_wp2_with fail
       exact bodyPost_ret (v:=.tuple #[.int .u8 5,.int .u8 0]) (by simp [results,Tryz.results41,go_sem]) rfl ⟨by rw [HX2.out];rfl,hW.out.os,hW.out.tape,hW.out.output,hW.out.size,hW.out.block⟩
      | false=>
       rw [hq] at KC HX
       have HX2:Hid (R=.error 1):=Lib.hid HX.out
       clear hq
       go_upto_region 39 with fail
       go_quiet ((refine (KC.out _).mono ?_;rintro r0 w3 ⟨rfl,rfl⟩;exact ⟨rfl,_,rfl⟩))
       go_wp2_with fail
       exact bodyPost_ret (v:=.tuple #[.int .u8 0,.int .u8 1]) (by simp [results,Tryz.results41,go_sem]) rfl ⟨by rw [HX2.out];rfl,hW.out.os,hW.out.tape,hW.out.output,hW.out.size,hW.out.block⟩
    by_cases k15:k=15
    ·
     as_aux_lemma=>
      have f1:((k:Int) == 1)=false:=beq_eq_false_iff_ne.2 (by omega)
      have f2:((k:Int) == 2)=false:=beq_eq_false_iff_ne.2 (by omega)
      have f4:((k:Int) == 4)=false:=beq_eq_false_iff_ne.2 (by omega)
      have f5:((k:Int) == 5)=false:=beq_eq_false_iff_ne.2 (by omega)
      have f3:((k:Int) == 3)=false:=beq_eq_false_iff_ne.2 (by omega)
      have f6:((k:Int) == 6)=false:=beq_eq_false_iff_ne.2 (by omega)
      have f11:((k:Int) == 11)=false:=beq_eq_false_iff_ne.2 (by omega)
      have f7:((k:Int) == 7)=false:=beq_eq_false_iff_ne.2 (by omega)
      have f8:((k:Int) == 8)=false:=beq_eq_false_iff_ne.2 (by omega)
      have f9:((k:Int) == 9)=false:=beq_eq_false_iff_ne.2 (by omega)
      have f10:((k:Int) == 10)=false:=beq_eq_false_iff_ne.2 (by omega)
      have f15:((k:Int) == 15)=true:=beq_iff_eq.2 (by omega)
      have hl2:ks.length=2:=by rw [hkl2.out];exact HH.out.2.2.2.2.1 (by omega)
      obtain ⟨bb,hGl,hbb,c0⟩:=hKS.out 0 (by omega)
      subst hGl
      have j0:(0:Int) < (ks.length:Int):=by omega
      have HX:Hid (R=if ks[0]=3 then .ok 5 else .error 1):=Lib.hid (by rw [HR2.out];unfold ownK;rw [if_neg (by omega),if_neg (by omega),if_neg (by omega),if_neg (by omega),if_neg (by omega),if_neg (by omega),if_neg (by omega),if_pos (by omega),List.getElem?_eq_getElem (show 0 < ks.length by omega)];rfl)
      generalize ks[0]=a at c0 HX
      have W2:=Lib.hid hW.out.drew
      clear k15
      by_cases hq:a=3
      ·
       have g3:((a:Int) == 3)=true:=beq_iff_eq.2 (by omega)
       have HX2:Hid (R=.ok 5):=Lib.hid (by rw [HX.out,if_pos hq])
       clear hq
       go_upto_region 42 with fail
       go_region
       all_goals go_wp2_with fail
       all_goals exact bodyPost_ret (v:=.tuple #[.int .u8 5,.int .u8 0]) (by simp [results,Tryz.results41,go_sem]) rfl ⟨by rw [HX2.out];rfl,W2.out⟩
      ·
       have g3:((a:Int) == 3)=false:=beq_eq_false_iff_ne.2 (by omega)
       have HX2:Hid (R=.error 1):=Lib.hid (by rw [HX.out,if_neg hq])
       clear hq
       go_upto_region 42 with fail
       go_region
       all_goals go_wp2_with fail
       all_goals exact bodyPost_ret (v:=.tuple #[.int .u8 0,.int .u8 1]) (by simp [results,Tryz.results41,go_sem]) rfl ⟨by rw [HX2.out];rfl,W2.out⟩
    by_cases k16:k=16
    ·
     as_aux_lemma=>
      have f1:((k:Int) == 1)=false:=beq_eq_false_iff_ne.2 (by omega)
      have f2:((k:Int) == 2)=false:=beq_eq_false_iff_ne.2 (by omega)
      have f4:((k:Int) == 4)=false:=beq_eq_false_iff_ne.2 (by omega)
      have f5:((k:Int) == 5)=false:=beq_eq_false_iff_ne.2 (by omega)
      have f3:((k:Int) == 3)=false:=beq_eq_false_iff_ne.2 (by omega)
      have f6:((k:Int) == 6)=false:=beq_eq_false_iff_ne.2 (by omega)
      have f11:((k:Int) == 11)=false:=beq_eq_false_iff_ne.2 (by omega)
      have f7:((k:Int) == 7)=false:=beq_eq_false_iff_ne.2 (by omega)
      have f8:((k:Int) == 8)=false:=beq_eq_false_iff_ne.2 (by omega)
      have f9:((k:Int) == 9)=false:=beq_eq_false_iff_ne.2 (by omega)
      have f10:((k:Int) == 10)=false:=beq_eq_false_iff_ne.2 (by omega)
      have f15:((k:Int) == 15)=false:=beq_eq_false_iff_ne.2 (by omega)
      have f16:((k:Int) == 16)=true:=beq_iff_eq.2 (by omega)
      have hl2:ks.length=2:=by rw [hkl2.out];exact HH.out.2.2.2.2.1 (by omega)
      obtain ⟨bb,hGl,hbb,c0⟩:=hKS.out 0 (by omega)
      subst hGl
      have j0:(0:Int) < (ks.length:Int):=by omega
      have HX:Hid (R=if ks[0]=3 then .ok 5 else .error 1):=Lib.hid (by rw [HR2.out];unfold ownK;rw [if_neg (by omega),if_neg (by omega),if_neg (by omega),if_neg (by omega),if_neg (by omega),if_neg (by omega),if_neg (by omega),if_pos (by omega),List.getElem?_eq_getElem (show 0 < ks.length by omega)];rfl)
      generalize ks[0]=a at c0 HX
      have W2:=Lib.hid hW.out.drew
      clear k16
      by_cases hq:a=3
      ·
       have g3:((a:Int) == 3)=true:=beq_iff_eq.2 (by omega)
       have HX2:Hid (R=.ok 5):=Lib.hid (by rw [HX.out,if_pos hq])
       clear hq
       go_upto_region 42 with fail
       go_region
       all_goals go_wp2_with fail
       all_goals exact bodyPost_ret (v:=.tuple #[.int .u8 5,.int .u8 0]) (by simp [results,Tryz.results41,go_sem]) rfl ⟨by rw [HX2.out];rfl,W2.out⟩
      ·
       have g3:((a:Int) == 3)=false:=beq_eq_false_iff_ne.2 (by omega)
       have HX2:Hid (R=.error 1):=Lib.hid (by rw [HX.out,if_neg hq])
       clear hq
       go_upto_region 42 with fail
       go_region
       all_goals go_wp2_with fail
       all_goals exact bodyPost_ret (v:=.tuple #[.int .u8 0,.int .u8 1]) (by simp [results,Tryz.results41,go_sem]) rfl ⟨by rw [HX2.out];rfl,W2.out⟩
    ·
     have f1:((k:Int) == 1)=false:=beq_eq_false_iff_ne.2 (by omega)
     have f2:((k:Int) == 2)=false:=beq_eq_false_iff_ne.2 (by omega)
     have f4:((k:Int) == 4)=false:=beq_eq_false_iff_ne.2 (by omega)
     have f5:((k:Int) == 5)=false:=beq_eq_false_iff_ne.2 (by omega)
     have f3:((k:Int) == 3)=false:=beq_eq_false_iff_ne.2 (by omega)
     have f6:((k:Int) == 6)=false:=beq_eq_false_iff_ne.2 (by omega)
     have f11:((k:Int) == 11)=false:=beq_eq_false_iff_ne.2 (by omega)
     have f7:((k:Int) == 7)=false:=beq_eq_false_iff_ne.2 (by omega)
     have f8:((k:Int) == 8)=false:=beq_eq_false_iff_ne.2 (by omega)
     have f9:((k:Int) == 9)=false:=beq_eq_false_iff_ne.2 (by omega)
     have f10:((k:Int) == 10)=false:=beq_eq_false_iff_ne.2 (by omega)
     have f15:((k:Int) == 15)=false:=beq_eq_false_iff_ne.2 (by omega)
     have f16:((k:Int) == 16)=false:=beq_eq_false_iff_ne.2 (by omega)
     have HX:Hid (R=.ok 5):=Lib.hid (by rw [HR2.out];unfold ownK;rw [if_neg (by omega),if_neg (by omega),if_neg (by omega),if_neg (by omega),if_neg (by omega),if_neg (by omega),if_neg (by omega),if_neg (by omega)])
     clear k1 k2 k3 k4 k5 k6 k7 k8 k9 k10 k15 k16
     go_wp2_with fail
     exact bodyPost_ret (v:=.tuple #[.int .u8 5,.int .u8 0]) (by simp [results,Tryz.results41,go_sem]) rfl ⟨by rw [HX.out];rfl,hW.out⟩
theorem ptyped_all:∀ K,K≤100000→PTypC K
 | 0,_=>fun t ns w A lo cs Gn cn hK _ _ _ _ _ _=>by cases t;rw [siz] at hK;omega
 | K+1,hM=>fun t ns w A lo cs Gn cn hK hok hd h hns hz hT=>by
  cases t with
  | mk k x n subs=>exact ptyped_step K hM (ptyped_all K (by omega)) k x n subs ns w A lo cs Gn cn hK hok hd h hns hz hT
end Go.Proofs.YthbdlnflmfchjaaGreatDoor
