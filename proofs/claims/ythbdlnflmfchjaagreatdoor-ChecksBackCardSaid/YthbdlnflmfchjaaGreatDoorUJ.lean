/- docs.items walked: the items of a pattern. -/
import Derived.Test.YthbdlnflmfchjaaGreatDoorUI
import Derived.Test.YthbdlnflmfchjaaGreatDoorTC
import Derived.Test.YthbdlnflmfchjaaGreatDoorQR1
import Derived.Test.YthbdlnflmfchjaaGreatDoorPT
import Derived.Deep.Fields
set_option linter.unusedVariables false
set_option linter.unusedSimpArgs false
namespace Go.Proofs.YthbdlnflmfchjaaGreatDoor
open Go.RowKit Go.Proofs.Fm Go.Proofs.MapEnt Go.Proofs.Uni Go.Proofs.StrIt
set_option maxHeartbeats 6400000
set_option maxRecDepth 1000000
theorem info356:(Tryz.prog.info? 356).map (fun i=>(i.zero,i.size,i.bytes))=some (some (.agg #[.nilFunc]),1,8):=by kernel_rfl
def itemsR (s:ByteArray):Option Nat:=if isT s=true then itN (runes s.data.toList) else none
theorem items_says (s:ByteArray) (w:World) (hs:s.size≤100000) (hT:Tabs w):Calls Tryz.prog 237 #[.string s] w fun E w'=>fitsRes (itemsR s) E∧w.Since w.heap.size w':=by
 have KT:=Lib.hid (dtext_says s w (by omega) hT)
 cases ht:isT s with
 | false=>
  rw [ht] at KT
  have HR:Hid (itemsR s=none):=Lib.hid (by unfold itemsR;rw [ht];rfl)
  rw [HR.out]
  clear hT ht HR
  go_enter Tryz.func237,Tryz.ntmps237
  go_wp2_with fail
  refine KT.out.mono ?_
  rintro q0 w1 ⟨rfl,s1⟩
  have S1:=Lib.hid s1
  clear s1
  go_wp2_with fail
  exact bodyPost_ret (v:=.tuple #[.slice none 0 0,.bool false]) (by simp [results,Tryz.results237,go_sem]) rfl ⟨rfl,S1.out⟩
 | true=>
  rw [ht] at KT
  have HR:itemsR s=itN (runes s.data.toList):=by unfold itemsR;rw [ht];rfl
  rw [HR]
  have HC:=Lib.hid (fun W=>conv_runes s W (by omega))
  have HL:(runes s.data.toList).length≤s.size:=Nat.le_trans (runes_len _) (Nat.le_of_eq Array.length_toList)
  have HI:=Lib.hid (ItIs.start (runes s.data.toList))
  have HB:Hid (∀ r,itN (runes s.data.toList)=r→∀ E,fitsRes r E→fitsRes (itN (runes s.data.toList)) E):=Lib.hid (fun r h E hE=>by rw [h];exact hE)
  have HCell:=Lib.hid (fun cap j (h:j < (runes s.data.toList).length)=>rune_cell s cap j h)
  generalize fitsRes (itN (runes s.data.toList))=R at *
  generalize hr0:itN (runes s.data.toList)=r0 at *
  clear hr0 HR hT ht
  go_enter Tryz.func237,Tryz.ntmps237
  go_wp2_with fail
  refine KT.out.mono ?_
  rintro q0 w1 ⟨rfl,s1⟩
  obtain ⟨cap,hcap,hconv⟩:=HC.out w1
  have hC0:∀ j (h:j < (runes s.data.toList).length),(w1.drew.alloc (.cells (runeCells s cap) 21)).cell? ⟨w1.heap.size,j,none⟩=some (.int .i32 ((runes s.data.toList)[j]:Int)):=fun j h=>by
   rw [← HCell.out cap j h]
   exact World.cell?_alloc_at _ _ _ _ rfl
  have HC2:=Lib.hid hC0
  have S0:Hid (w.Since w.heap.size (w1.drew.alloc (.cells (runeCells s cap) 21))):=Lib.hid (wr_since s1 (World.Since.alloc (World.Since.refl w1.heap.size w1).drew (Nat.le_refl _) _))
  have Z0:Hid (w1.heap.size < (w1.drew.alloc (.cells (runeCells s cap) 21)).heap.size):=Lib.hid (by simp)
  clear hC0 s1 HC HCell
  generalize runeCells s cap=cells at *
  generalize runes s.data.toList=rs at *
  generalize hw0:w1.drew.alloc (.cells cells 21)=w0 at *
  clear hw0
  go_wp2_with fail
  go_loopg [4,6] rs.length (fun gg o4 o6 wr=>∃ (i n cp:Nat) (G:Option Addr) (xs:List Value),gg=rs.length - i∧i≤rs.length∧o4=.slice G n cp∧o6=.int .i64 (i:Nat)∧n≤i∧Hid (wr.ownsRow w0.heap.size 356 1 (.slice G n cp) n xs)∧Hid (w0.Since w0.heap.size wr)∧Hid (ItIs rs r0 i n))
  case atStart=>exact ⟨0,0,0,none,[],by omega,by omega,rfl,rfl,by omega,Lib.hid (World.ownsRow_nil _ _ _ _),Lib.hid (World.Since.refl _ _),HI⟩
  case round=>
   obtain ⟨i,n,cp,G,xs,rfl,hi,rfl,rfl,hni,hO,hW,hI⟩:=hrel
   have hle:n≤s.size:=by omega
   by_cases h1:i < rs.length
   ·
    have i1:(i:Int) < (rs.length:Int):=by omega
    have z5:IntKind.i64.wrap ((i:Int)+1)=(i:Int)+1:=IntWalk.i64_in _ (by omega)
    have hcz:i≤cap:=by omega
    have hZ:=Z0.out
    have cc:∀ j (h:j < rs.length),wr.cell? ⟨w1.heap.size,j,none⟩=some (.int .i32 (rs[j]:Int)):=fun j h=>(World.cell?_of_block (hW.out.block _ (by have:=Z0.out;omega))).trans (HC2.out j h)
    have hlt:w1.heap.size < wr.heap.size:=by have:=Z0.out;have:=hW.out.size;omega
    have c0:=cc i h1
    by_cases h2:rs[i]=37
    ·
     have f37:((rs[i]:Int) != 37)=false:=bne_eq_false_iff_eq.2 (by omega)
     have HE:=Lib.hid (fun h=>hI.out.stop h1 h2 h)
     have HN:=Lib.hid (fun h hk=>hI.out.two h1 h2 h hk)
     have HD:=Lib.hid (fun h hk=>hI.out.bad h1 h2 h hk)
     clear h2
     generalize rs[i]=r at *
     by_cases h3:i+1 < rs.length
     ·
      have f3:((i:Int)+1 == (rs.length:Int))=false:=beq_eq_false_iff_ne.2 (by omega)
      have c1:=cc (i+1) h3
      have e1:((i:Int)+1).toNat=i+1:=by omega
      have i3:(i:Int)+1 < (rs.length:Int):=by omega
      have c1a:∀ o o',((wr.alloc o).alloc o').cell? ⟨w1.heap.size,i+1,none⟩=_:=fun o o'=>(World.cell?_alloc_lt _ o' _ (by show w1.heap.size < (wr.alloc o).heap.size;rw [World.size_alloc];omega)).trans ((World.cell?_alloc_lt wr o _ hlt).trans c1)
      have HN:=Lib.hid (HN.out h3)
      have HD:=Lib.hid (HD.out h3)
      have z6:IntKind.i64.wrap ((i:Int)+1+1)=(i:Int)+1+1:=IntWalk.i64_in _ (by omega)
      clear cc HE
      generalize rs[i+1]=c at *
      cases hk:cls c with
      | false=>
       have HR:=Lib.hid (HB.out _ (HD.out hk))
       obtain ⟨n0,n1,n2,n3,n4,n5,n6,n7,n8,n9⟩:=cls_not hk
       have g0:((c:Int) == 97)=false:=beq_eq_false_iff_ne.2 n0
       have g1:((c:Int) == 117)=false:=beq_eq_false_iff_ne.2 n1
       have g2:((c:Int) == 108)=false:=beq_eq_false_iff_ne.2 n2
       have g3:((c:Int) == 100)=false:=beq_eq_false_iff_ne.2 n3
       have g4:((c:Int) == 115)=false:=beq_eq_false_iff_ne.2 n4
       have g5:((c:Int) == 112)=false:=beq_eq_false_iff_ne.2 n5
       have g6:((c:Int) == 104)=false:=beq_eq_false_iff_ne.2 n6
       have g7:((c:Int) == 46)=false:=beq_eq_false_iff_ne.2 n7
       have g8:((c:Int) == 37)=false:=beq_eq_false_iff_ne.2 n8
       have g9:((c:Int) == 98)=false:=beq_eq_false_iff_ne.2 n9
       clear n0 n1 n2 n3 n4 n5 n6 n7 n8 n9 hk
       go_wp2_with fail
       exact bodyPost_ret (v:=.tuple #[.slice none 0 0,.bool false]) (by simp [results,Tryz.results237,go_sem]) rfl ⟨HR.out _ rfl,wr_since S0.out ((hW.out.alloc hW.out.size _).alloc (hW.out.alloc hW.out.size _).size _)⟩
      | true=>
       have hI2:=Lib.hid (HN.out hk)
       rcases cls_cases hk with q | q | q | q | q | q | q | q | q | q
       ·
        have g0:((c:Int) == 97)=true:=beq_iff_eq.2 (by omega)
        have HZ2:Hid (w0.heap.size≤((wr.alloc (.cells #[.int .i32 (r:Int)] 21)).alloc (.cells #[(.func (.func 203) #[] #[])] 356)).heap.size):=Lib.hid (by have:=hW.out.size;simp;omega)
        have W2:Hid (w0.Since w0.heap.size ((wr.alloc (.cells #[.int .i32 (r:Int)] 21)).alloc (.cells #[(.func (.func 203) #[] #[])] 356))):=Lib.hid ((hW.out.alloc hW.out.size _).alloc (hW.out.alloc hW.out.size _).size _)
        have hO2:Hid (((wr.alloc (.cells #[.int .i32 (r:Int)] 21)).alloc (.cells #[(.func (.func 203) #[] #[])] 356)).ownsRow w0.heap.size 356 1 (.slice G n cp) n xs):=Lib.hid (own_up hO.out (fun q _ hq=>(Go.Deep.blk_alloc_lt _ _ q (by rw [World.size_alloc];omega)).trans (Go.Deep.blk_alloc_lt wr _ q hq)))
        obtain ⟨v',w6,g',cap',a1,hv',hg1,hg2,O6,S6,-⟩:=append_one Tryz.underlying299 info356 rfl (by decide) (by decide) ((wr.alloc (.cells #[.int .i32 (r:Int)] 21)).alloc (.cells #[(.func (.func 203) #[] #[])] 356)) w0.heap.size G n cp xs [(.func (.func 203) #[] #[])] hO2.out rfl (fun u hu=>by
         rw [List.mem_singleton.1 hu];rfl) (by omega) HZ2.out
        subst hv'
        have W6:Hid (w0.Since w0.heap.size w6):=Lib.hid (W2.out.trans S6.out)
        clear hg1 hg2 S6
        rw [World.size_alloc,World.size_alloc] at a1
        clear q hk HN HD
        go_wp2_with (refine wpList_append_g (ts:=299) (v:=.slice G n cp) (xv:=.slice (some ⟨wr.heap.size+1+1,0,none⟩) 1 1) (v':=.slice (some ⟨g',0,none⟩) (n+1) cap') (w':=w6) ?_ (.tmp 71) (.tmp 73) ?_ ?_ ?_ ?_ ?_ ?_;exact rfl;exact rfl;exact rfl;exact rfl;exact rfl;exact a1)
        go_roundg (rs.length - (i+1+1))
        case measure=>omega
        case rel=>exact ⟨i+1+1,n+1,cap',some ⟨g',0,none⟩,_,rfl,by omega,rfl,by simp,by omega,O6,W6,hI2⟩
       ·
        have g0:((c:Int) == 97)=false:=beq_eq_false_iff_ne.2 (by omega)
        have g1:((c:Int) == 117)=true:=beq_iff_eq.2 (by omega)
        have HZ2:Hid (w0.heap.size≤((wr.alloc (.cells #[.int .i32 (r:Int)] 21)).alloc (.cells #[(.func (.func 282) #[] #[])] 356)).heap.size):=Lib.hid (by have:=hW.out.size;simp;omega)
        have W2:Hid (w0.Since w0.heap.size ((wr.alloc (.cells #[.int .i32 (r:Int)] 21)).alloc (.cells #[(.func (.func 282) #[] #[])] 356))):=Lib.hid ((hW.out.alloc hW.out.size _).alloc (hW.out.alloc hW.out.size _).size _)
        have hO2:Hid (((wr.alloc (.cells #[.int .i32 (r:Int)] 21)).alloc (.cells #[(.func (.func 282) #[] #[])] 356)).ownsRow w0.heap.size 356 1 (.slice G n cp) n xs):=Lib.hid (own_up hO.out (fun q _ hq=>(Go.Deep.blk_alloc_lt _ _ q (by rw [World.size_alloc];omega)).trans (Go.Deep.blk_alloc_lt wr _ q hq)))
        obtain ⟨v',w6,g',cap',a1,hv',hg1,hg2,O6,S6,-⟩:=append_one Tryz.underlying299 info356 rfl (by decide) (by decide) ((wr.alloc (.cells #[.int .i32 (r:Int)] 21)).alloc (.cells #[(.func (.func 282) #[] #[])] 356)) w0.heap.size G n cp xs [(.func (.func 282) #[] #[])] hO2.out rfl (fun u hu=>by
         rw [List.mem_singleton.1 hu];rfl) (by omega) HZ2.out
        subst hv'
        have W6:Hid (w0.Since w0.heap.size w6):=Lib.hid (W2.out.trans S6.out)
        clear hg1 hg2 S6
        rw [World.size_alloc,World.size_alloc] at a1
        clear q hk HN HD
        go_wp2_with (refine wpList_append_g (ts:=299) (v:=.slice G n cp) (xv:=.slice (some ⟨wr.heap.size+1+1,0,none⟩) 1 1) (v':=.slice (some ⟨g',0,none⟩) (n+1) cap') (w':=w6) ?_ (.tmp 71) (.tmp 73) ?_ ?_ ?_ ?_ ?_ ?_;exact rfl;exact rfl;exact rfl;exact rfl;exact rfl;exact a1)
        go_roundg (rs.length - (i+1+1))
        case measure=>omega
        case rel=>exact ⟨i+1+1,n+1,cap',some ⟨g',0,none⟩,_,rfl,by omega,rfl,by simp,by omega,O6,W6,hI2⟩
       ·
        have g0:((c:Int) == 97)=false:=beq_eq_false_iff_ne.2 (by omega)
        have g1:((c:Int) == 117)=false:=beq_eq_false_iff_ne.2 (by omega)
        have g2:((c:Int) == 108)=true:=beq_iff_eq.2 (by omega)
        have HZ2:Hid (w0.heap.size≤((wr.alloc (.cells #[.int .i32 (r:Int)] 21)).alloc (.cells #[(.func (.func 283) #[] #[])] 356)).heap.size):=Lib.hid (by have:=hW.out.size;simp;omega)
        have W2:Hid (w0.Since w0.heap.size ((wr.alloc (.cells #[.int .i32 (r:Int)] 21)).alloc (.cells #[(.func (.func 283) #[] #[])] 356))):=Lib.hid ((hW.out.alloc hW.out.size _).alloc (hW.out.alloc hW.out.size _).size _)
        have hO2:Hid (((wr.alloc (.cells #[.int .i32 (r:Int)] 21)).alloc (.cells #[(.func (.func 283) #[] #[])] 356)).ownsRow w0.heap.size 356 1 (.slice G n cp) n xs):=Lib.hid (own_up hO.out (fun q _ hq=>(Go.Deep.blk_alloc_lt _ _ q (by rw [World.size_alloc];omega)).trans (Go.Deep.blk_alloc_lt wr _ q hq)))
        obtain ⟨v',w6,g',cap',a1,hv',hg1,hg2,O6,S6,-⟩:=append_one Tryz.underlying299 info356 rfl (by decide) (by decide) ((wr.alloc (.cells #[.int .i32 (r:Int)] 21)).alloc (.cells #[(.func (.func 283) #[] #[])] 356)) w0.heap.size G n cp xs [(.func (.func 283) #[] #[])] hO2.out rfl (fun u hu=>by
         rw [List.mem_singleton.1 hu];rfl) (by omega) HZ2.out
        subst hv'
        have W6:Hid (w0.Since w0.heap.size w6):=Lib.hid (W2.out.trans S6.out)
        clear hg1 hg2 S6
        rw [World.size_alloc,World.size_alloc] at a1
        clear q hk HN HD
        go_wp2_with (refine wpList_append_g (ts:=299) (v:=.slice G n cp) (xv:=.slice (some ⟨wr.heap.size+1+1,0,none⟩) 1 1) (v':=.slice (some ⟨g',0,none⟩) (n+1) cap') (w':=w6) ?_ (.tmp 71) (.tmp 73) ?_ ?_ ?_ ?_ ?_ ?_;exact rfl;exact rfl;exact rfl;exact rfl;exact rfl;exact a1)
        go_roundg (rs.length - (i+1+1))
        case measure=>omega
        case rel=>exact ⟨i+1+1,n+1,cap',some ⟨g',0,none⟩,_,rfl,by omega,rfl,by simp,by omega,O6,W6,hI2⟩
       ·
        have g0:((c:Int) == 97)=false:=beq_eq_false_iff_ne.2 (by omega)
        have g1:((c:Int) == 117)=false:=beq_eq_false_iff_ne.2 (by omega)
        have g2:((c:Int) == 108)=false:=beq_eq_false_iff_ne.2 (by omega)
        have g3:((c:Int) == 100)=true:=beq_iff_eq.2 (by omega)
        have HZ2:Hid (w0.heap.size≤((wr.alloc (.cells #[.int .i32 (r:Int)] 21)).alloc (.cells #[(.func (.func 204) #[] #[])] 356)).heap.size):=Lib.hid (by have:=hW.out.size;simp;omega)
        have W2:Hid (w0.Since w0.heap.size ((wr.alloc (.cells #[.int .i32 (r:Int)] 21)).alloc (.cells #[(.func (.func 204) #[] #[])] 356))):=Lib.hid ((hW.out.alloc hW.out.size _).alloc (hW.out.alloc hW.out.size _).size _)
        have hO2:Hid (((wr.alloc (.cells #[.int .i32 (r:Int)] 21)).alloc (.cells #[(.func (.func 204) #[] #[])] 356)).ownsRow w0.heap.size 356 1 (.slice G n cp) n xs):=Lib.hid (own_up hO.out (fun q _ hq=>(Go.Deep.blk_alloc_lt _ _ q (by rw [World.size_alloc];omega)).trans (Go.Deep.blk_alloc_lt wr _ q hq)))
        obtain ⟨v',w6,g',cap',a1,hv',hg1,hg2,O6,S6,-⟩:=append_one Tryz.underlying299 info356 rfl (by decide) (by decide) ((wr.alloc (.cells #[.int .i32 (r:Int)] 21)).alloc (.cells #[(.func (.func 204) #[] #[])] 356)) w0.heap.size G n cp xs [(.func (.func 204) #[] #[])] hO2.out rfl (fun u hu=>by
         rw [List.mem_singleton.1 hu];rfl) (by omega) HZ2.out
        subst hv'
        have W6:Hid (w0.Since w0.heap.size w6):=Lib.hid (W2.out.trans S6.out)
        clear hg1 hg2 S6
        rw [World.size_alloc,World.size_alloc] at a1
        clear q hk HN HD
        go_wp2_with (refine wpList_append_g (ts:=299) (v:=.slice G n cp) (xv:=.slice (some ⟨wr.heap.size+1+1,0,none⟩) 1 1) (v':=.slice (some ⟨g',0,none⟩) (n+1) cap') (w':=w6) ?_ (.tmp 71) (.tmp 73) ?_ ?_ ?_ ?_ ?_ ?_;exact rfl;exact rfl;exact rfl;exact rfl;exact rfl;exact a1)
        go_roundg (rs.length - (i+1+1))
        case measure=>omega
        case rel=>exact ⟨i+1+1,n+1,cap',some ⟨g',0,none⟩,_,rfl,by omega,rfl,by simp,by omega,O6,W6,hI2⟩
       ·
        have g0:((c:Int) == 97)=false:=beq_eq_false_iff_ne.2 (by omega)
        have g1:((c:Int) == 117)=false:=beq_eq_false_iff_ne.2 (by omega)
        have g2:((c:Int) == 108)=false:=beq_eq_false_iff_ne.2 (by omega)
        have g3:((c:Int) == 100)=false:=beq_eq_false_iff_ne.2 (by omega)
        have g4:((c:Int) == 115)=true:=beq_iff_eq.2 (by omega)
        have HZ2:Hid (w0.heap.size≤((wr.alloc (.cells #[.int .i32 (r:Int)] 21)).alloc (.cells #[(.func (.func 205) #[] #[])] 356)).heap.size):=Lib.hid (by have:=hW.out.size;simp;omega)
        have W2:Hid (w0.Since w0.heap.size ((wr.alloc (.cells #[.int .i32 (r:Int)] 21)).alloc (.cells #[(.func (.func 205) #[] #[])] 356))):=Lib.hid ((hW.out.alloc hW.out.size _).alloc (hW.out.alloc hW.out.size _).size _)
        have hO2:Hid (((wr.alloc (.cells #[.int .i32 (r:Int)] 21)).alloc (.cells #[(.func (.func 205) #[] #[])] 356)).ownsRow w0.heap.size 356 1 (.slice G n cp) n xs):=Lib.hid (own_up hO.out (fun q _ hq=>(Go.Deep.blk_alloc_lt _ _ q (by rw [World.size_alloc];omega)).trans (Go.Deep.blk_alloc_lt wr _ q hq)))
        obtain ⟨v',w6,g',cap',a1,hv',hg1,hg2,O6,S6,-⟩:=append_one Tryz.underlying299 info356 rfl (by decide) (by decide) ((wr.alloc (.cells #[.int .i32 (r:Int)] 21)).alloc (.cells #[(.func (.func 205) #[] #[])] 356)) w0.heap.size G n cp xs [(.func (.func 205) #[] #[])] hO2.out rfl (fun u hu=>by
         rw [List.mem_singleton.1 hu];rfl) (by omega) HZ2.out
        subst hv'
        have W6:Hid (w0.Since w0.heap.size w6):=Lib.hid (W2.out.trans S6.out)
        clear hg1 hg2 S6
        rw [World.size_alloc,World.size_alloc] at a1
        clear q hk HN HD
        go_wp2_with (refine wpList_append_g (ts:=299) (v:=.slice G n cp) (xv:=.slice (some ⟨wr.heap.size+1+1,0,none⟩) 1 1) (v':=.slice (some ⟨g',0,none⟩) (n+1) cap') (w':=w6) ?_ (.tmp 71) (.tmp 73) ?_ ?_ ?_ ?_ ?_ ?_;exact rfl;exact rfl;exact rfl;exact rfl;exact rfl;exact a1)
        go_roundg (rs.length - (i+1+1))
        case measure=>omega
        case rel=>exact ⟨i+1+1,n+1,cap',some ⟨g',0,none⟩,_,rfl,by omega,rfl,by simp,by omega,O6,W6,hI2⟩
       ·
        have g0:((c:Int) == 97)=false:=beq_eq_false_iff_ne.2 (by omega)
        have g1:((c:Int) == 117)=false:=beq_eq_false_iff_ne.2 (by omega)
        have g2:((c:Int) == 108)=false:=beq_eq_false_iff_ne.2 (by omega)
        have g3:((c:Int) == 100)=false:=beq_eq_false_iff_ne.2 (by omega)
        have g4:((c:Int) == 115)=false:=beq_eq_false_iff_ne.2 (by omega)
        have g5:((c:Int) == 112)=true:=beq_iff_eq.2 (by omega)
        have HZ2:Hid (w0.heap.size≤((wr.alloc (.cells #[.int .i32 (r:Int)] 21)).alloc (.cells #[(.func (.func 119) #[] #[])] 356)).heap.size):=Lib.hid (by have:=hW.out.size;simp;omega)
        have W2:Hid (w0.Since w0.heap.size ((wr.alloc (.cells #[.int .i32 (r:Int)] 21)).alloc (.cells #[(.func (.func 119) #[] #[])] 356))):=Lib.hid ((hW.out.alloc hW.out.size _).alloc (hW.out.alloc hW.out.size _).size _)
        have hO2:Hid (((wr.alloc (.cells #[.int .i32 (r:Int)] 21)).alloc (.cells #[(.func (.func 119) #[] #[])] 356)).ownsRow w0.heap.size 356 1 (.slice G n cp) n xs):=Lib.hid (own_up hO.out (fun q _ hq=>(Go.Deep.blk_alloc_lt _ _ q (by rw [World.size_alloc];omega)).trans (Go.Deep.blk_alloc_lt wr _ q hq)))
        obtain ⟨v',w6,g',cap',a1,hv',hg1,hg2,O6,S6,-⟩:=append_one Tryz.underlying299 info356 rfl (by decide) (by decide) ((wr.alloc (.cells #[.int .i32 (r:Int)] 21)).alloc (.cells #[(.func (.func 119) #[] #[])] 356)) w0.heap.size G n cp xs [(.func (.func 119) #[] #[])] hO2.out rfl (fun u hu=>by
         rw [List.mem_singleton.1 hu];rfl) (by omega) HZ2.out
        subst hv'
        have W6:Hid (w0.Since w0.heap.size w6):=Lib.hid (W2.out.trans S6.out)
        clear hg1 hg2 S6
        rw [World.size_alloc,World.size_alloc] at a1
        clear q hk HN HD
        go_wp2_with (refine wpList_append_g (ts:=299) (v:=.slice G n cp) (xv:=.slice (some ⟨wr.heap.size+1+1,0,none⟩) 1 1) (v':=.slice (some ⟨g',0,none⟩) (n+1) cap') (w':=w6) ?_ (.tmp 71) (.tmp 73) ?_ ?_ ?_ ?_ ?_ ?_;exact rfl;exact rfl;exact rfl;exact rfl;exact rfl;exact a1)
        go_roundg (rs.length - (i+1+1))
        case measure=>omega
        case rel=>exact ⟨i+1+1,n+1,cap',some ⟨g',0,none⟩,_,rfl,by omega,rfl,by simp,by omega,O6,W6,hI2⟩
       ·
        have g0:((c:Int) == 97)=false:=beq_eq_false_iff_ne.2 (by omega)
        have g1:((c:Int) == 117)=false:=beq_eq_false_iff_ne.2 (by omega)
        have g2:((c:Int) == 108)=false:=beq_eq_false_iff_ne.2 (by omega)
        have g3:((c:Int) == 100)=false:=beq_eq_false_iff_ne.2 (by omega)
        have g4:((c:Int) == 115)=false:=beq_eq_false_iff_ne.2 (by omega)
        have g5:((c:Int) == 112)=false:=beq_eq_false_iff_ne.2 (by omega)
        have g6:((c:Int) == 104)=true:=beq_iff_eq.2 (by omega)
        have HZ2:Hid (w0.heap.size≤((wr.alloc (.cells #[.int .i32 (r:Int)] 21)).alloc (.cells #[(.func (.func 284) #[] #[])] 356)).heap.size):=Lib.hid (by have:=hW.out.size;simp;omega)
        have W2:Hid (w0.Since w0.heap.size ((wr.alloc (.cells #[.int .i32 (r:Int)] 21)).alloc (.cells #[(.func (.func 284) #[] #[])] 356))):=Lib.hid ((hW.out.alloc hW.out.size _).alloc (hW.out.alloc hW.out.size _).size _)
        have hO2:Hid (((wr.alloc (.cells #[.int .i32 (r:Int)] 21)).alloc (.cells #[(.func (.func 284) #[] #[])] 356)).ownsRow w0.heap.size 356 1 (.slice G n cp) n xs):=Lib.hid (own_up hO.out (fun q _ hq=>(Go.Deep.blk_alloc_lt _ _ q (by rw [World.size_alloc];omega)).trans (Go.Deep.blk_alloc_lt wr _ q hq)))
        obtain ⟨v',w6,g',cap',a1,hv',hg1,hg2,O6,S6,-⟩:=append_one Tryz.underlying299 info356 rfl (by decide) (by decide) ((wr.alloc (.cells #[.int .i32 (r:Int)] 21)).alloc (.cells #[(.func (.func 284) #[] #[])] 356)) w0.heap.size G n cp xs [(.func (.func 284) #[] #[])] hO2.out rfl (fun u hu=>by
         rw [List.mem_singleton.1 hu];rfl) (by omega) HZ2.out
        subst hv'
        have W6:Hid (w0.Since w0.heap.size w6):=Lib.hid (W2.out.trans S6.out)
        clear hg1 hg2 S6
        rw [World.size_alloc,World.size_alloc] at a1
        clear q hk HN HD
        go_wp2_with (refine wpList_append_g (ts:=299) (v:=.slice G n cp) (xv:=.slice (some ⟨wr.heap.size+1+1,0,none⟩) 1 1) (v':=.slice (some ⟨g',0,none⟩) (n+1) cap') (w':=w6) ?_ (.tmp 71) (.tmp 73) ?_ ?_ ?_ ?_ ?_ ?_;exact rfl;exact rfl;exact rfl;exact rfl;exact rfl;exact a1)
        go_roundg (rs.length - (i+1+1))
        case measure=>omega
        case rel=>exact ⟨i+1+1,n+1,cap',some ⟨g',0,none⟩,_,rfl,by omega,rfl,by simp,by omega,O6,W6,hI2⟩
       ·
        have g0:((c:Int) == 97)=false:=beq_eq_false_iff_ne.2 (by omega)
        have g1:((c:Int) == 117)=false:=beq_eq_false_iff_ne.2 (by omega)
        have g2:((c:Int) == 108)=false:=beq_eq_false_iff_ne.2 (by omega)
        have g3:((c:Int) == 100)=false:=beq_eq_false_iff_ne.2 (by omega)
        have g4:((c:Int) == 115)=false:=beq_eq_false_iff_ne.2 (by omega)
        have g5:((c:Int) == 112)=false:=beq_eq_false_iff_ne.2 (by omega)
        have g6:((c:Int) == 104)=false:=beq_eq_false_iff_ne.2 (by omega)
        have g7:((c:Int) == 46)=true:=beq_iff_eq.2 (by omega)
        have HZ2:Hid (w0.heap.size≤((wr.alloc (.cells #[.int .i32 (r:Int)] 21)).alloc (.cells #[(.func (.func 285) #[] #[])] 356)).heap.size):=Lib.hid (by have:=hW.out.size;simp;omega)
        have W2:Hid (w0.Since w0.heap.size ((wr.alloc (.cells #[.int .i32 (r:Int)] 21)).alloc (.cells #[(.func (.func 285) #[] #[])] 356))):=Lib.hid ((hW.out.alloc hW.out.size _).alloc (hW.out.alloc hW.out.size _).size _)
        have hO2:Hid (((wr.alloc (.cells #[.int .i32 (r:Int)] 21)).alloc (.cells #[(.func (.func 285) #[] #[])] 356)).ownsRow w0.heap.size 356 1 (.slice G n cp) n xs):=Lib.hid (own_up hO.out (fun q _ hq=>(Go.Deep.blk_alloc_lt _ _ q (by rw [World.size_alloc];omega)).trans (Go.Deep.blk_alloc_lt wr _ q hq)))
        obtain ⟨v',w6,g',cap',a1,hv',hg1,hg2,O6,S6,-⟩:=append_one Tryz.underlying299 info356 rfl (by decide) (by decide) ((wr.alloc (.cells #[.int .i32 (r:Int)] 21)).alloc (.cells #[(.func (.func 285) #[] #[])] 356)) w0.heap.size G n cp xs [(.func (.func 285) #[] #[])] hO2.out rfl (fun u hu=>by
         rw [List.mem_singleton.1 hu];rfl) (by omega) HZ2.out
        subst hv'
        have W6:Hid (w0.Since w0.heap.size w6):=Lib.hid (W2.out.trans S6.out)
        clear hg1 hg2 S6
        rw [World.size_alloc,World.size_alloc] at a1
        clear q hk HN HD
        go_wp2_with (refine wpList_append_g (ts:=299) (v:=.slice G n cp) (xv:=.slice (some ⟨wr.heap.size+1+1,0,none⟩) 1 1) (v':=.slice (some ⟨g',0,none⟩) (n+1) cap') (w':=w6) ?_ (.tmp 71) (.tmp 73) ?_ ?_ ?_ ?_ ?_ ?_;exact rfl;exact rfl;exact rfl;exact rfl;exact rfl;exact a1)
        go_roundg (rs.length - (i+1+1))
        case measure=>omega
        case rel=>exact ⟨i+1+1,n+1,cap',some ⟨g',0,none⟩,_,rfl,by omega,rfl,by simp,by omega,O6,W6,hI2⟩
       ·
        have g0:((c:Int) == 97)=false:=beq_eq_false_iff_ne.2 (by omega)
        have g1:((c:Int) == 117)=false:=beq_eq_false_iff_ne.2 (by omega)
        have g2:((c:Int) == 108)=false:=beq_eq_false_iff_ne.2 (by omega)
        have g3:((c:Int) == 100)=false:=beq_eq_false_iff_ne.2 (by omega)
        have g4:((c:Int) == 115)=false:=beq_eq_false_iff_ne.2 (by omega)
        have g5:((c:Int) == 112)=false:=beq_eq_false_iff_ne.2 (by omega)
        have g6:((c:Int) == 104)=false:=beq_eq_false_iff_ne.2 (by omega)
        have g7:((c:Int) == 46)=false:=beq_eq_false_iff_ne.2 (by omega)
        have g8:((c:Int) == 37)=true:=beq_iff_eq.2 (by omega)
        have HZ2:Hid (w0.heap.size≤((wr.alloc (.cells #[.int .i32 (r:Int)] 21)).alloc (.cells #[(.func (.func 286) #[] #[])] 356)).heap.size):=Lib.hid (by have:=hW.out.size;simp;omega)
        have W2:Hid (w0.Since w0.heap.size ((wr.alloc (.cells #[.int .i32 (r:Int)] 21)).alloc (.cells #[(.func (.func 286) #[] #[])] 356))):=Lib.hid ((hW.out.alloc hW.out.size _).alloc (hW.out.alloc hW.out.size _).size _)
        have hO2:Hid (((wr.alloc (.cells #[.int .i32 (r:Int)] 21)).alloc (.cells #[(.func (.func 286) #[] #[])] 356)).ownsRow w0.heap.size 356 1 (.slice G n cp) n xs):=Lib.hid (own_up hO.out (fun q _ hq=>(Go.Deep.blk_alloc_lt _ _ q (by rw [World.size_alloc];omega)).trans (Go.Deep.blk_alloc_lt wr _ q hq)))
        obtain ⟨v',w6,g',cap',a1,hv',hg1,hg2,O6,S6,-⟩:=append_one Tryz.underlying299 info356 rfl (by decide) (by decide) ((wr.alloc (.cells #[.int .i32 (r:Int)] 21)).alloc (.cells #[(.func (.func 286) #[] #[])] 356)) w0.heap.size G n cp xs [(.func (.func 286) #[] #[])] hO2.out rfl (fun u hu=>by
         rw [List.mem_singleton.1 hu];rfl) (by omega) HZ2.out
        subst hv'
        have W6:Hid (w0.Since w0.heap.size w6):=Lib.hid (W2.out.trans S6.out)
        clear hg1 hg2 S6
        rw [World.size_alloc,World.size_alloc] at a1
        clear q hk HN HD
        go_wp2_with (refine wpList_append_g (ts:=299) (v:=.slice G n cp) (xv:=.slice (some ⟨wr.heap.size+1+1,0,none⟩) 1 1) (v':=.slice (some ⟨g',0,none⟩) (n+1) cap') (w':=w6) ?_ (.tmp 71) (.tmp 73) ?_ ?_ ?_ ?_ ?_ ?_;exact rfl;exact rfl;exact rfl;exact rfl;exact rfl;exact a1)
        go_roundg (rs.length - (i+1+1))
        case measure=>omega
        case rel=>exact ⟨i+1+1,n+1,cap',some ⟨g',0,none⟩,_,rfl,by omega,rfl,by simp,by omega,O6,W6,hI2⟩
       ·
        have g0:((c:Int) == 97)=false:=beq_eq_false_iff_ne.2 (by omega)
        have g1:((c:Int) == 117)=false:=beq_eq_false_iff_ne.2 (by omega)
        have g2:((c:Int) == 108)=false:=beq_eq_false_iff_ne.2 (by omega)
        have g3:((c:Int) == 100)=false:=beq_eq_false_iff_ne.2 (by omega)
        have g4:((c:Int) == 115)=false:=beq_eq_false_iff_ne.2 (by omega)
        have g5:((c:Int) == 112)=false:=beq_eq_false_iff_ne.2 (by omega)
        have g6:((c:Int) == 104)=false:=beq_eq_false_iff_ne.2 (by omega)
        have g7:((c:Int) == 46)=false:=beq_eq_false_iff_ne.2 (by omega)
        have g8:((c:Int) == 37)=false:=beq_eq_false_iff_ne.2 (by omega)
        have g9:((c:Int) == 98)=true:=beq_iff_eq.2 (by omega)
        have HZ2:Hid (w0.heap.size≤((wr.alloc (.cells #[.int .i32 (r:Int)] 21)).alloc (.cells #[.nilFunc] 356)).heap.size):=Lib.hid (by have:=hW.out.size;simp;omega)
        have W2:Hid (w0.Since w0.heap.size ((wr.alloc (.cells #[.int .i32 (r:Int)] 21)).alloc (.cells #[.nilFunc] 356))):=Lib.hid ((hW.out.alloc hW.out.size _).alloc (hW.out.alloc hW.out.size _).size _)
        have hO2:Hid (((wr.alloc (.cells #[.int .i32 (r:Int)] 21)).alloc (.cells #[.nilFunc] 356)).ownsRow w0.heap.size 356 1 (.slice G n cp) n xs):=Lib.hid (own_up hO.out (fun q _ hq=>(Go.Deep.blk_alloc_lt _ _ q (by rw [World.size_alloc];omega)).trans (Go.Deep.blk_alloc_lt wr _ q hq)))
        obtain ⟨v',w6,g',cap',a1,hv',hg1,hg2,O6,S6,-⟩:=append_one Tryz.underlying299 info356 rfl (by decide) (by decide) ((wr.alloc (.cells #[.int .i32 (r:Int)] 21)).alloc (.cells #[.nilFunc] 356)) w0.heap.size G n cp xs [.nilFunc] hO2.out rfl (fun u hu=>by
         rw [List.mem_singleton.1 hu];rfl) (by omega) HZ2.out
        subst hv'
        have W6:Hid (w0.Since w0.heap.size w6):=Lib.hid (W2.out.trans S6.out)
        clear hg1 hg2 S6
        rw [World.size_alloc,World.size_alloc] at a1
        clear q hk HN HD
        go_wp2_with (refine wpList_append_g (ts:=299) (v:=.slice G n cp) (xv:=.slice (some ⟨wr.heap.size+1+1,0,none⟩) 1 1) (v':=.slice (some ⟨g',0,none⟩) (n+1) cap') (w':=w6) ?_ (.tmp 71) (.tmp 73) ?_ ?_ ?_ ?_ ?_ ?_;exact rfl;exact rfl;exact rfl;exact rfl;exact rfl;exact a1)
        go_roundg (rs.length - (i+1+1))
        case measure=>omega
        case rel=>exact ⟨i+1+1,n+1,cap',some ⟨g',0,none⟩,_,rfl,by omega,rfl,by simp,by omega,O6,W6,hI2⟩
     ·
      have f3:((i:Int)+1 == (rs.length:Int))=true:=beq_iff_eq.2 (by omega)
      have HR:=Lib.hid (HB.out _ (HE.out h3))
      clear cc HE HN HD
      go_wp2_with fail
      exact bodyPost_ret (v:=.tuple #[.slice none 0 0,.bool false]) (by simp [results,Tryz.results237,go_sem]) rfl ⟨HR.out _ rfl,wr_since S0.out (hW.out.alloc hW.out.size _)⟩
    ·
     have f37:((rs[i]:Int) != 37)=true:=bne_iff_ne.2 (by omega)
     have hI2:=Lib.hid (hI.out.one h1 h2)
     clear h2 cc
     generalize rs[i]=r at *
     have HZ2:Hid (w0.heap.size≤(wr.alloc (.cells #[.int .i32 (r:Int)] 21)).heap.size):=Lib.hid (by have:=hW.out.size;simp;omega)
     have W2:Hid (w0.Since w0.heap.size (wr.alloc (.cells #[.int .i32 (r:Int)] 21))):=Lib.hid (hW.out.alloc hW.out.size _)
     have hO2:Hid ((wr.alloc (.cells #[.int .i32 (r:Int)] 21)).ownsRow w0.heap.size 356 1 (.slice G n cp) n xs):=Lib.hid (own_up hO.out (fun q _ hq=>Go.Deep.blk_alloc_lt wr _ q hq))
     obtain ⟨v',w6,g',cap',a1,hv',hg1,hg2,O6,S6,-⟩:=append_one Tryz.underlying299 info356 rfl (by decide) (by decide) (wr.alloc (.cells #[.int .i32 (r:Int)] 21)) w0.heap.size G n cp xs [(.func (.func 281) #[] #[.pointer (some ⟨wr.heap.size,0,none⟩)])] hO2.out rfl (fun u hu=>by
      rw [List.mem_singleton.1 hu];rfl) (by omega) HZ2.out
     subst hv'
     have W6:Hid (w0.Since w0.heap.size w6):=Lib.hid (W2.out.trans S6.out)
     clear hg1 hg2 S6
     rw [World.size_alloc] at a1
     go_wp2_with (refine wpList_append_g (ts:=299) (v:=.slice G n cp) (xv:=.slice (some ⟨wr.heap.size+1,0,none⟩) 1 1) (v':=.slice (some ⟨g',0,none⟩) (n+1) cap') (w':=w6) ?_ (.tmp 26) (.tmp 29) ?_ ?_ ?_ ?_ ?_ ?_;exact rfl;exact rfl;exact rfl;exact rfl;exact rfl;exact a1)
     go_roundg (rs.length - (i+1))
     case measure=>omega
     case rel=>exact ⟨i+1,n+1,cap',some ⟨g',0,none⟩,_,rfl,by omega,rfl,by simp,by omega,O6,W6,hI2⟩
   ·
    have i1:¬ (i:Int) < (rs.length:Int):=by omega
    have HR:=Lib.hid (HB.out _ (hI.out.all h1))
    go_wp2_with fail
    exact bodyPost_ret (v:=.tuple #[.slice G n cp,.bool true]) (by simp [results,Tryz.results237,go_sem]) rfl ⟨HR.out _ ⟨G,cp,rfl⟩,wr_since S0.out hW.out⟩
end Go.Proofs.YthbdlnflmfchjaaGreatDoor
namespace Go.Proofs.YthbdlnflmfchjaaGreatDoor
open Go.RowKit Go.ChangeShapes Go.WideShapes Go.ChangeAt Go.Deep Go.Proofs.Fm
theorem addr_add (a:Addr) (m k:Nat):(a.add m).add k=a.add (m+k):=by
 unfold Addr.add
 by_cases hm:m=0
 ·
  subst hm;simp
 ·
  by_cases hk:k=0
  ·
   subst hk;simp [hm]
  ·
   simp [hm,hk];omega
theorem TzsAt.snoc {w:World} {t:Tz} {cs:List Value} (ht:TzAt w t cs):∀ (ts:List Tz) (us:List Value),TzsAt w ts us→TzsAt w (ts ++ [t]) (us ++ cs)
 | [],us,h=>by
  unfold TzsAt at h
  subst h
  rw [List.nil_append,List.nil_append,TzsAt]
  exact ⟨cs,[],by simp,ht,by rw [TzsAt]⟩
 | u :: ts,us,h=>by
  unfold TzsAt at h
  obtain ⟨a,b,rfl,h1,h2⟩:=h
  rw [List.cons_append,TzsAt]
  exact ⟨a,b ++ cs,by rw [List.append_assoc],h1,TzsAt.snoc ht ts b h2⟩
section
variable {H:Type} {enc:TypeId × Value→H} {W:World}
theorem open_term:∀ (n:Nat) (cs:List Value) (x:DataW H × List MemPlace),DataW.trod enc Tryz.prog W 0 (fun _=>true) true n 39 cs=some x→∃ t:Tz,TzAt W t cs:=by
 intro n
 induction n using Nat.strongRecOn with
 | ind n IH=>
  intro cs x h
  obtain ⟨ys,n1,hn,hy,hlen,hyl,hf⟩:=DataW.trod_struct Tryz.underlying39 h
  have hc39:Tryz.prog.cellsOf 39=4:=by kernel_rfl
  rw [hc39] at hlen
  obtain ⟨c0,c1,c2,c3,rfl⟩:∃ c0 c1 c2 c3,cs=[c0,c1,c2,c3]:=by
   rcases cs with _ | ⟨c0,_ | ⟨c1,_ | ⟨c2,_ | ⟨c3,_ | ⟨c4,l⟩⟩⟩⟩⟩
   ·
    simp at hlen
   ·
    simp at hlen
   ·
    simp at hlen
   ·
    simp at hlen
   ·
    exact ⟨c0,c1,c2,c3,rfl⟩
   ·
    simp at hlen
  have h36:Tryz.prog.cellsOf 36=1:=by kernel_rfl
  have h9:Tryz.prog.cellsOf 9=1:=by kernel_rfl
  have h2:Tryz.prog.cellsOf 2=1:=by kernel_rfl
  have h37:Tryz.prog.cellsOf 37=1:=by kernel_rfl
  have f0:DataW.trod enc Tryz.prog W 0 (fun _=>true) true n1 36 [c0]=ys[0]?:=by
   have h:DataW.trod enc Tryz.prog W 0 (fun _=>true) true n1 36 (List.take (Tryz.prog.cellsOf 36) (List.drop 0 [c0,c1,c2,c3]))=ys[0]?:=hf 0 _ rfl
   rw [h36] at h
   exact h
  have f1:DataW.trod enc Tryz.prog W 0 (fun _=>true) true n1 9 [c1]=ys[1]?:=by
   have h:DataW.trod enc Tryz.prog W 0 (fun _=>true) true n1 9 (List.take (Tryz.prog.cellsOf 9) (List.drop 1 [c0,c1,c2,c3]))=ys[1]?:=hf 1 _ rfl
   rw [h9] at h
   exact h
  have f2:DataW.trod enc Tryz.prog W 0 (fun _=>true) true n1 2 [c2]=ys[2]?:=by
   have h:DataW.trod enc Tryz.prog W 0 (fun _=>true) true n1 2 (List.take (Tryz.prog.cellsOf 2) (List.drop 2 [c0,c1,c2,c3]))=ys[2]?:=hf 2 _ rfl
   rw [h2] at h
   exact h
  have f3:DataW.trod enc Tryz.prog W 0 (fun _=>true) true n1 37 [c3]=ys[3]?:=by
   have h:DataW.trod enc Tryz.prog W 0 (fun _=>true) true n1 37 (List.take (Tryz.prog.cellsOf 37) (List.drop 3 [c0,c1,c2,c3]))=ys[3]?:=hf 3 _ rfl
   rw [h37] at h
   exact h
  have hys:ys.length=4:=hyl
  rw [List.getElem?_eq_getElem (by omega)] at f0 f1 f2 f3
  obtain ⟨k,e0,_,b0⟩:=DataW.trod_int Tryz.underlying36 f0
  obtain ⟨s,e1,_,b1⟩:=DataW.trod_string Tryz.underlying9 f1
  obtain ⟨z,e2,_,b2⟩:=DataW.trod_int Tryz.underlying2 f2
  injection e0 with e0
  injection e1 with e1
  injection e2 with e2
  subst e0 e1 e2
  have hk:=bounds_u8 b0
  obtain ⟨kn,rfl⟩:=Int.eq_ofNat_of_zero_le (show 0≤k by omega)
  have hz:=i64_bounds b2
  rcases DataW.trod_slice Tryz.underlying37 f3 with ⟨h0,_⟩ | ⟨a,len,cap,elems,rest,n2,hn2,hcs,_,_,hlc,hcm,hel,hi,_,_⟩
  ·
   injection h0 with h0
   subst h0
   refine ⟨.mk kn s z [],?_⟩
   rw [TzAt]
   exact ⟨none,0,[],rfl,⟨hz,b1,Nat.zero_le _⟩,.inl rfl,by rw [TzsAt]⟩
  ·
   injection hcs with hcs
   subst hcs
   rw [hc39] at hi
   have hall:∀ j,j≤len→∃ (ts:List Tz) (us:List Value),ts.length=j∧us.length=j * 4∧TzsAt W ts us∧∀ i (h:i < us.length),W.cell? (a.add i)=some us[i]:=by
    intro j
    induction j with
    | zero=>exact fun _=>⟨[],[],rfl,rfl,by rw [TzsAt],fun i h=>absurd h (Nat.not_lt_zero _)⟩
    | succ j ih=>
     intro hj
     obtain ⟨ts,us,t1,t2,t3,t4⟩:=ih (by omega)
     have h5:=hi j (by omega)
     rw [List.getElem?_eq_getElem (by omega)] at h5
     obtain ⟨cs',h6,h7⟩:=Option.bind_eq_some_iff.1 h5
     obtain ⟨t,ht⟩:=IH n2 (by omega) cs' _ h7
     obtain ⟨_,hl4,hat⟩:=World.cells?_some h6
     refine ⟨ts ++ [t],us ++ cs',by simp [t1],by rw [List.length_append,t2,hl4];omega,TzsAt.snoc ht ts us t3,fun i hi2=>?_⟩
     rw [List.length_append] at hi2
     by_cases h8:i < us.length
     ·
      rw [List.getElem_append_left h8];exact t4 i h8
     ·
      rw [List.getElem_append_right (by omega)]
      have h9:=hat (i - us.length) (by omega)
      rw [addr_add,show j * 4+(i - us.length)=i by omega] at h9
      rw [h9]
      exact List.getElem?_eq_getElem (by omega)
   obtain ⟨ts,us,t1,t2,t3,t4⟩:=hall len (Nat.le_refl _)
   refine ⟨.mk kn s z ts,?_⟩
   rw [TzAt]
   refine ⟨some a,cap,us,by rw [t1],⟨hz,b1,by omega⟩,?_,t3⟩
   rcases Nat.eq_zero_or_pos us.length with h0 | h0
   ·
    exact .inl (List.length_eq_zero_iff.1 h0)
   ·
    refine .inr ⟨a,rfl,?_,t4⟩
    have:=World.block_lt_of_cell? W (a.add 0) (t4 0 h0)
    rwa [block_add] at this
end
end Go.Proofs.YthbdlnflmfchjaaGreatDoor
