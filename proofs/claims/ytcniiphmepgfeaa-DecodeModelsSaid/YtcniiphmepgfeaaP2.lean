/- Whether any model is valid, what any step costs, and the score of any words: the program (truchman/decode) and the specification (truchmanref05) answer alike, for every task and every list of words that can be read; no condition beside the row's own. -/
import Derived.Test.YtcniiphmepgfeaaP1
namespace Go.Proofs.Ytcniiphmepgfeaa
open Go.RowKit Go.ChangeShapes Go.WideShapes Go.ChangeAt Go.Deep

theorem own : ownKnob Try.prog.godebug = none := by kernel_rfl
theorem laidOut : laidOutB Try.prog = true := by kernel_rfl
theorem readable : ∀ t ∈ [34, 35], Try.prog.readableRec t = true ∧ t < Try.prog.types.size := by
  intro t ht
  simp only [List.mem_cons, List.not_mem_nil, or_false] at ht
  rcases ht with rfl | rfl
  · exact ⟨by kernel_rfl, by decide +kernel⟩
  · exact ⟨by kernel_rfl, by decide +kernel⟩

theorem list15 {α : Type} {l : List α} (h : l.length = 15) : ∃ a0 a1 a2 a3 a4 a5 a6 a7 a8 a9 a10 a11 a12 a13 a14, l = [a0, a1, a2, a3, a4, a5, a6, a7, a8, a9, a10, a11, a12, a13, a14] := by
  match l, h with
  | [a0, a1, a2, a3, a4, a5, a6, a7, a8, a9, a10, a11, a12, a13, a14], _ => exact ⟨a0, a1, a2, a3, a4, a5, a6, a7, a8, a9, a10, a11, a12, a13, a14, rfl⟩
theorem c25 : Try.prog.cellsOf 25 = 3 := by kernel_rfl
theorem c9 : Try.prog.cellsOf 9 = 1 := by kernel_rfl
theorem c3 : Try.prog.cellsOf 3 = 1 := by kernel_rfl
theorem c22 : Try.prog.cellsOf 22 = 1 := by kernel_rfl
theorem c23 : Try.prog.cellsOf 23 = 1 := by kernel_rfl
theorem c34 : Try.prog.cellsOf 34 = 15 := by kernel_rfl
section
variable {H : Type} {enc : TypeId × Value → H} {W : World}
theorem some_of {α : Type} {l : List α} {i n : Nat} (h : l.length = n) (hi : i < n) : ∃ x, l[i]? = some x := ⟨_, List.getElem?_eq_getElem (by omega)⟩
theorem open_model {n : Nat} {a0 a1 a2 : Value} {x : DataW H × List MemPlace} (h : DataW.trod enc Try.prog W 0 (fun _ => true) true n 25 [a0, a1, a2] = some x) :
    ∃ (m : Mdl) (A C : Option Addr) (cA cC : Nat), a0 = .int .i64 m.unknown ∧ a1 = .slice A m.words.length cA ∧ a2 = .slice C m.pairs.length cC ∧ m.words.length ≤ 9223372036854775807 ∧ m.pairs.length ≤ 9223372036854775807 ∧
      UniAt W W.heap.size A m.words ∧ BiAt W W.heap.size C m.pairs := by
  obtain ⟨xs, k, _, _, _, hxl, hg⟩ := DataW.trod_struct Try.underlying25 h
  obtain ⟨y0, e0⟩ := some_of (i := 0) hxl (by decide)
  obtain ⟨y1, e1⟩ := some_of (i := 1) hxl (by decide)
  obtain ⟨y2, e2⟩ := some_of (i := 2) hxl (by decide)
  have g0 : DataW.trod enc Try.prog W 0 (fun _ => true) true k 3 (([a0, a1, a2].drop 0).take (Try.prog.cellsOf 3)) = xs[0]? := hg 0 _ rfl
  have g1 : DataW.trod enc Try.prog W 0 (fun _ => true) true k 22 (([a0, a1, a2].drop 1).take (Try.prog.cellsOf 22)) = xs[1]? := hg 1 _ rfl
  have g2 : DataW.trod enc Try.prog W 0 (fun _ => true) true k 23 (([a0, a1, a2].drop 2).take (Try.prog.cellsOf 23)) = xs[2]? := hg 2 _ rfl
  rw [c3, e0] at g0
  rw [c22, e1] at g1
  rw [c23, e2] at g2
  obtain ⟨u, eu, _, _⟩ := DataW.trod_int Try.underlying3 g0
  obtain ⟨A, us, cA, ea, hl1, hA⟩ := open_uni g1
  obtain ⟨C, bs, cC, ec, hl2, hC⟩ := open_bi g2
  exact ⟨⟨u, us, bs⟩, A, C, cA, cC, by simpa using eu, ea, ec, hl1, hl2, hA, hC⟩

theorem open_task {cs : Array Value} {d : DataW H} {p : List MemPlace} (hsz : cs.size = 15) (h : DataW.Trod enc Try.prog W 0 (fun _ => true) true 34 (.agg cs) d p) :
    ∃ (m : Mdl) (a b : ByteArray) (A C : Option Addr) (cA cC : Nat) (v5 v6 v7 v8 v9 v10 v11 v12 v13 v14 : Value),
      cs = #[.int .i64 m.unknown, .slice A m.words.length cA, .slice C m.pairs.length cC, .string a, .string b, v5, v6, v7, v8, v9, v10, v11, v12, v13, v14] ∧ m.words.length ≤ 9223372036854775807 ∧ m.pairs.length ≤ 9223372036854775807 ∧
      UniAt W W.heap.size A m.words ∧ BiAt W W.heap.size C m.pairs := by
  obtain ⟨ls⟩ := cs
  obtain ⟨a0, a1, a2, a3, a4, a5, a6, a7, a8, a9, a10, a11, a12, a13, a14, rfl⟩ := list15 (l := ls) hsz
  obtain ⟨f0, t0⟩ := h
  obtain ⟨xs, k, _, _, _, hxl, hg⟩ := DataW.trod_struct Try.underlying34 t0
  obtain ⟨y0, e0⟩ := some_of (i := 0) hxl (by decide)
  obtain ⟨y1, e1⟩ := some_of (i := 1) hxl (by decide)
  obtain ⟨y2, e2⟩ := some_of (i := 2) hxl (by decide)
  have g0 : DataW.trod enc Try.prog W 0 (fun _ => true) true k 25 (([a0, a1, a2, a3, a4, a5, a6, a7, a8, a9, a10, a11, a12, a13, a14].drop 0).take (Try.prog.cellsOf 25)) = xs[0]? := hg 0 _ rfl
  have g1 : DataW.trod enc Try.prog W 0 (fun _ => true) true k 9 (([a0, a1, a2, a3, a4, a5, a6, a7, a8, a9, a10, a11, a12, a13, a14].drop 3).take (Try.prog.cellsOf 9)) = xs[1]? := hg 1 _ rfl
  have g2 : DataW.trod enc Try.prog W 0 (fun _ => true) true k 9 (([a0, a1, a2, a3, a4, a5, a6, a7, a8, a9, a10, a11, a12, a13, a14].drop 4).take (Try.prog.cellsOf 9)) = xs[2]? := hg 2 _ rfl
  rw [c25, e0] at g0
  rw [c9, e1] at g1
  rw [c9, e2] at g2
  obtain ⟨m, A, C, cA, cC, q0, q1, q2, hl1, hl2, hA, hC⟩ := open_model g0
  obtain ⟨a, ea, _, _⟩ := DataW.trod_string Try.underlying9 g1
  obtain ⟨b, eb, _, _⟩ := DataW.trod_string Try.underlying9 g2
  obtain rfl : a3 = .string a := by simpa using ea
  obtain rfl : a4 = .string b := by simpa using eb
  subst q0 q1 q2
  exact ⟨m, a, b, A, C, cA, cC, a5, a6, a7, a8, a9, a10, a11, a12, a13, a14, rfl, hl1, hl2, hA, hC⟩
end

set_option maxRecDepth 100000 in
theorem lifted (os : Os) (started : os.Started) (H : Type) (enc : TypeId × Value → H) :
    ReturnsInHanded {} Try.checked os 3 .any (Rows.decodeModelsSpec.pre6 enc Try.prog Try.f3 Rows.decodeModelsRow.domain false) (Rows.decodeModelsSpec.post enc Try.prog Try.f3 false true false false) := by
  refine returnsInHanded_of_change (C := Try.checked) own started (by kernel_rfl) Try.func3
    (ChangeSpec.witness6 (enc := enc) (C := Try.checked) false ⟨#[], #[.agg #[.int .i64 0, .slice none 0 0, .slice none 0 0, .string .empty, .string .empty, .int .i64 0, .int .i64 0, .slice none 0 0, .int .i64 0, .slice none 0 0, .slice none 0 0, .int .i64 0, .int .i64 0, .int .i64 0, .int .i64 0], .slice none 0 0], []⟩ 12
      (by kernel_rfl) (by kernel_rfl) (by kernel_rfl) (by kernel_rfl)) ?_
  intro W base args ds gs before hval0 hW hcnd _
  have hval : ∀ (j : Nat) t v, Try.f3.params[j]? = some t → args[j]? = some v → Value.okWide Try.prog W .any base t v := hval0
  have hW' := hW
  have hlt := fun p hp => hW.lt p hp
  obtain ⟨p, q, hA0, hV, rfl, hfz, hnd⟩ := hW
  have hA : DataW.TrodAll enc Try.prog W 0 (fun _ => true) true Try.f3.params.toList args.toList ds p := hA0
  rw [Try.params3] at hA hval
  have hAll := hA
  obtain ⟨v0, v1, d0, d1, p0, p1, rfl, rfl, rfl, h0, h1⟩ := trodAll_two hA
  obtain ⟨rfl, rfl⟩ := trodVars_none hV
  clear hA0 hval0
  simp only [List.append_nil] at hW' hlt
  -- the task: fifteen cells, of which the first five are asked for
  obtain ⟨cs, rfl, hsz⟩ := okWide_struct Try.underlying34 (hval 0 34 v0 rfl rfl)
  rw [c34] at hsz
  obtain ⟨m, a, b, A, C, cA, cC, v5, v6, v7, v8, v9, v10, v11, v12, v13, v14, rfl, hl1, hl2, hA2, hC2⟩ := open_task hsz h0
  obtain ⟨L', n', c', rfl⟩ := okWide_slice Try.underlying35 (hval 1 35 v1 rfl rfl)
  obtain ⟨f1, t1⟩ := h1
  obtain ⟨L, l, cL, e1, hl3, hL2⟩ := open_str (c := .slice L' n' c') t1
  rw [e1] at hW' hAll ⊢
  clear e1 t1 hval
  refine (law3 m a b l v5 v6 v7 v8 v9 v10 v11 v12 v13 v14 W A C L cA cC cL hA2 hC2 hL2 hl1 hl2 hl3).mono fun e W' ⟨he, hb⟩ => ?_
  subst he
  refine ⟨_, rfl, post_of_below (pa := p0 ++ p1) (pv := []) hW' (fun _ _ _ => trodAll_mk1 (shut_bool Try.underlying4 _)) (fun sp hsp => ?_) (fun _ _ => rfl) (by simp) hb (ok_one (by kernel_rfl) rfl (okWide_bool_mk Try.underlying4 _))⟩
  exact trodAll_stays laidOut hb _ _ _ _ readable hAll hlt hsp

theorem decodeModels_holds : Rows.DecodeModelsSaid :=
  OpenClaim.holds_of_wide 3 Try.f3 rfl rfl rfl rfl rfl rfl rfl ⟨rfl, rfl, rfl, rfl, rfl⟩ rfl rfl rfl rfl rfl (by kernel_rfl) Try.func3 (by kernel_rfl)
    (of_decide_eq_true (by kernel_rfl)) (by unfold Func.isWrapper; first | (rw [if_pos (by decide +kernel)]; kernel_rfl) | (rw [if_neg (by decide +kernel)]; exact ⟨rfl, rfl⟩))
    (fun os started H enc _ => lifted os started H enc)
#print axioms decodeModels_holds
end Go.Proofs.Ytcniiphmepgfeaa
