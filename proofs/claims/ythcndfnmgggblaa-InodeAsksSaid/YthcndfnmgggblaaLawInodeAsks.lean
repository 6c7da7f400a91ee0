/-
InodeAsks: for every input the law returns true, and each argument reads behind the call as it read before.
Conditions: none.
-/
import Derived.Test.YthcndfnmgggblaaRows
import Derived.Test.YthcndfnmgggblaaPx31
import Derived.Test.YthcndfnmgggblaaPureInodeAsks
import Derived.WalkKit
import Derived.ProofKit
import Derived.OpenShut
import Derived.ShutString
import Derived.ChangeOld
import Derived.Below
import Derived.SizedLaws
namespace Go.Proofs.Ythcndfnmgggblaa.inodeAsks
open Go.ChangeShapes Go.WideShapes Go.ChangeAt Go.RowKit Go.Proofs.YthcndfnmgggblaaW.PrintWords
open Go.ChangeMaps (open_string shut_string)
set_option linter.unusedVariables false
theorem own : ownKnob Try.prog.godebug = none := by kernel_rfl
theorem laidOut : laidOutB Try.prog = true := by kernel_rfl
theorem cells2 : Try.prog.cellsOf 2 = 1 := by kernel_rfl
theorem cells3 : Try.prog.cellsOf 3 = 1 := by kernel_rfl
theorem cells22 : Try.prog.cellsOf 22 = 6 := by kernel_rfl
theorem cells24 : Try.prog.cellsOf 24 = 12 := by kernel_rfl
theorem cells41 : Try.prog.cellsOf 41 = 3 := by kernel_rfl
theorem arr0 (cs : Array Value) (h : cs.size = 3) : ∃ c0 c1 c2, cs = #[c0, c1, c2] := by
  obtain ⟨l⟩ := cs
  match l, h with
  | [c0, c1, c2], _ => exact ⟨c0, c1, c2, rfl⟩
set_option maxRecDepth 100000 in
theorem open0 {H : Type} {enc : TypeId × Value → H} {W : World} {r : Reach} {b0 base : Nat} {spare : Nat → Bool} {held : Bool} {v : Value} {d : DataW H} {p : List MemPlace} (hv : Value.okWide Try.prog W r b0 41 v) (h : DataW.Trod enc Try.prog W base spare held 41 v d p) :
    ∃ (x0 : Int) (x1 : Int) (x2 : Int), v = .agg #[.int .i64 x0, .int .i64 x1, .int .i64 x2] ∧ (Lit.int .i64 x0).wf = true ∧ (Lit.int .i64 x1).wf = true ∧ (Lit.int .i64 x2).wf = true := by
  obtain ⟨cs, rfl, hsz⟩ := okWide_struct Try.underlying41 hv
  obtain ⟨c0, c1, c2, rfl⟩ := arr0 cs (hsz.trans cells41)
  obtain ⟨fuel, hf⟩ := h
  simp only [Value.cells] at hf
  obtain ⟨ys, m, _, _, _, l, f⟩ := DataW.trod_struct Try.underlying41 hf
  have g_0 : DataW.trod enc Try.prog W base spare held m 3 (List.take (Try.prog.cellsOf 3) (List.drop 0 [c0, c1, c2])) = ys[0]? := f 0 _ rfl
  rw [cells3, List.getElem?_eq_getElem (by rw [l]; decide)] at g_0
  replace g_0 : DataW.trod enc Try.prog W base spare held m 3 [c0] = some _ := g_0
  have g_1 : DataW.trod enc Try.prog W base spare held m 3 (List.take (Try.prog.cellsOf 3) (List.drop 1 [c0, c1, c2])) = ys[1]? := f 1 _ rfl
  rw [cells3, List.getElem?_eq_getElem (by rw [l]; decide)] at g_1
  replace g_1 : DataW.trod enc Try.prog W base spare held m 3 [c1] = some _ := g_1
  have g_2 : DataW.trod enc Try.prog W base spare held m 3 (List.take (Try.prog.cellsOf 3) (List.drop 2 [c0, c1, c2])) = ys[2]? := f 2 _ rfl
  rw [cells3, List.getElem?_eq_getElem (by rw [l]; decide)] at g_2
  replace g_2 : DataW.trod enc Try.prog W base spare held m 3 [c2] = some _ := g_2
  obtain ⟨x0, e_0, _, w0⟩ := DataW.trod_int Try.underlying3 g_0
  simp only [List.cons.injEq, and_true] at e_0
  subst e_0
  obtain ⟨x1, e_1, _, w1⟩ := DataW.trod_int Try.underlying3 g_1
  simp only [List.cons.injEq, and_true] at e_1
  subst e_1
  obtain ⟨x2, e_2, _, w2⟩ := DataW.trod_int Try.underlying3 g_2
  simp only [List.cons.injEq, and_true] at e_2
  subst e_2
  exact ⟨_, _, _, rfl, w0, w1, w2⟩
theorem arr1 (cs : Array Value) (h : cs.size = 12) : ∃ c0 c1 c2 c3 c4 c5 c6 c7 c8 c9 c10 c11, cs = #[c0, c1, c2, c3, c4, c5, c6, c7, c8, c9, c10, c11] := by
  obtain ⟨l⟩ := cs
  match l, h with
  | [c0, c1, c2, c3, c4, c5, c6, c7, c8, c9, c10, c11], _ => exact ⟨c0, c1, c2, c3, c4, c5, c6, c7, c8, c9, c10, c11, rfl⟩
set_option maxRecDepth 100000 in
theorem open1 {H : Type} {enc : TypeId × Value → H} {W : World} {r : Reach} {b0 base : Nat} {spare : Nat → Bool} {held : Bool} {v : Value} {d : DataW H} {p : List MemPlace} (hv : Value.okWide Try.prog W r b0 24 v) (h : DataW.Trod enc Try.prog W base spare held 24 v d p) :
    ∃ (x0 : Int) (x1 : Int) (x2 : Int) (x3 : Int) (x4 : Int) (x5 : Int) (x6 : Int) (x7 : Int) (x8 : Int) (x9 : Int) (x10 : Int) (x11 : Int), v = .agg #[.int .i64 x0, .int .i64 x1, .int .i64 x2, .int .i64 x3, .int .i64 x4, .int .i64 x5, .int .i64 x6, .int .i64 x7, .int .i64 x8, .int .i64 x9, .int .i64 x10, .int .i64 x11] ∧ (Lit.int .i64 x0).wf = true ∧ (Lit.int .i64 x1).wf = true ∧ (Lit.int .i64 x2).wf = true ∧ (Lit.int .i64 x3).wf = true ∧ (Lit.int .i64 x4).wf = true ∧ (Lit.int .i64 x5).wf = true ∧ (Lit.int .i64 x6).wf = true ∧ (Lit.int .i64 x7).wf = true ∧ (Lit.int .i64 x8).wf = true ∧ (Lit.int .i64 x9).wf = true ∧ (Lit.int .i64 x10).wf = true ∧ (Lit.int .i64 x11).wf = true := by
  obtain ⟨cs, rfl, hsz⟩ := okWide_struct Try.underlying24 hv
  obtain ⟨c0, c1, c2, c3, c4, c5, c6, c7, c8, c9, c10, c11, rfl⟩ := arr1 cs (hsz.trans cells24)
  obtain ⟨fuel, hf⟩ := h
  simp only [Value.cells] at hf
  obtain ⟨ys, m, _, _, _, l, f⟩ := DataW.trod_struct Try.underlying24 hf
  have g_0 : DataW.trod enc Try.prog W base spare held m 3 (List.take (Try.prog.cellsOf 3) (List.drop 0 [c0, c1, c2, c3, c4, c5, c6, c7, c8, c9, c10, c11])) = ys[0]? := f 0 _ rfl
  rw [cells3, List.getElem?_eq_getElem (by rw [l]; decide)] at g_0
  replace g_0 : DataW.trod enc Try.prog W base spare held m 3 [c0] = some _ := g_0
  have g_1 : DataW.trod enc Try.prog W base spare held m 3 (List.take (Try.prog.cellsOf 3) (List.drop 1 [c0, c1, c2, c3, c4, c5, c6, c7, c8, c9, c10, c11])) = ys[1]? := f 1 _ rfl
  rw [cells3, List.getElem?_eq_getElem (by rw [l]; decide)] at g_1
  replace g_1 : DataW.trod enc Try.prog W base spare held m 3 [c1] = some _ := g_1
  have g_2 : DataW.trod enc Try.prog W base spare held m 2 (List.take (Try.prog.cellsOf 2) (List.drop 2 [c0, c1, c2, c3, c4, c5, c6, c7, c8, c9, c10, c11])) = ys[2]? := f 2 _ rfl
  rw [cells2, List.getElem?_eq_getElem (by rw [l]; decide)] at g_2
  replace g_2 : DataW.trod enc Try.prog W base spare held m 2 [c2] = some _ := g_2
  have g_3 : DataW.trod enc Try.prog W base spare held m 2 (List.take (Try.prog.cellsOf 2) (List.drop 3 [c0, c1, c2, c3, c4, c5, c6, c7, c8, c9, c10, c11])) = ys[3]? := f 3 _ rfl
  rw [cells2, List.getElem?_eq_getElem (by rw [l]; decide)] at g_3
  replace g_3 : DataW.trod enc Try.prog W base spare held m 2 [c3] = some _ := g_3
  have g_4 : DataW.trod enc Try.prog W base spare held m 22 (List.take (Try.prog.cellsOf 22) (List.drop 4 [c0, c1, c2, c3, c4, c5, c6, c7, c8, c9, c10, c11])) = ys[4]? := f 4 _ rfl
  rw [cells22, List.getElem?_eq_getElem (by rw [l]; decide)] at g_4
  replace g_4 : DataW.trod enc Try.prog W base spare held m 22 [c4, c5, c6, c7, c8, c9] = some _ := g_4
  have g_5 : DataW.trod enc Try.prog W base spare held m 3 (List.take (Try.prog.cellsOf 3) (List.drop 10 [c0, c1, c2, c3, c4, c5, c6, c7, c8, c9, c10, c11])) = ys[5]? := f 5 _ rfl
  rw [cells3, List.getElem?_eq_getElem (by rw [l]; decide)] at g_5
  replace g_5 : DataW.trod enc Try.prog W base spare held m 3 [c10] = some _ := g_5
  have g_6 : DataW.trod enc Try.prog W base spare held m 3 (List.take (Try.prog.cellsOf 3) (List.drop 11 [c0, c1, c2, c3, c4, c5, c6, c7, c8, c9, c10, c11])) = ys[6]? := f 6 _ rfl
  rw [cells3, List.getElem?_eq_getElem (by rw [l]; decide)] at g_6
  replace g_6 : DataW.trod enc Try.prog W base spare held m 3 [c11] = some _ := g_6
  obtain ⟨x0, e_0, _, w0⟩ := DataW.trod_int Try.underlying3 g_0
  simp only [List.cons.injEq, and_true] at e_0
  subst e_0
  obtain ⟨x1, e_1, _, w1⟩ := DataW.trod_int Try.underlying3 g_1
  simp only [List.cons.injEq, and_true] at e_1
  subst e_1
  obtain ⟨x2, e_2, _, w2⟩ := DataW.trod_int Try.underlying2 g_2
  simp only [List.cons.injEq, and_true] at e_2
  subst e_2
  obtain ⟨x3, e_3, _, w3⟩ := DataW.trod_int Try.underlying2 g_3
  simp only [List.cons.injEq, and_true] at e_3
  subst e_3
  obtain ⟨ys_4, m_4, _, _, _, l_4, f_4⟩ := DataW.trod_array Try.underlying22 g_4
  have g_4_0 : DataW.trod enc Try.prog W base spare held m_4 3 (List.take (Try.prog.cellsOf 3) (List.drop (0 * Try.prog.cellsOf 3) [c4, c5, c6, c7, c8, c9])) = ys_4[0]? := f_4 0 (by omega)
  rw [cells3, List.getElem?_eq_getElem (by rw [l_4]; decide)] at g_4_0
  replace g_4_0 : DataW.trod enc Try.prog W base spare held m_4 3 [c4] = some _ := g_4_0
  have g_4_1 : DataW.trod enc Try.prog W base spare held m_4 3 (List.take (Try.prog.cellsOf 3) (List.drop (1 * Try.prog.cellsOf 3) [c4, c5, c6, c7, c8, c9])) = ys_4[1]? := f_4 1 (by omega)
  rw [cells3, List.getElem?_eq_getElem (by rw [l_4]; decide)] at g_4_1
  replace g_4_1 : DataW.trod enc Try.prog W base spare held m_4 3 [c5] = some _ := g_4_1
  have g_4_2 : DataW.trod enc Try.prog W base spare held m_4 3 (List.take (Try.prog.cellsOf 3) (List.drop (2 * Try.prog.cellsOf 3) [c4, c5, c6, c7, c8, c9])) = ys_4[2]? := f_4 2 (by omega)
  rw [cells3, List.getElem?_eq_getElem (by rw [l_4]; decide)] at g_4_2
  replace g_4_2 : DataW.trod enc Try.prog W base spare held m_4 3 [c6] = some _ := g_4_2
  have g_4_3 : DataW.trod enc Try.prog W base spare held m_4 3 (List.take (Try.prog.cellsOf 3) (List.drop (3 * Try.prog.cellsOf 3) [c4, c5, c6, c7, c8, c9])) = ys_4[3]? := f_4 3 (by omega)
  rw [cells3, List.getElem?_eq_getElem (by rw [l_4]; decide)] at g_4_3
  replace g_4_3 : DataW.trod enc Try.prog W base spare held m_4 3 [c7] = some _ := g_4_3
  have g_4_4 : DataW.trod enc Try.prog W base spare held m_4 3 (List.take (Try.prog.cellsOf 3) (List.drop (4 * Try.prog.cellsOf 3) [c4, c5, c6, c7, c8, c9])) = ys_4[4]? := f_4 4 (by omega)
  rw [cells3, List.getElem?_eq_getElem (by rw [l_4]; decide)] at g_4_4
  replace g_4_4 : DataW.trod enc Try.prog W base spare held m_4 3 [c8] = some _ := g_4_4
  have g_4_5 : DataW.trod enc Try.prog W base spare held m_4 3 (List.take (Try.prog.cellsOf 3) (List.drop (5 * Try.prog.cellsOf 3) [c4, c5, c6, c7, c8, c9])) = ys_4[5]? := f_4 5 (by omega)
  rw [cells3, List.getElem?_eq_getElem (by rw [l_4]; decide)] at g_4_5
  replace g_4_5 : DataW.trod enc Try.prog W base spare held m_4 3 [c9] = some _ := g_4_5
  obtain ⟨x4, e_4_0, _, w4⟩ := DataW.trod_int Try.underlying3 g_4_0
  simp only [List.cons.injEq, and_true] at e_4_0
  subst e_4_0
  obtain ⟨x5, e_4_1, _, w5⟩ := DataW.trod_int Try.underlying3 g_4_1
  simp only [List.cons.injEq, and_true] at e_4_1
  subst e_4_1
  obtain ⟨x6, e_4_2, _, w6⟩ := DataW.trod_int Try.underlying3 g_4_2
  simp only [List.cons.injEq, and_true] at e_4_2
  subst e_4_2
  obtain ⟨x7, e_4_3, _, w7⟩ := DataW.trod_int Try.underlying3 g_4_3
  simp only [List.cons.injEq, and_true] at e_4_3
  subst e_4_3
  obtain ⟨x8, e_4_4, _, w8⟩ := DataW.trod_int Try.underlying3 g_4_4
  simp only [List.cons.injEq, and_true] at e_4_4
  subst e_4_4
  obtain ⟨x9, e_4_5, _, w9⟩ := DataW.trod_int Try.underlying3 g_4_5
  simp only [List.cons.injEq, and_true] at e_4_5
  subst e_4_5
  obtain ⟨x10, e_5, _, w10⟩ := DataW.trod_int Try.underlying3 g_5
  simp only [List.cons.injEq, and_true] at e_5
  subst e_5
  obtain ⟨x11, e_6, _, w11⟩ := DataW.trod_int Try.underlying3 g_6
  simp only [List.cons.injEq, and_true] at e_6
  subst e_6
  exact ⟨_, _, _, _, _, _, _, _, _, _, _, _, rfl, w0, w1, w2, w3, w4, w5, w6, w7, w8, w9, w10, w11⟩
set_option maxRecDepth 100000 in
theorem lifted (os : Os) (started : os.Started) (H : Type) (enc : TypeId × Value → H) :
    ReturnsInHanded {} Try.checked os 5 .any (Rows.inodeAsksSpec.pre6 enc Try.prog Try.f5 Rows.inodeAsksRow.domain false) (Rows.inodeAsksSpec.post enc Try.prog Try.f5 false true false false) := by
  refine returnsInHanded_of_change_sized (C := Try.checked) own started (by kernel_rfl) Try.func5
    (ChangeSpec.witness6 (enc := enc) (C := Try.checked) false ⟨#[], #[.agg #[.int .i64 0, .int .i64 0, .int .i64 0], .agg #[.int .i64 0, .int .i64 0, .int .i64 0, .int .i64 0, .int .i64 0, .int .i64 0, .int .i64 0, .int .i64 0, .int .i64 0, .int .i64 0, .int .i64 0, .int .i64 0]], []⟩ 8 (by kernel_rfl) (by kernel_rfl) (by kernel_rfl) (by kernel_rfl)) ?_
  intro W base args ds gs before hval0 hW hcnd hsz0 _
  have hsz : (DataW.weightsEach Try.prog (Try.f5.params.toList ++ Rows.inodeAsksSpec.plain.varTypes Try.prog) (ds ++ gs)).all (· ≤ reachBytes) = true := hsz0
  have hval : ∀ (j : Nat) t v, Try.f5.params[j]? = some t → args[j]? = some v → Value.okWide Try.prog W .any base t v := hval0
  have hW' := hW
  obtain ⟨p, q, hA0, hV, rfl, hfz, hnd⟩ := hW
  have hA : DataW.TrodAll enc Try.prog W 0 (fun _ => true) true Try.f5.params.toList args.toList ds p := hA0
  rw [Try.params5] at hA hval hsz
  obtain ⟨v0, vs0, d0, ds0, p0, q0, hargs, rfl, rfl, h0, r0⟩ := trodAll_cons hA
  obtain ⟨v1, vs1, d1, ds1, p1, q1, rfl, rfl, rfl, h1, r1⟩ := trodAll_cons r0
  obtain ⟨rfl, rfl, rfl⟩ := trodAll_nil r1
  obtain rfl : args = #[v0, v1] := by cases args; simp_all
  obtain ⟨rfl, rfl⟩ := trodVars_none hV
  have k0 := h0
  have lt0 : ∀ x ∈ p0, x.block < W.heap.size := by obtain ⟨m, hm⟩ := k0; exact DataW.trod_lt m _ _ _ hm
  obtain ⟨a0_0, a0_1, a0_2, rfl, w0_0, w0_1, w0_2⟩ := open0 (hval 0 41 v0 rfl rfl) h0
  have k1 := h1
  have lt1 : ∀ x ∈ p1, x.block < W.heap.size := by obtain ⟨m, hm⟩ := k1; exact DataW.trod_lt m _ _ _ hm
  obtain ⟨a1_0, a1_1, a1_2, a1_3, a1_4, a1_5, a1_6, a1_7, a1_8, a1_9, a1_10, a1_11, rfl, w1_0, w1_1, w1_2, w1_3, w1_4, w1_5, w1_6, w1_7, w1_8, w1_9, w1_10, w1_11⟩ := open1 (hval 1 24 v1 rfl rfl) h1
  clear hA0 hval0 hsz0 hsz
  obtain ⟨k, hk⟩ := Pure.InodeAsks a0_0 a0_1 a0_2 a1_0 a1_1 a1_2 a1_3 a1_4 a1_5 a1_6 a1_7 a1_8 a1_9 a1_10 a1_11 w0_0 w0_1 w0_2 w1_0 w1_1 w1_2 w1_3 w1_4 w1_5 w1_6 w1_7 w1_8 w1_9 w1_10 w1_11
  refine (P.leveelaw07_InodeAsks.calls k a0_0 a0_1 a0_2 a1_0 a1_1 a1_2 a1_3 a1_4 a1_5 a1_6 a1_7 a1_8 a1_9 a1_10 a1_11 true W hk).mono fun e W' ⟨he, bel⟩ => ?_
  subst he
  exact ⟨_, rfl, _, _, _, [], _, [], hW', trodAll_mk1 (shut_bool Try.underlying4 _), (trodAll_cons_mk (Below.trod laidOut (by kernel_rfl) (of_decide_eq_true (by kernel_rfl)) k0 bel lt0) (trodAll_cons_mk (Below.trod laidOut (by kernel_rfl) (of_decide_eq_true (by kernel_rfl)) k1 bel lt1) trodAll_mk0)), rfl, bel.frame _, fun h => by cases h⟩
theorem over : Rows.inodeAsksRow.holds Try.pinned (OpenSpec.ofChange Rows.inodeAsksSpec) :=
  OpenClaim.holds_of_wide 5 Try.f5 rfl rfl rfl rfl rfl rfl rfl ⟨rfl, rfl, rfl, rfl, rfl⟩ rfl rfl rfl rfl rfl (by kernel_rfl) Try.func5 (by kernel_rfl)
    (of_decide_eq_true (by kernel_rfl)) (by unfold Func.isWrapper; first | (rw [if_pos (by decide +kernel)]; kernel_rfl) | (rw [if_neg (by decide +kernel)]; exact ⟨rfl, rfl⟩))
    (fun os started H enc _ => lifted os started H enc)
theorem proved : Rows.InodeAsksSaid := over
end Go.Proofs.Ythcndfnmgggblaa.inodeAsks
namespace Go.Proofs.Ythcndfnmgggblaa
/-- The row, under a short name, for the claim. -/
theorem inodeAsks_holds : Rows.InodeAsksSaid := inodeAsks.proved
#print axioms inodeAsks_holds
end Go.Proofs.Ythcndfnmgggblaa
