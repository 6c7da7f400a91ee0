/-
SuperBytes: for every input the law returns true, and each argument reads behind the call as it read before.
Conditions: none.
-/
import Derived.Test.YtjblkjknkemkdaaRows
import Derived.Test.YtjblkjknkemkdaaPx16
import Derived.Test.YtjblkjknkemkdaaPureSuperBytes
import Derived.WalkKit
import Derived.ProofKit
import Derived.OpenShut
import Derived.ShutString
import Derived.ChangeOld
import Derived.Below
import Derived.SizedLaws
import Derived.Test.YtjblkjknkemkdaaWSized
namespace Go.Proofs.Ytjblkjknkemkdaa.superBytes
open Go.ChangeShapes Go.WideShapes Go.ChangeAt Go.RowKit Go.Proofs.YtjblkjknkemkdaaW.PrintWords
open Go.ChangeMaps (open_string shut_string)
set_option linter.unusedVariables false
theorem own : ownKnob Try.prog.godebug = none := by kernel_rfl
theorem laidOut : laidOutB Try.prog = true := by kernel_rfl
def IsRow (k : IntKind) (w : World) (a : Option Addr) (len cap : Nat) (zs : List Int) : Prop :=
  (a = none ∧ len = 0 ∧ cap = 0 ∧ zs = []) ∨
  ∃ x, a = some x ∧ len ≤ cap ∧ cap ≤ maxLen ∧ zs.length = cap ∧ (∀ i, i < zs.length → w.cell? (x.add i) = some (.int k (zs.getD i 0))) ∧ ∀ n ∈ zs, (Lit.int k n).wf = true
theorem cells2 : Try.prog.cellsOf 2 = 1 := by kernel_rfl
theorem cells3 : Try.prog.cellsOf 3 = 1 := by kernel_rfl
theorem cells23 : Try.prog.cellsOf 23 = 3 := by kernel_rfl
theorem cells25 : Try.prog.cellsOf 25 = 4 := by kernel_rfl
theorem arr0 (cs : Array Value) (h : cs.size = 4) : ∃ c0 c1 c2 c3, cs = #[c0, c1, c2, c3] := by
  obtain ⟨l⟩ := cs
  match l, h with
  | [c0, c1, c2, c3], _ => exact ⟨c0, c1, c2, c3, rfl⟩
set_option maxRecDepth 100000 in
theorem open0 {H : Type} {enc : TypeId × Value → H} {W : World} {r : Reach} {b0 base : Nat} {spare : Nat → Bool} {held : Bool} {v : Value} {d : DataW H} {p : List MemPlace} (hv : Value.okWide Try.prog W r b0 25 v) (h : DataW.Trod enc Try.prog W base spare held 25 v d p) :
    ∃ (x0 : Int) (x1 : Int) (x2 : Int) (x3 : Int), v = .agg #[.int .i64 x0, .int .i64 x1, .int .i64 x2, .int .i64 x3] ∧ (Lit.int .i64 x0).wf = true ∧ (Lit.int .i64 x1).wf = true ∧ (Lit.int .i64 x2).wf = true ∧ (Lit.int .i64 x3).wf = true := by
  obtain ⟨cs, rfl, hsz⟩ := okWide_struct Try.underlying25 hv
  obtain ⟨c0, c1, c2, c3, rfl⟩ := arr0 cs (hsz.trans cells25)
  obtain ⟨fuel, hf⟩ := h
  simp only [Value.cells] at hf
  obtain ⟨ys, m, _, _, _, l, f⟩ := DataW.trod_struct Try.underlying25 hf
  have g_0 : DataW.trod enc Try.prog W base spare held m 2 (List.take (Try.prog.cellsOf 2) (List.drop 0 [c0, c1, c2, c3])) = ys[0]? := f 0 _ rfl
  rw [cells2, List.getElem?_eq_getElem (by rw [l]; decide)] at g_0
  replace g_0 : DataW.trod enc Try.prog W base spare held m 2 [c0] = some _ := g_0
  have g_1 : DataW.trod enc Try.prog W base spare held m 23 (List.take (Try.prog.cellsOf 23) (List.drop 1 [c0, c1, c2, c3])) = ys[1]? := f 1 _ rfl
  rw [cells23, List.getElem?_eq_getElem (by rw [l]; decide)] at g_1
  replace g_1 : DataW.trod enc Try.prog W base spare held m 23 [c1, c2, c3] = some _ := g_1
  obtain ⟨x0, e_0, _, w0⟩ := DataW.trod_int Try.underlying2 g_0
  simp only [List.cons.injEq, and_true] at e_0
  subst e_0
  obtain ⟨ys_1, m_1, _, _, _, l_1, f_1⟩ := DataW.trod_struct Try.underlying23 g_1
  have g_1_0 : DataW.trod enc Try.prog W base spare held m_1 3 (List.take (Try.prog.cellsOf 3) (List.drop 0 [c1, c2, c3])) = ys_1[0]? := f_1 0 _ rfl
  rw [cells3, List.getElem?_eq_getElem (by rw [l_1]; decide)] at g_1_0
  replace g_1_0 : DataW.trod enc Try.prog W base spare held m_1 3 [c1] = some _ := g_1_0
  have g_1_1 : DataW.trod enc Try.prog W base spare held m_1 3 (List.take (Try.prog.cellsOf 3) (List.drop 1 [c1, c2, c3])) = ys_1[1]? := f_1 1 _ rfl
  rw [cells3, List.getElem?_eq_getElem (by rw [l_1]; decide)] at g_1_1
  replace g_1_1 : DataW.trod enc Try.prog W base spare held m_1 3 [c2] = some _ := g_1_1
  have g_1_2 : DataW.trod enc Try.prog W base spare held m_1 3 (List.take (Try.prog.cellsOf 3) (List.drop 2 [c1, c2, c3])) = ys_1[2]? := f_1 2 _ rfl
  rw [cells3, List.getElem?_eq_getElem (by rw [l_1]; decide)] at g_1_2
  replace g_1_2 : DataW.trod enc Try.prog W base spare held m_1 3 [c3] = some _ := g_1_2
  obtain ⟨x1, e_1_0, _, w1⟩ := DataW.trod_int Try.underlying3 g_1_0
  simp only [List.cons.injEq, and_true] at e_1_0
  subst e_1_0
  obtain ⟨x2, e_1_1, _, w2⟩ := DataW.trod_int Try.underlying3 g_1_1
  simp only [List.cons.injEq, and_true] at e_1_1
  subst e_1_1
  obtain ⟨x3, e_1_2, _, w3⟩ := DataW.trod_int Try.underlying3 g_1_2
  simp only [List.cons.injEq, and_true] at e_1_2
  subst e_1_2
  exact ⟨_, _, _, _, rfl, w0, w1, w2, w3⟩
set_option maxRecDepth 100000 in
theorem lifted (os : Os) (started : os.Started) (H : Type) (enc : TypeId × Value → H) :
    ReturnsInHanded {} Try.checked os 3 .any (Rows.superBytesSpec.pre6 enc Try.prog Try.f3 Rows.superBytesRow.domain false) (Rows.superBytesSpec.post enc Try.prog Try.f3 false true false false) := by
  refine returnsInHanded_of_change_sized (C := Try.checked) own started (by kernel_rfl) Try.func3
    (ChangeSpec.witness6 (enc := enc) (C := Try.checked) false ⟨#[], #[.agg #[.int .i64 0, .int .i64 0, .int .i64 0, .int .i64 0], .slice none 0 0], []⟩ 8 (by kernel_rfl) (by kernel_rfl) (by kernel_rfl) (by kernel_rfl)) ?_
  intro W base args ds gs before hval0 hW hcnd hsz0 _
  have hsz : (DataW.weightsEach Try.prog (Try.f3.params.toList ++ Rows.superBytesSpec.plain.varTypes Try.prog) (ds ++ gs)).all (· ≤ reachBytes) = true := hsz0
  have hval : ∀ (j : Nat) t v, Try.f3.params[j]? = some t → args[j]? = some v → Value.okWide Try.prog W .any base t v := hval0
  have hW' := hW
  obtain ⟨p, q, hA0, hV, rfl, hfz, hnd⟩ := hW
  have hA : DataW.TrodAll enc Try.prog W 0 (fun _ => true) true Try.f3.params.toList args.toList ds p := hA0
  rw [Try.params3] at hA hval hsz
  obtain ⟨v0, vs0, d0, ds0, p0, q0, hargs, rfl, rfl, h0, r0⟩ := trodAll_cons hA
  obtain ⟨v1, vs1, d1, ds1, p1, q1, rfl, rfl, rfl, h1, r1⟩ := trodAll_cons r0
  obtain ⟨rfl, rfl, rfl⟩ := trodAll_nil r1
  obtain rfl : args = #[v0, v1] := by cases args; simp_all
  obtain ⟨rfl, rfl⟩ := trodVars_none hV
  have k0 := h0
  have lt0 : ∀ x ∈ p0, x.block < W.heap.size := by obtain ⟨m, hm⟩ := k0; exact DataW.trod_lt m _ _ _ hm
  obtain ⟨a0_0, a0_1, a0_2, a0_3, rfl, w0_0, w0_1, w0_2, w0_3⟩ := open0 (hval 0 25 v0 rfl rfl) h0
  obtain ⟨a1, len1, cap1, rfl⟩ := okWide_slice Try.underlying26 (hval 1 26 v1 rfl rfl)
  have k1 := h1
  have lt1 : ∀ x ∈ p1, x.block < W.heap.size := by obtain ⟨m, hm⟩ := k1; exact DataW.trod_lt m _ _ _ hm
  obtain ⟨z1, w1⟩ : ∃ zs, IsRow .u8 W a1 len1 cap1 zs := by
    obtain ⟨fuel, hf⟩ := h1
    rcases open_ints Try.underlying26 Try.underlying5 (by kernel_rfl) hf with ⟨hcs, _⟩ | ⟨x, l, c, zs, hcs, _, hl, hm, hz, _, hcell, hwz⟩
    · simp [Value.cells] at hcs
      obtain ⟨rfl, rfl, rfl⟩ := hcs
      exact ⟨[], .inl ⟨rfl, rfl, rfl, rfl⟩⟩
    · simp [Value.cells] at hcs
      obtain ⟨rfl, rfl, rfl⟩ := hcs
      exact ⟨zs, .inr ⟨_, rfl, hl, hm, by simpa using hz, hcell, hwz⟩⟩
  have y1 : len1 * 1 ≤ 140737488351232 := sized_ints hsz (j := 1) (t := 26) rfl rfl Try.underlying26 Try.underlying5 (by kernel_rfl) (by kernel_rfl) h1
  obtain ⟨l1, rfl, hr1, hm1, hw1, hc1⟩ := ReadsInt.ofRowC w1
  clear hA0 hval0 hsz0 hsz
  obtain ⟨k, hk⟩ := Pure.SuperBytes a0_0 a0_1 a0_2 a0_3 l1 w0_0 w0_1 w0_2 w0_3 hm1 y1 hw1
  refine (P.leveelaw04_SuperBytes.calls k a0_0 a0_1 a0_2 a0_3 _ _ l1 true W (Kd.C_of_reads (d := (0 : Int)) (h1 := fun _ => rfl) hr1) hc1 hk).mono fun e W' ⟨he, bel⟩ => ?_
  subst he
  exact ⟨_, rfl, _, _, _, [], _, [], hW', trodAll_mk1 (shut_bool Try.underlying4 _), (trodAll_cons_mk (Below.trod laidOut (by kernel_rfl) (of_decide_eq_true (by kernel_rfl)) k0 bel lt0) (trodAll_cons_mk (Below.trod laidOut (by kernel_rfl) (of_decide_eq_true (by kernel_rfl)) k1 bel lt1) trodAll_mk0)), rfl, bel.frame _, fun h => by cases h⟩
theorem over : Rows.superBytesRow.holds Try.pinned (OpenSpec.ofChange Rows.superBytesSpec) :=
  OpenClaim.holds_of_wide 3 Try.f3 rfl rfl rfl rfl rfl rfl rfl ⟨rfl, rfl, rfl, rfl, rfl⟩ rfl rfl rfl rfl rfl (by kernel_rfl) Try.func3 (by kernel_rfl)
    (of_decide_eq_true (by kernel_rfl)) (by unfold Func.isWrapper; first | (rw [if_pos (by decide +kernel)]; kernel_rfl) | (rw [if_neg (by decide +kernel)]; exact ⟨rfl, rfl⟩))
    (fun os started H enc _ => lifted os started H enc)
theorem proved : Rows.SuperBytesSaid := over
end Go.Proofs.Ytjblkjknkemkdaa.superBytes
namespace Go.Proofs.Ytjblkjknkemkdaa
/-- The row, under a short name, for the claim. -/
theorem superBytes_holds : Rows.SuperBytesSaid := superBytes.proved
#print axioms superBytes_holds
end Go.Proofs.Ytjblkjknkemkdaa
