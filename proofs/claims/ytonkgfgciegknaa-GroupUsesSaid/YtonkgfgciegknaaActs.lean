/-
A law's argument that is a row of acts (a struct of two numbers and a bool), opened: what its cells hold.
Conditions: none.
-/
import Derived.Test.YtonkgfgciegknaaProg
import Derived.Below
import Derived.Deep.Draws
import Derived.Deep.AppendLies
import Derived.Maps.AppendAt
import Derived.OwnWalk
import Derived.Laws.BytesArg
import Derived.Laws.MakeOwn
import Derived.Laws.OwnMore
import Derived.Deep.OwnRows
import Derived.Tactics
import Derived.Lib.ConvBytes
import Derived.Laws.Slices
import Derived.WalkKit
import Derived.KernelRfl
import Derived.RowKit3
import Derived.Deep.LoopGhost
import Derived.Deep.QuietTactic
import Derived.BigQuiet
import Derived.WideLaws
import Derived.Deep.DeepCutAuto
import Derived.Deep.CutBlock
import Derived.Deep.RegionHeld3
import Derived.Laws.Rows
import Derived.Lib.AppendStr
import Derived.ArgAppend
import Derived.Laws.IdiomCopy
import Derived.OrdersHeld
import Derived.Laws.BitsLemmas
import Derived.RowKit
import Derived.Test.YtonkgfgciegknaaWWords
import Derived.OpenShut
import Derived.ChangeOld
import Derived.ChangeArms
import Derived.DataReads
namespace Go.Proofs.Ytonkgfgciegknaa.P
open Go.RowKit Go.Proofs.YtonkgfgciegknaaW.PrintWords Go.Proofs.YtonkgfgciegknaaW.PrintLast Go.Proofs.YtonkgfgciegknaaW.PrintMore
attribute [local go_sem] max2_int min2_int max_two min_two max_three min_three max_four min_four
set_option linter.unusedVariables false
set_option linter.unusedSimpArgs false
open Go.ChangeShapes Go.WideShapes
/-- The cells of a row of acts. -/
def ActsAt (w : World) (A : Option Addr) (l : List (Int × Int × Bool)) : Prop :=
  ∀ (i : Nat) (h : i < l.length), ∃ a : Addr, A = some a ∧ w.cell? ((a.add (i * 3)).add 0) = some (.int .i64 l[i].1) ∧ w.cell? ((a.add (i * 3)).add 1) = some (.int .i64 l[i].2.1) ∧ w.cell? ((a.add (i * 3)).add 2) = some (.bool l[i].2.2)
theorem list_of {α : Type} {P : Nat → α → Prop} : ∀ n, (∀ i, i < n → ∃ q, P i q) → ∃ l : List α, l.length = n ∧ ∀ (i : Nat) (h : i < l.length), P i l[i]
  | 0, _ => ⟨[], rfl, fun i h => absurd h (Nat.not_lt_zero i)⟩
  | n + 1, h => by
    obtain ⟨l, hl, hp⟩ := list_of n (fun i hi => h i (by omega))
    obtain ⟨q, hq⟩ := h n (by omega)
    refine ⟨l ++ [q], by simp [hl], fun i hi => ?_⟩
    by_cases hin : i < l.length
    · rw [List.getElem_append_left hin]; exact hp i hin
    · have e : i = n := by rw [List.length_append] at hi; simp at hi; omega
      subst e
      subst hl
      rw [List.getElem_append_right (Nat.le_refl _)]
      simpa using hq
theorem cellsAct : Try.prog.cellsOf 52 = 3 := by kernel_rfl
theorem cellsInt : Try.prog.cellsOf 3 = 1 := by kernel_rfl
theorem cellsBool : Try.prog.cellsOf 4 = 1 := by kernel_rfl
set_option maxRecDepth 100000 in
theorem open_act {H : Type} {enc : TypeId × Value → H} {W : World} {base : Nat} {spare : Nat → Bool} {held : Bool} {n : Nat} {c0 c1 c2 : Value} {y : DataW H × List MemPlace} (hf : DataW.trod enc Try.prog W base spare held n 52 [c0, c1, c2] = some y) :
    ∃ (k m : Int) (b : Bool), c0 = .int .i64 k ∧ c1 = .int .i64 m ∧ c2 = .bool b ∧ (Lit.int .i64 k).wf = true ∧ (Lit.int .i64 m).wf = true := by
  obtain ⟨ys, m, _, _, _, l, f⟩ := DataW.trod_struct Try.underlying52 hf
  have g_0 : DataW.trod enc Try.prog W base spare held m 3 (List.take (Try.prog.cellsOf 3) (List.drop 0 [c0, c1, c2])) = ys[0]? := f 0 _ rfl
  rw [cellsInt, List.getElem?_eq_getElem (by rw [l]; decide)] at g_0
  replace g_0 : DataW.trod enc Try.prog W base spare held m 3 [c0] = some _ := g_0
  have g_1 : DataW.trod enc Try.prog W base spare held m 3 (List.take (Try.prog.cellsOf 3) (List.drop 1 [c0, c1, c2])) = ys[1]? := f 1 _ rfl
  rw [cellsInt, List.getElem?_eq_getElem (by rw [l]; decide)] at g_1
  replace g_1 : DataW.trod enc Try.prog W base spare held m 3 [c1] = some _ := g_1
  have g_2 : DataW.trod enc Try.prog W base spare held m 4 (List.take (Try.prog.cellsOf 4) (List.drop 2 [c0, c1, c2])) = ys[2]? := f 2 _ rfl
  rw [cellsBool, List.getElem?_eq_getElem (by rw [l]; decide)] at g_2
  replace g_2 : DataW.trod enc Try.prog W base spare held m 4 [c2] = some _ := g_2
  obtain ⟨x0, e_0, _, w0⟩ := DataW.trod_int Try.underlying3 g_0
  simp only [List.cons.injEq, and_true] at e_0
  obtain ⟨x1, e_1, _, w1⟩ := DataW.trod_int Try.underlying3 g_1
  simp only [List.cons.injEq, and_true] at e_1
  obtain ⟨x2, e_2, _⟩ := DataW.trod_bool Try.underlying4 g_2
  simp only [List.cons.injEq, and_true] at e_2
  exact ⟨x0, x1, x2, e_0, e_1, e_2, w0, w1⟩
theorem open_acts {H : Type} {enc : TypeId × Value → H} {W : World} {base : Nat} {spare : Nat → Bool} {held : Bool} {fuel : Nat} {cs : List Value} {x : DataW H × List MemPlace} (h : DataW.trod enc Try.prog W base spare held fuel 50 cs = some x) :
    ∃ (A : Option Addr) (cap : Nat) (l : List (Int × Int × Bool)), cs = [.slice A l.length cap] ∧ l.length ≤ cap ∧ cap ≤ maxLen ∧ ActsAt W A l ∧ ∀ (i : Nat) (h : i < l.length), (Lit.int .i64 l[i].1).wf = true ∧ (Lit.int .i64 l[i].2.1).wf = true := by
  rcases DataW.trod_slice Try.underlying50 h with ⟨rfl, _⟩ | ⟨a, len, cap, elems, rest, n, _, rfl, _, hb, hl, hm, hlen, hel, _, _⟩
  · exact ⟨none, 0, [], rfl, Nat.le_refl _, Nat.zero_le _, fun i h => absurd h (Nat.not_lt_zero i), fun i h => absurd h (Nat.not_lt_zero i)⟩
  · obtain ⟨l, hll, hp⟩ := list_of (α := Int × Int × Bool) (P := fun i q => (W.cell? ((a.add (i * 3)).add 0) = some (.int .i64 q.1) ∧ W.cell? ((a.add (i * 3)).add 1) = some (.int .i64 q.2.1) ∧ W.cell? ((a.add (i * 3)).add 2) = some (.bool q.2.2)) ∧ (Lit.int .i64 q.1).wf = true ∧ (Lit.int .i64 q.2.1).wf = true) len (fun i hi => by
      have e := hel i hi
      rw [cellsAct, List.getElem?_eq_getElem (by rw [hlen]; exact hi), Option.bind_eq_some_iff] at e
      obtain ⟨cs', h1, h2⟩ := e
      obtain ⟨_, h4, h5⟩ := World.cells?_some h1
      match cs', h4 with
      | [c0, c1, c2], _ =>
        obtain ⟨k, m, b, rfl, rfl, rfl, w0, w1⟩ := open_act h2
        exact ⟨(k, m, b), ⟨h5 0 (by decide), h5 1 (by decide), h5 2 (by decide)⟩, w0, w1⟩)
    subst hll
    exact ⟨some a, cap, l, rfl, hl, hm, fun i h => ⟨a, rfl, (hp i h).1⟩, fun i h => (hp i h).2⟩
end Go.Proofs.Ytonkgfgciegknaa.P
