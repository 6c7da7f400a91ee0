/-
group.UseBlock, UseSlot, walked by hand.
Conditions: none.
-/
import Derived.Test.YtonkgfgciegknaaHandGroup5
namespace Go.Proofs.Ytonkgfgciegknaa.P
open Go.RowKit Go.Proofs.YtonkgfgciegknaaW.PrintWords Go.Proofs.YtonkgfgciegknaaW.PrintLast Go.Proofs.YtonkgfgciegknaaW.PrintMore
attribute [local go_sem] max2_int min2_int max_two min_two max_three min_three max_four min_four
set_option linter.unusedVariables false
set_option linter.unusedSimpArgs false
theorem run_loadH {op : Oper} {ev : Operand → Value} {w : World} {g : Nat} {no : Int} {bl sl : List Int} (x : Operand) (ho : op.op = .load 28 x) (hx : ev x = .pointer (some ⟨g, 0, none⟩)) (hg : HeadAt w g no bl sl) (hm : Maps bl sl) : (execOp ev op).run Try.prog w = .ok (.value (headV no bl sl)) w := by
  unfold execOp
  simp only [ho, hx, Sem.run_bind, load_head hg hm, Result.andThen_ok, Sem.run_pure]
theorem grown_blk {w w1 : World} {g k : Nat} {o : Obj} (h : w.heap[k]? = some o) (hg : w.grownBy w1 (some g)) (hn : k ≠ g) : w1.heap[k]? = some o := (hg.block k (blk_lt h) (by intro e; injection e with e; exact hn e)).trans h
theorem HeadAt.grown {w w1 : World} {g k : Nat} {no : Int} {bl sl : List Int} (h : HeadAt w k no bl sl) (hg : w.grownBy w1 (some g)) (hn : k ≠ g) : HeadAt w1 k no bl sl := grown_blk h hg hn
theorem grown_below {w0 w w1 : World} {g : Nat} (h : Below w0.heap.size w0 w) (hg : w.grownBy w1 (some g)) (hb : w0.heap.size ≤ g) : Below w0.heap.size w0 w1 := pw_below_grown h (some g) h.size hg (fun k e => by injection e with e; omega)
end Go.Proofs.Ytonkgfgciegknaa.P