/-
leveelaw06.same, walked by hand.
Conditions: none.
-/
import Derived.Test.YtonkgfgciegknaaHandGroupT
namespace Go.Proofs.Ytonkgfgciegknaa.P
open Go.RowKit Go.Proofs.YtonkgfgciegknaaW.PrintWords Go.Proofs.YtonkgfgciegknaaW.PrintLast Go.Proofs.YtonkgfgciegknaaW.PrintMore
attribute [local go_sem] max2_int min2_int max_two min_two max_three min_three max_four min_four
set_option linter.unusedVariables false
set_option linter.unusedSimpArgs false
theorem norm_q {P : Program} {ops : Array Oper} {md : Region.Mode} {σ : Type} {S : σ → World → Prop} {Q : Exit → Act → World → Prop} {ds : List Nat} {n : Nat} {l : Array Bool} {a a' : Act} {x : σ} (h : a = a') (k : qAny P md ops Q S ds n l a' x) : qAny P md ops Q S ds n l a x := h ▸ k
end Go.Proofs.Ytonkgfgciegknaa.P