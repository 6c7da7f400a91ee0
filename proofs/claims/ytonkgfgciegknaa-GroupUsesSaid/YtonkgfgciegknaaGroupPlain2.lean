/-
Package group's plain laws, second part: what the reference's Get tells; what is put is got as it was.
Conditions: none.
-/
import Derived.Test.YtonkgfgciegknaaGroupPlain
import Derived.Test.YtonkgfgciegknaaPx13
namespace Go.Proofs.Ytonkgfgciegknaa.P
open Go.RowKit Go.Proofs.YtonkgfgciegknaaW.PrintWords Go.Proofs.YtonkgfgciegknaaW.PrintLast Go.Proofs.YtonkgfgciegknaaW.PrintMore
attribute [local go_sem] max2_int min2_int max_two min_two max_three min_three max_four min_four
set_option linter.unusedVariables false
set_option linter.unusedSimpArgs false
open Bits (isBytes)
end Go.Proofs.Ytonkgfgciegknaa.P
