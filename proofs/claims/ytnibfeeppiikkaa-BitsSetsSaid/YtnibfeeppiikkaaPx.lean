-- PRINTED by print.py (a twelfth state) out of the translation. Not trusted: Lean checks it.
import Derived.Test.YtnibfeeppiikkaaPx0
import Derived.Test.YtnibfeeppiikkaaPx1
import Derived.Test.YtnibfeeppiikkaaPx2
import Derived.Test.YtnibfeeppiikkaaPx3
import Derived.Test.YtnibfeeppiikkaaPx4
import Derived.Test.YtnibfeeppiikkaaPx5
namespace Go.Proofs.Ytnibfeeppiikkaa.P
open Go.RowKit Go.Proofs.YtnibfeeppiikkaaW.PrintWords Go.Proofs.YtnibfeeppiikkaaW.PrintLast Go.Proofs.YtnibfeeppiikkaaW.PrintMore
attribute [local go_sem] max2_int min2_int max_two min_two max_three min_three max_four min_four   -- for this text's walks alone
set_option linter.unusedVariables false
set_option linter.unusedSimpArgs false

end Go.Proofs.Ytnibfeeppiikkaa.P
