-- PRINTED by print.py (a twelfth state) out of the translation. Not trusted: Lean checks it.
import Derived.Test.YtiehcmmaonfndaaPx0
import Derived.Test.YtiehcmmaonfndaaPx1
import Derived.Test.YtiehcmmaonfndaaPx2
import Derived.Test.YtiehcmmaonfndaaPx3
import Derived.Test.YtiehcmmaonfndaaPx4
import Derived.Test.YtiehcmmaonfndaaPx5
import Derived.Test.YtiehcmmaonfndaaPx6
import Derived.Test.YtiehcmmaonfndaaPx7
import Derived.Test.YtiehcmmaonfndaaPx8
namespace Go.Proofs.Ytiehcmmaonfndaa.P
open Go.RowKit Go.Proofs.YtiehcmmaonfndaaW.PrintWords Go.Proofs.YtiehcmmaonfndaaW.PrintLast Go.Proofs.YtiehcmmaonfndaaW.PrintMore
attribute [local go_sem] max2_int min2_int max_two min_two max_three min_three max_four min_four   -- for this text's walks alone
set_option linter.unusedVariables false
set_option linter.unusedSimpArgs false

end Go.Proofs.Ytiehcmmaonfndaa.P
