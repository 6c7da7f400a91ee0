-- PRINTED by print.py (a twelfth state) out of the translation. Not trusted: Lean checks it.
import Derived.Test.YtmdbbnapljmboaaPx0
import Derived.Test.YtmdbbnapljmboaaPx1
import Derived.Test.YtmdbbnapljmboaaPx2
import Derived.Test.YtmdbbnapljmboaaPx3
import Derived.Test.YtmdbbnapljmboaaPx4
import Derived.Test.YtmdbbnapljmboaaPx5
namespace Go.Proofs.Ytmdbbnapljmboaa.P
open Go.RowKit Go.Proofs.YtmdbbnapljmboaaW.PrintWords Go.Proofs.YtmdbbnapljmboaaW.PrintLast Go.Proofs.YtmdbbnapljmboaaW.PrintMore
attribute [local go_sem] max2_int min2_int max_two min_two max_three min_three max_four min_four   -- for this text's walks alone
set_option linter.unusedVariables false
set_option linter.unusedSimpArgs false

end Go.Proofs.Ytmdbbnapljmboaa.P
