-- PRINTED by print.py (a twelfth state) out of the translation. Not trusted: Lean checks it.
import Derived.Test.YtiehcmmaonfndaaProg
import Derived.Below
import Derived.Deep.Draws
import Derived.Deep.AppendLies
import Derived.Maps.AppendAt
import Derived.OwnWalk
import Derived.Laws.BytesArg
import Derived.Laws.MakeOwn
import Derived.Laws.OwnMore
import Derived.Deep.OwnRows
import Derived.Tactics
import Derived.Lib.ConvBytes
import Derived.Laws.Slices
import Derived.WalkKit
import Derived.KernelRfl
import Derived.RowKit3
import Derived.Deep.LoopGhost
import Derived.Deep.QuietTactic
import Derived.BigQuiet
import Derived.WideLaws
import Derived.Deep.DeepCutAuto
import Derived.Deep.CutBlock
import Derived.Deep.RegionHeld3
import Derived.Laws.Rows
import Derived.Lib.AppendStr
import Derived.ArgAppend
import Derived.Laws.IdiomCopy
import Derived.OrdersHeld
import Derived.Laws.BitsLemmas
import Derived.RowKit
import Derived.Test.YtiehcmmaonfndaaWWords
import Derived.Test.YtiehcmmaonfndaaWLast
import Derived.Test.YtiehcmmaonfndaaWTab
import Derived.Test.YtiehcmmaonfndaaWFour
import Derived.Test.YtiehcmmaonfndaaWQPut
import Derived.Test.YtiehcmmaonfndaaWApart
import Derived.Test.YtiehcmmaonfndaaWArr
import Derived.Test.YtiehcmmaonfndaaWZeros
import Derived.Test.YtiehcmmaonfndaaWFoot
import Derived.Test.YtiehcmmaonfndaaWKept
import Derived.Test.YtiehcmmaonfndaaWShare
import Derived.Test.YtiehcmmaonfndaaWN
import Derived.Test.YtiehcmmaonfndaaWFootNe
import Derived.Test.YtiehcmmaonfndaaWAt
import Derived.Test.YtiehcmmaonfndaaWEqStruct
import Derived.Test.YtiehcmmaonfndaaWRepsOne
import Derived.Test.YtiehcmmaonfndaaWInv
import Derived.Test.YtiehcmmaonfndaaWInvWords
import Derived.Test.YtiehcmmaonfndaaWGuard
import Derived.Test.YtiehcmmaonfndaaWNEv
import Derived.Test.YtiehcmmaonfndaaWMore
namespace Go.Proofs.Ytiehcmmaonfndaa.P
open Go.RowKit Go.Proofs.YtiehcmmaonfndaaW.PrintWords Go.Proofs.YtiehcmmaonfndaaW.PrintLast Go.Proofs.YtiehcmmaonfndaaW.PrintMore
attribute [local go_sem] max2_int min2_int max_two min_two max_three min_three max_four min_four   -- for this text's walks alone
set_option linter.unusedVariables false
set_option linter.unusedSimpArgs false



def errW : Option Int → Value
  | none => .nilIface
  | some c => .iface 0 (.int .i64 c)
theorem errW_none : errW none = .nilIface := rfl
theorem errW_some (c : Int) : errW (some c) = .iface 0 (.int .i64 c) := rfl

theorem info3 : (Try.prog.info? 3).map (fun i => (i.zero, i.size, i.bytes)) = some (some (.int .i64 0), 1, 8) := by kernel_rfl
-- the values' own types

end Go.Proofs.Ytiehcmmaonfndaa.P
