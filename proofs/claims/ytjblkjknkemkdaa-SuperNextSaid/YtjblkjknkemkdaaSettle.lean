/-
A name for the world ahead of a read of a variable that many stores have filled.
Conditions: none.
-/
import Derived.Test.YtjblkjknkemkdaaProg
import Derived.Below
import Derived.Deep.Draws
import Derived.Deep.AppendLies
import Derived.Maps.AppendAt
import Derived.OwnWalk
import Derived.Laws.BytesArg
import Derived.Laws.MakeOwn
import Derived.Laws.OwnMore
import Derived.Deep.OwnRows
import Derived.Tactics
import Derived.Lib.ConvBytes
import Derived.Laws.Slices
import Derived.WalkKit
import Derived.KernelRfl
import Derived.RowKit3
import Derived.Deep.LoopGhost
import Derived.Deep.QuietTactic
import Derived.BigQuiet
import Derived.WideLaws
import Derived.Deep.DeepCutAuto
import Derived.Deep.CutBlock
import Derived.Deep.RegionHeld3
import Derived.Laws.Rows
import Derived.Lib.AppendStr
import Derived.ArgAppend
import Derived.Laws.IdiomCopy
import Derived.OrdersHeld
import Derived.Laws.BitsLemmas
import Derived.RowKit
import Derived.Test.YtjblkjknkemkdaaWWords
import Derived.Test.YtjblkjknkemkdaaWLast
import Derived.Test.YtjblkjknkemkdaaWTab
import Derived.Test.YtjblkjknkemkdaaWFour
import Derived.Test.YtjblkjknkemkdaaWQPut
import Derived.Test.YtjblkjknkemkdaaWApart
import Derived.Test.YtjblkjknkemkdaaWArr
import Derived.Test.YtjblkjknkemkdaaWZeros
import Derived.Test.YtjblkjknkemkdaaWFoot
import Derived.Test.YtjblkjknkemkdaaWKept
import Derived.Test.YtjblkjknkemkdaaWShare
import Derived.Test.YtjblkjknkemkdaaWN
import Derived.Test.YtjblkjknkemkdaaWFootNe
import Derived.Test.YtjblkjknkemkdaaWAt
import Derived.Test.YtjblkjknkemkdaaWEqStruct
import Derived.Test.YtjblkjknkemkdaaWRepsOne
import Derived.Test.YtjblkjknkemkdaaWInv
import Derived.Test.YtjblkjknkemkdaaWInvWords
import Derived.Test.YtjblkjknkemkdaaWGuard
import Derived.Test.YtjblkjknkemkdaaWNEv
import Derived.Test.YtjblkjknkemkdaaWMore
import Derived.Test.YtjblkjknkemkdaaHand
namespace Go.Proofs.Ytjblkjknkemkdaa.P
open Go.RowKit Go.Proofs.YtjblkjknkemkdaaW.PrintWords Go.Proofs.YtjblkjknkemkdaaW.PrintLast Go.Proofs.YtjblkjknkemkdaaW.PrintMore
attribute [local go_sem] max2_int min2_int max_two min_two max_three min_three max_four min_four
set_option linter.unusedVariables false
set_option linter.unusedSimpArgs false
/-- What stands in a pure function at such a place: nothing. -/
def settle.f : Option Bool := some false
theorem settle_at {P : Program} {ops : Array Oper} {rest : List Oper} {a : Act} {Q : Exit → Act → World → Prop} {W : World} {p : Addr} {v : Value} (N : Nat) {t ty : TypeId} {x : Operand} {pos : String} {after : Array Edge} {gd : Option (Nat × Bool)}
    (h : ∀ W', W' = W.setCell p v → wpList P ops Q ({ dst := some N, op := .load t x, type := ty, pos := pos, after := after, guard := gd } :: rest) a W') :
    wpList P ops Q ({ dst := some N, op := .load t x, type := ty, pos := pos, after := after, guard := gd } :: rest) a (W.setCell p v) := h _ rfl
theorem settle_below {W W' : World} (h : W' = W) : Below W.heap.size W W' := by
  rw [h]
  exact Below.refl _ _
/-! Lent bytes beside a variable that is filled. -/
namespace TQ
variable {d : Kd Int} {e base : Nat} {w : World} {ok : Nat → Prop} {v : Value} {xs : List Int}
theorem Q_far (h : TQ.Q d e w base ok v xs) {p : Addr} (hok : ∀ k, ok k → k ≠ p.block) (u : Value) : TQ.Q d e (w.setCell p u) base ok v xs := ⟨Kd.R_far h.1 hok u, Kd.R_far h.2 hok u⟩
theorem Q_types (h : TQ.Q d e w base ok v xs) {g t : Nat} {cells : Array Value} (hb : w.heap[g]? = some (.cells cells t (0, 0))) (ht : ∀ q, q ∈ e :: (Kd.int .u8).E → q ≠ t) : TQ.Q d e w base (fun k => ok k ∧ k ≠ g) v xs := ⟨Kd.R_types h.1 hb ht, Kd.R_types h.2 hb ht⟩
end TQ
end Go.Proofs.Ytjblkjknkemkdaa.P
