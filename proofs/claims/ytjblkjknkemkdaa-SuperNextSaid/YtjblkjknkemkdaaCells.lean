/-
A block's cells, all at once.
Conditions: none.
-/
import Derived.Test.YtjblkjknkemkdaaProg
import Derived.Below
import Derived.Deep.Draws
import Derived.Deep.AppendLies
import Derived.Maps.AppendAt
import Derived.OwnWalk
import Derived.Laws.BytesArg
import Derived.Laws.MakeOwn
import Derived.Laws.OwnMore
import Derived.Deep.OwnRows
import Derived.Tactics
import Derived.Lib.ConvBytes
import Derived.Laws.Slices
import Derived.WalkKit
import Derived.KernelRfl
import Derived.RowKit3
import Derived.Deep.LoopGhost
import Derived.Deep.QuietTactic
import Derived.BigQuiet
import Derived.WideLaws
import Derived.Deep.DeepCutAuto
import Derived.Deep.CutBlock
import Derived.Deep.RegionHeld3
import Derived.Laws.Rows
import Derived.Lib.AppendStr
import Derived.ArgAppend
import Derived.Laws.IdiomCopy
import Derived.OrdersHeld
import Derived.Laws.BitsLemmas
import Derived.RowKit
import Derived.Test.YtjblkjknkemkdaaWWords
import Derived.Test.YtjblkjknkemkdaaWLast
import Derived.Test.YtjblkjknkemkdaaWTab
import Derived.Test.YtjblkjknkemkdaaWFour
import Derived.Test.YtjblkjknkemkdaaWQPut
import Derived.Test.YtjblkjknkemkdaaWApart
import Derived.Test.YtjblkjknkemkdaaWArr
import Derived.Test.YtjblkjknkemkdaaWZeros
import Derived.Test.YtjblkjknkemkdaaWFoot
import Derived.Test.YtjblkjknkemkdaaWKept
import Derived.Test.YtjblkjknkemkdaaWShare
import Derived.Test.YtjblkjknkemkdaaWN
import Derived.Test.YtjblkjknkemkdaaWFootNe
import Derived.Test.YtjblkjknkemkdaaWAt
import Derived.Test.YtjblkjknkemkdaaWEqStruct
import Derived.Test.YtjblkjknkemkdaaWRepsOne
import Derived.Test.YtjblkjknkemkdaaWInv
import Derived.Test.YtjblkjknkemkdaaWInvWords
import Derived.Test.YtjblkjknkemkdaaWGuard
import Derived.Test.YtjblkjknkemkdaaWNEv
import Derived.Test.YtjblkjknkemkdaaWMore
import Derived.Test.YtjblkjknkemkdaaSettle
namespace Go.Proofs.Ytjblkjknkemkdaa.P
open Go.RowKit Go.Proofs.YtjblkjknkemkdaaW.PrintWords Go.Proofs.YtjblkjknkemkdaaW.PrintLast Go.Proofs.YtjblkjknkemkdaaW.PrintMore
structure Cells3 (w : World) (g : Nat) (a0 a1 a2 : Value) : Prop where
  c0 : w.cell? ⟨g, 0, none⟩ = some a0
  c1 : w.cell? ⟨g, 1, none⟩ = some a1
  c2 : w.cell? ⟨g, 2, none⟩ = some a2
  f0 : w.frozen? ⟨g, 0, none⟩ = false
  f1 : w.frozen? ⟨g, 1, none⟩ = false
  f2 : w.frozen? ⟨g, 2, none⟩ = false
theorem cells3 {w : World} {g : Nat} {t : TypeId} {a0 a1 a2 : Value} (h : w.heap[g]? = some (.cells #[a0, a1, a2] t (0, 0))) : Cells3 w g a0 a1 a2 :=
  ⟨(blk_cell h 0).trans rfl, (blk_cell h 1).trans rfl, (blk_cell h 2).trans rfl, blk_frozen h 0, blk_frozen h 1, blk_frozen h 2⟩
structure Cells4 (w : World) (g : Nat) (a0 a1 a2 a3 : Value) : Prop where
  c0 : w.cell? ⟨g, 0, none⟩ = some a0
  c1 : w.cell? ⟨g, 1, none⟩ = some a1
  c2 : w.cell? ⟨g, 2, none⟩ = some a2
  c3 : w.cell? ⟨g, 3, none⟩ = some a3
  f0 : w.frozen? ⟨g, 0, none⟩ = false
  f1 : w.frozen? ⟨g, 1, none⟩ = false
  f2 : w.frozen? ⟨g, 2, none⟩ = false
  f3 : w.frozen? ⟨g, 3, none⟩ = false
theorem cells4 {w : World} {g : Nat} {t : TypeId} {a0 a1 a2 a3 : Value} (h : w.heap[g]? = some (.cells #[a0, a1, a2, a3] t (0, 0))) : Cells4 w g a0 a1 a2 a3 :=
  ⟨(blk_cell h 0).trans rfl, (blk_cell h 1).trans rfl, (blk_cell h 2).trans rfl, (blk_cell h 3).trans rfl, blk_frozen h 0, blk_frozen h 1, blk_frozen h 2, blk_frozen h 3⟩
end Go.Proofs.Ytjblkjknkemkdaa.P
