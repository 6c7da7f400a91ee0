/-
A block's cells, all at once.
Conditions: none.
-/
import Derived.Test.YthcndfnmgggblaaProg
import Derived.Below
import Derived.Deep.Draws
import Derived.Deep.AppendLies
import Derived.Maps.AppendAt
import Derived.OwnWalk
import Derived.Laws.BytesArg
import Derived.Laws.MakeOwn
import Derived.Laws.OwnMore
import Derived.Deep.OwnRows
import Derived.Tactics
import Derived.Lib.ConvBytes
import Derived.Laws.Slices
import Derived.WalkKit
import Derived.KernelRfl
import Derived.RowKit3
import Derived.Deep.LoopGhost
import Derived.Deep.QuietTactic
import Derived.BigQuiet
import Derived.WideLaws
import Derived.Deep.DeepCutAuto
import Derived.Deep.CutBlock
import Derived.Deep.RegionHeld3
import Derived.Laws.Rows
import Derived.Lib.AppendStr
import Derived.ArgAppend
import Derived.Laws.IdiomCopy
import Derived.OrdersHeld
import Derived.Laws.BitsLemmas
import Derived.RowKit
import Derived.Test.YthcndfnmgggblaaWWords
import Derived.Test.YthcndfnmgggblaaWLast
import Derived.Test.YthcndfnmgggblaaWTab
import Derived.Test.YthcndfnmgggblaaWFour
import Derived.Test.YthcndfnmgggblaaWQPut
import Derived.Test.YthcndfnmgggblaaWApart
import Derived.Test.YthcndfnmgggblaaWArr
import Derived.Test.YthcndfnmgggblaaWZeros
import Derived.Test.YthcndfnmgggblaaWFoot
import Derived.Test.YthcndfnmgggblaaWKept
import Derived.Test.YthcndfnmgggblaaWShare
import Derived.Test.YthcndfnmgggblaaWN
import Derived.Test.YthcndfnmgggblaaWFootNe
import Derived.Test.YthcndfnmgggblaaWAt
import Derived.Test.YthcndfnmgggblaaWEqStruct
import Derived.Test.YthcndfnmgggblaaWRepsOne
import Derived.Test.YthcndfnmgggblaaWInv
import Derived.Test.YthcndfnmgggblaaWInvWords
import Derived.Test.YthcndfnmgggblaaWGuard
import Derived.Test.YthcndfnmgggblaaWNEv
import Derived.Test.YthcndfnmgggblaaWMore
import Derived.Test.YthcndfnmgggblaaSettle
namespace Go.Proofs.Ythcndfnmgggblaa.P
open Go.RowKit Go.Proofs.YthcndfnmgggblaaW.PrintWords Go.Proofs.YthcndfnmgggblaaW.PrintLast Go.Proofs.YthcndfnmgggblaaW.PrintMore
structure Cells3 (w : World) (g : Nat) (a0 a1 a2 : Value) : Prop where
  c0 : w.cell? ⟨g, 0, none⟩ = some a0
  c1 : w.cell? ⟨g, 1, none⟩ = some a1
  c2 : w.cell? ⟨g, 2, none⟩ = some a2
  f0 : w.frozen? ⟨g, 0, none⟩ = false
  f1 : w.frozen? ⟨g, 1, none⟩ = false
  f2 : w.frozen? ⟨g, 2, none⟩ = false
theorem cells3 {w : World} {g : Nat} {t : TypeId} {a0 a1 a2 : Value} (h : w.heap[g]? = some (.cells #[a0, a1, a2] t (0, 0))) : Cells3 w g a0 a1 a2 :=
  ⟨(blk_cell h 0).trans rfl, (blk_cell h 1).trans rfl, (blk_cell h 2).trans rfl, blk_frozen h 0, blk_frozen h 1, blk_frozen h 2⟩
structure Cells8 (w : World) (g : Nat) (a0 a1 a2 a3 a4 a5 a6 a7 : Value) : Prop where
  c0 : w.cell? ⟨g, 0, none⟩ = some a0
  c1 : w.cell? ⟨g, 1, none⟩ = some a1
  c2 : w.cell? ⟨g, 2, none⟩ = some a2
  c3 : w.cell? ⟨g, 3, none⟩ = some a3
  c4 : w.cell? ⟨g, 4, none⟩ = some a4
  c5 : w.cell? ⟨g, 5, none⟩ = some a5
  c6 : w.cell? ⟨g, 6, none⟩ = some a6
  c7 : w.cell? ⟨g, 7, none⟩ = some a7
  f0 : w.frozen? ⟨g, 0, none⟩ = false
  f1 : w.frozen? ⟨g, 1, none⟩ = false
  f2 : w.frozen? ⟨g, 2, none⟩ = false
  f3 : w.frozen? ⟨g, 3, none⟩ = false
  f4 : w.frozen? ⟨g, 4, none⟩ = false
  f5 : w.frozen? ⟨g, 5, none⟩ = false
  f6 : w.frozen? ⟨g, 6, none⟩ = false
  f7 : w.frozen? ⟨g, 7, none⟩ = false
theorem cells8 {w : World} {g : Nat} {t : TypeId} {a0 a1 a2 a3 a4 a5 a6 a7 : Value} (h : w.heap[g]? = some (.cells #[a0, a1, a2, a3, a4, a5, a6, a7] t (0, 0))) : Cells8 w g a0 a1 a2 a3 a4 a5 a6 a7 :=
  ⟨(blk_cell h 0).trans rfl, (blk_cell h 1).trans rfl, (blk_cell h 2).trans rfl, (blk_cell h 3).trans rfl, (blk_cell h 4).trans rfl, (blk_cell h 5).trans rfl, (blk_cell h 6).trans rfl, (blk_cell h 7).trans rfl, blk_frozen h 0, blk_frozen h 1, blk_frozen h 2, blk_frozen h 3, blk_frozen h 4, blk_frozen h 5, blk_frozen h 6, blk_frozen h 7⟩
structure Cells12 (w : World) (g : Nat) (a0 a1 a2 a3 a4 a5 a6 a7 a8 a9 a10 a11 : Value) : Prop where
  c0 : w.cell? ⟨g, 0, none⟩ = some a0
  c1 : w.cell? ⟨g, 1, none⟩ = some a1
  c2 : w.cell? ⟨g, 2, none⟩ = some a2
  c3 : w.cell? ⟨g, 3, none⟩ = some a3
  c4 : w.cell? ⟨g, 4, none⟩ = some a4
  c5 : w.cell? ⟨g, 5, none⟩ = some a5
  c6 : w.cell? ⟨g, 6, none⟩ = some a6
  c7 : w.cell? ⟨g, 7, none⟩ = some a7
  c8 : w.cell? ⟨g, 8, none⟩ = some a8
  c9 : w.cell? ⟨g, 9, none⟩ = some a9
  c10 : w.cell? ⟨g, 10, none⟩ = some a10
  c11 : w.cell? ⟨g, 11, none⟩ = some a11
  f0 : w.frozen? ⟨g, 0, none⟩ = false
  f1 : w.frozen? ⟨g, 1, none⟩ = false
  f2 : w.frozen? ⟨g, 2, none⟩ = false
  f3 : w.frozen? ⟨g, 3, none⟩ = false
  f4 : w.frozen? ⟨g, 4, none⟩ = false
  f5 : w.frozen? ⟨g, 5, none⟩ = false
  f6 : w.frozen? ⟨g, 6, none⟩ = false
  f7 : w.frozen? ⟨g, 7, none⟩ = false
  f8 : w.frozen? ⟨g, 8, none⟩ = false
  f9 : w.frozen? ⟨g, 9, none⟩ = false
  f10 : w.frozen? ⟨g, 10, none⟩ = false
  f11 : w.frozen? ⟨g, 11, none⟩ = false
theorem cells12 {w : World} {g : Nat} {t : TypeId} {a0 a1 a2 a3 a4 a5 a6 a7 a8 a9 a10 a11 : Value} (h : w.heap[g]? = some (.cells #[a0, a1, a2, a3, a4, a5, a6, a7, a8, a9, a10, a11] t (0, 0))) : Cells12 w g a0 a1 a2 a3 a4 a5 a6 a7 a8 a9 a10 a11 :=
  ⟨(blk_cell h 0).trans rfl, (blk_cell h 1).trans rfl, (blk_cell h 2).trans rfl, (blk_cell h 3).trans rfl, (blk_cell h 4).trans rfl, (blk_cell h 5).trans rfl, (blk_cell h 6).trans rfl, (blk_cell h 7).trans rfl, (blk_cell h 8).trans rfl, (blk_cell h 9).trans rfl, (blk_cell h 10).trans rfl, (blk_cell h 11).trans rfl, blk_frozen h 0, blk_frozen h 1, blk_frozen h 2, blk_frozen h 3, blk_frozen h 4, blk_frozen h 5, blk_frozen h 6, blk_frozen h 7, blk_frozen h 8, blk_frozen h 9, blk_frozen h 10, blk_frozen h 11⟩
theorem blk_put12 {w : World} {g : Nat} {t : TypeId} {a0 a1 a2 a3 a4 a5 a6 a7 a8 a9 a10 a11 : Value} (b0 b1 b2 b3 b4 b5 b6 b7 b8 b9 b10 b11 : Value) (h : w.heap[g]? = some (.cells #[b0, b1, b2, b3, b4, b5, b6, b7, b8, b9, b10, b11] t (0, 0))) : ((((((((((((w.setCell ⟨g, 0, none⟩ a0).setCell ⟨g, 1, none⟩ a1).setCell ⟨g, 2, none⟩ a2).setCell ⟨g, 3, none⟩ a3).setCell ⟨g, 4, none⟩ a4).setCell ⟨g, 5, none⟩ a5).setCell ⟨g, 6, none⟩ a6).setCell ⟨g, 7, none⟩ a7).setCell ⟨g, 8, none⟩ a8).setCell ⟨g, 9, none⟩ a9).setCell ⟨g, 10, none⟩ a10).setCell ⟨g, 11, none⟩ a11).heap[g]? = some (.cells #[a0, a1, a2, a3, a4, a5, a6, a7, a8, a9, a10, a11] t (0, 0)) := by
  refine blk_put (cs := #[a0, a1, a2, a3, a4, a5, a6, a7, a8, a9, a10, b11]) ?_ 11 _ rfl
  refine blk_put (cs := #[a0, a1, a2, a3, a4, a5, a6, a7, a8, a9, b10, b11]) ?_ 10 _ rfl
  refine blk_put (cs := #[a0, a1, a2, a3, a4, a5, a6, a7, a8, b9, b10, b11]) ?_ 9 _ rfl
  refine blk_put (cs := #[a0, a1, a2, a3, a4, a5, a6, a7, b8, b9, b10, b11]) ?_ 8 _ rfl
  refine blk_put (cs := #[a0, a1, a2, a3, a4, a5, a6, b7, b8, b9, b10, b11]) ?_ 7 _ rfl
  refine blk_put (cs := #[a0, a1, a2, a3, a4, a5, b6, b7, b8, b9, b10, b11]) ?_ 6 _ rfl
  refine blk_put (cs := #[a0, a1, a2, a3, a4, b5, b6, b7, b8, b9, b10, b11]) ?_ 5 _ rfl
  refine blk_put (cs := #[a0, a1, a2, a3, b4, b5, b6, b7, b8, b9, b10, b11]) ?_ 4 _ rfl
  refine blk_put (cs := #[a0, a1, a2, b3, b4, b5, b6, b7, b8, b9, b10, b11]) ?_ 3 _ rfl
  refine blk_put (cs := #[a0, a1, b2, b3, b4, b5, b6, b7, b8, b9, b10, b11]) ?_ 2 _ rfl
  refine blk_put (cs := #[a0, b1, b2, b3, b4, b5, b6, b7, b8, b9, b10, b11]) ?_ 1 _ rfl
  refine blk_put (cs := #[b0, b1, b2, b3, b4, b5, b6, b7, b8, b9, b10, b11]) ?_ 0 _ rfl
  exact h
theorem blk_far12 {w : World} {g g' : Nat} {t : TypeId} {cs : Array Value} {i0 i1 i2 i3 i4 i5 i6 i7 i8 i9 i10 i11 : Nat} {a0 a1 a2 a3 a4 a5 a6 a7 a8 a9 a10 a11 : Value} (h : w.heap[g]? = some (.cells cs t (0, 0))) (hne : g ≠ g') : ((((((((((((w.setCell ⟨g', i0, none⟩ a0).setCell ⟨g', i1, none⟩ a1).setCell ⟨g', i2, none⟩ a2).setCell ⟨g', i3, none⟩ a3).setCell ⟨g', i4, none⟩ a4).setCell ⟨g', i5, none⟩ a5).setCell ⟨g', i6, none⟩ a6).setCell ⟨g', i7, none⟩ a7).setCell ⟨g', i8, none⟩ a8).setCell ⟨g', i9, none⟩ a9).setCell ⟨g', i10, none⟩ a10).setCell ⟨g', i11, none⟩ a11).heap[g]? = some (.cells cs t (0, 0)) := (blk_far (p := ⟨g', i11, none⟩) (blk_far (p := ⟨g', i10, none⟩) (blk_far (p := ⟨g', i9, none⟩) (blk_far (p := ⟨g', i8, none⟩) (blk_far (p := ⟨g', i7, none⟩) (blk_far (p := ⟨g', i6, none⟩) (blk_far (p := ⟨g', i5, none⟩) (blk_far (p := ⟨g', i4, none⟩) (blk_far (p := ⟨g', i3, none⟩) (blk_far (p := ⟨g', i2, none⟩) (blk_far (p := ⟨g', i1, none⟩) (blk_far (p := ⟨g', i0, none⟩) h hne a0) hne a1) hne a2) hne a3) hne a4) hne a5) hne a6) hne a7) hne a8) hne a9) hne a10) hne a11)
theorem _root_.Go.Proofs.YthcndfnmgggblaaW.PrintWords.Kd.R_far12 {α : Type} {d : Kd α} {e base : Nat} {w : World} {ok : Nat → Prop} {v : Value} {xs : List α} {g : Nat} {a0 a1 a2 a3 a4 a5 a6 a7 a8 a9 a10 a11 : Value} (h : Kd.R d e w base ok v xs) (hok : ∀ k, ok k → k ≠ g) : Kd.R d e ((((((((((((w.setCell ⟨g, 0, none⟩ a0).setCell ⟨g, 1, none⟩ a1).setCell ⟨g, 2, none⟩ a2).setCell ⟨g, 3, none⟩ a3).setCell ⟨g, 4, none⟩ a4).setCell ⟨g, 5, none⟩ a5).setCell ⟨g, 6, none⟩ a6).setCell ⟨g, 7, none⟩ a7).setCell ⟨g, 8, none⟩ a8).setCell ⟨g, 9, none⟩ a9).setCell ⟨g, 10, none⟩ a10).setCell ⟨g, 11, none⟩ a11) base ok v xs := (Kd.R_far (p := ⟨g, 11, none⟩) (Kd.R_far (p := ⟨g, 10, none⟩) (Kd.R_far (p := ⟨g, 9, none⟩) (Kd.R_far (p := ⟨g, 8, none⟩) (Kd.R_far (p := ⟨g, 7, none⟩) (Kd.R_far (p := ⟨g, 6, none⟩) (Kd.R_far (p := ⟨g, 5, none⟩) (Kd.R_far (p := ⟨g, 4, none⟩) (Kd.R_far (p := ⟨g, 3, none⟩) (Kd.R_far (p := ⟨g, 2, none⟩) (Kd.R_far (p := ⟨g, 1, none⟩) (Kd.R_far (p := ⟨g, 0, none⟩) h hok a0) hok a1) hok a2) hok a3) hok a4) hok a5) hok a6) hok a7) hok a8) hok a9) hok a10) hok a11)
theorem TQ.Q_far12 {d : Kd Int} {e base : Nat} {w : World} {ok : Nat → Prop} {v : Value} {xs : List Int} {g : Nat} {a0 a1 a2 a3 a4 a5 a6 a7 a8 a9 a10 a11 : Value} (h : TQ.Q d e w base ok v xs) (hok : ∀ k, ok k → k ≠ g) : TQ.Q d e ((((((((((((w.setCell ⟨g, 0, none⟩ a0).setCell ⟨g, 1, none⟩ a1).setCell ⟨g, 2, none⟩ a2).setCell ⟨g, 3, none⟩ a3).setCell ⟨g, 4, none⟩ a4).setCell ⟨g, 5, none⟩ a5).setCell ⟨g, 6, none⟩ a6).setCell ⟨g, 7, none⟩ a7).setCell ⟨g, 8, none⟩ a8).setCell ⟨g, 9, none⟩ a9).setCell ⟨g, 10, none⟩ a10).setCell ⟨g, 11, none⟩ a11) base ok v xs := (TQ.Q_far (p := ⟨g, 11, none⟩) (TQ.Q_far (p := ⟨g, 10, none⟩) (TQ.Q_far (p := ⟨g, 9, none⟩) (TQ.Q_far (p := ⟨g, 8, none⟩) (TQ.Q_far (p := ⟨g, 7, none⟩) (TQ.Q_far (p := ⟨g, 6, none⟩) (TQ.Q_far (p := ⟨g, 5, none⟩) (TQ.Q_far (p := ⟨g, 4, none⟩) (TQ.Q_far (p := ⟨g, 3, none⟩) (TQ.Q_far (p := ⟨g, 2, none⟩) (TQ.Q_far (p := ⟨g, 1, none⟩) (TQ.Q_far (p := ⟨g, 0, none⟩) h hok a0) hok a1) hok a2) hok a3) hok a4) hok a5) hok a6) hok a7) hok a8) hok a9) hok a10) hok a11)
end Go.Proofs.Ythcndfnmgggblaa.P
