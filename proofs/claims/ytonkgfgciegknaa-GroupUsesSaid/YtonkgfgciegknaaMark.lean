/-
A row of a constant text's bytes: marked behind its last cell by the conversion; what is appended to it goes into a new row.
Conditions: none.
-/
import Derived.Test.YtonkgfgciegknaaProg
import Derived.Below
import Derived.Deep.Draws
import Derived.Deep.AppendLies
import Derived.Maps.AppendAt
import Derived.OwnWalk
import Derived.Laws.BytesArg
import Derived.Laws.MakeOwn
import Derived.Laws.OwnMore
import Derived.Deep.OwnRows
import Derived.Tactics
import Derived.Lib.ConvBytes
import Derived.Laws.Slices
import Derived.WalkKit
import Derived.KernelRfl
import Derived.RowKit3
import Derived.Deep.LoopGhost
import Derived.Deep.QuietTactic
import Derived.BigQuiet
import Derived.WideLaws
import Derived.Deep.DeepCutAuto
import Derived.Deep.CutBlock
import Derived.Deep.RegionHeld3
import Derived.Laws.Rows
import Derived.Lib.AppendStr
import Derived.ArgAppend
import Derived.Laws.IdiomCopy
import Derived.OrdersHeld
import Derived.Laws.BitsLemmas
import Derived.RowKit
import Derived.Test.YtonkgfgciegknaaWWords
import Derived.Lib.SlBytesConst
namespace Go.Proofs.Ytonkgfgciegknaa.P
open Go.RowKit Go.Proofs.YtonkgfgciegknaaW.PrintWords Go.Proofs.YtonkgfgciegknaaW.PrintLast Go.Proofs.YtonkgfgciegknaaW.PrintMore
attribute [local go_sem] max2_int min2_int max_two min_two max_three min_three max_four min_four
set_option linter.unusedVariables false
set_option linter.unusedSimpArgs false
/-- The marked row. -/
def TM.R (_d : Kd Int) (e : Nat) (w : World) (base : Nat) (ok : Nat → Prop) (v : Value) (xs : List Int) : Prop :=
  (∀ k, v.ownBlock = some k → ok k) ∧ ∃ g, v = .slice (some ⟨g, 0, none⟩) xs.length xs.length ∧ base ≤ g ∧ w.heap[g]? = some (.cells (nums .u8 xs).toArray e (xs.length, xs.length + 1))
namespace TM
variable {d : Kd Int} {e base : Nat} {ok ok' : Nat → Prop} {w w1 W : World} {u v : Value} {xs : List Int}
theorem R_below (h : TM.R d e w base ok v xs) (hb : Below w.heap.size w w1) : TM.R d e w1 base ok v xs := by
  obtain ⟨h0, g, h1, h2, h3⟩ := h
  exact ⟨h0, g, h1, h2, blk_below h3 hb⟩
theorem R_drew (h : TM.R d e w base ok v xs) : TM.R d e w.drew base ok v xs := R_below h (below_drew (Below.refl _ _))
theorem R_mono (h : TM.R d e w base ok v xs) (hok : ∀ k, ok k → ok' k) : TM.R d e w base ok' v xs := ⟨fun k hk => hok k (h.1 k hk), h.2⟩
theorem R_lower {base' : Nat} (h : TM.R d e w base ok v xs) (hb : base' ≤ base) : TM.R d e w base' ok v xs := by
  obtain ⟨h0, g, h1, h2, h3⟩ := h
  exact ⟨h0, g, h1, Nat.le_trans hb h2, h3⟩
variable {P : Program} {ops : Array Oper} {rest : List Oper} {o o1 o2 : Oper} {a : Act} {Q : Exit → Act → World → Prop}
end TM
end Go.Proofs.Ytonkgfgciegknaa.P
