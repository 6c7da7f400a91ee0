/-
The reference's UseBlock, UseSlot, walked by hand; its other functions' contracts on rows that are blocks of their own.
Conditions: none.
-/
import Derived.Test.YtonkgfgciegknaaGroupPlain
namespace Go.Proofs.Ytonkgfgciegknaa.P
open Go.RowKit Go.Proofs.YtonkgfgciegknaaW.PrintWords Go.Proofs.YtonkgfgciegknaaW.PrintLast Go.Proofs.YtonkgfgciegknaaW.PrintMore
attribute [local go_sem] max2_int min2_int max_two min_two max_three min_three max_four min_four
set_option linter.unusedVariables false
set_option linter.unusedSimpArgs false
theorem Row8.cell {w : World} {v : Value} {l : List Int} {g : Nat} {cs : Array Value} {t : TypeId} (h : Row8 w v l) (hg : w.heap[g]? = some (.cells cs t (0, 0))) (ht : t ≠ 5) (i : Nat) (u : Value) : Row8 (w.setCell ⟨g, i, none⟩ u) v l :=
  h.other hg ht (fun k hk => Below.heap_setCell w ⟨g, i, none⟩ u k hk)
def RecOut (w w' : World) (e : Ending) (r : Int × List Int × List Int × Int) : Prop :=
  ∃ (A1 : Option Addr) (c1 : Nat) (A2 : Option Addr) (c2 : Nat), e = .returned (.tuple #[.agg #[.int .i64 r.1, .slice A1 r.2.1.length c1, .slice A2 r.2.2.1.length c2], .int .i64 r.2.2.2]) ∧ Row8 w' (.slice A1 r.2.1.length c1) r.2.1 ∧ Row8 w' (.slice A2 r.2.2.1.length c2) r.2.2.1 ∧ Below w.heap.size w w'
theorem RecOut.none {w w' : World} (er : Int) (h : Below w.heap.size w w') : RecOut w w' (.returned (.tuple #[.agg #[.int .i64 0, .slice none 0 0, .slice none 0 0], .int .i64 er])) (0, [], [], er) :=
  ⟨Option.none, 0, Option.none, 0, rfl, Row8.nil _, Row8.nil _, h⟩
end Go.Proofs.Ytonkgfgciegknaa.P