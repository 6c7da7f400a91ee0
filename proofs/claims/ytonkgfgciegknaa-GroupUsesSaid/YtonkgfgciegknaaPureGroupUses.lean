/-
The plain law of GroupUses: the walk told true of all acts.
Conditions: none.
-/
import Derived.Test.YtonkgfgciegknaaHandGroupUses
namespace Go.Proofs.Ytonkgfgciegknaa.Pure
open Go.RowKit Go.Proofs.Ytonkgfgciegknaa.P
theorem GroupUses : ∀ (a0_0 a0_1 a0_2 a1 : Int) (l2 : List (Int × Int × Bool)) (a3 : Int), (Lit.int .i64 a0_0).wf = true → (Lit.int .i64 a0_1).wf = true → (Lit.int .i64 a0_2).wf = true → (Lit.int .i64 a1).wf = true →
    (∀ (i : Nat) (h : i < l2.length), (Lit.int .i64 l2[i].1).wf = true ∧ (Lit.int .i64 l2[i].2.1).wf = true) → (Lit.int .i64 a3).wf = true → leveelaw06_GroupUses.f a0_0 a0_1 a0_2 a1 l2 a3 = some true := by
  intro a b c d l2 e _ _ _ _ h2 _
  unfold leveelaw06_GroupUses.f
  rw [if_pos]
  refine List.all_eq_true.mpr fun x hx => ?_
  obtain ⟨i, hi, rfl⟩ := List.getElem_of_mem hx
  exact (h2 i hi).2
end Go.Proofs.Ytonkgfgciegknaa.Pure
