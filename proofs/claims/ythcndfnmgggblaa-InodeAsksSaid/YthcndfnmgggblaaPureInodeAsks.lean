/-
The plain law of InodeAsks: what the printed function tells is true, whatever the shape and the inode.
Conditions: none.
-/
import Derived.Test.YthcndfnmgggblaaInodeAsk
import Derived.Test.YthcndfnmgggblaaPx31
namespace Go.Proofs.Ythcndfnmgggblaa.Pure
set_option linter.unusedSimpArgs false
set_option linter.unusedVariables false
open Go.RowKit Go.Proofs.YthcndfnmgggblaaW.PrintWords Go.Proofs.YthcndfnmgggblaaW.PrintLast Go.Proofs.YthcndfnmgggblaaW.PrintMore Go.Proofs.Ythcndfnmgggblaa.P
open Go.Proofs.Ythcndfnmgggblaa.Ask
theorem InodeAsks : ∀ (a0_0 : Int) (a0_1 : Int) (a0_2 : Int) (a1_0 : Int) (a1_1 : Int) (a1_2 : Int) (a1_3 : Int) (a1_4 : Int) (a1_5 : Int) (a1_6 : Int) (a1_7 : Int) (a1_8 : Int) (a1_9 : Int) (a1_10 : Int) (a1_11 : Int), (Lit.int .i64 a0_0).wf = true → (Lit.int .i64 a0_1).wf = true → (Lit.int .i64 a0_2).wf = true → (Lit.int .i64 a1_0).wf = true → (Lit.int .i64 a1_1).wf = true → (Lit.int .i64 a1_2).wf = true → (Lit.int .i64 a1_3).wf = true → (Lit.int .i64 a1_4).wf = true → (Lit.int .i64 a1_5).wf = true → (Lit.int .i64 a1_6).wf = true → (Lit.int .i64 a1_7).wf = true → (Lit.int .i64 a1_8).wf = true → (Lit.int .i64 a1_9).wf = true → (Lit.int .i64 a1_10).wf = true → (Lit.int .i64 a1_11).wf = true → ∃ k, leveelaw07_InodeAsks.f k a0_0 a0_1 a0_2 a1_0 a1_1 a1_2 a1_3 a1_4 a1_5 a1_6 a1_7 a1_8 a1_9 a1_10 a1_11 = some true := by
  intro G I N a0 a1 a2 a3 a4 a5 a6 a7 a8 a9 a10 a11 _ _ _ _ _ hw _ _ _ _ _ _ _ _ _
  have hr : -9223372036854775808 ≤ a2 ∧ a2 ≤ 9223372036854775807 := by
    simp [Lit.wf, IntKind.min, IntKind.max, IntKind.signed, IntKind.bits] at hw
    omega
  obtain ⟨r, hb1, hb2⟩ := Blocks_eq a0 a1 a2 a3 a4 a5 a6 a7 a8 a9 a10 a11 hr.1 hr.2
  obtain ⟨v, hv1, hv2⟩ := Within_eq G I N a0 a1 a2 a3 a4 a5 a6 a7 a8 a9 a10 a11
  have hl := namesI_length a4 a5 a6 a7 a8 a9 a10 a11
  refine ⟨200, ?_⟩
  unfold leveelaw07_InodeAsks.f
  rw [hb1, hb2, Option.bind_some, Option.bind_some, if_pos rfl, show inode_Names.f 200 a0 a1 a2 a3 a4 a5 a6 a7 a8 a9 a10 a11 = _ from iNames_eq 191 a0 a1 a2 a3 a4 a5 a6 a7 a8 a9 a10 a11, show leveeref07_Names.f 200 a0 a1 a2 a3 a4 a5 a6 a7 a8 a9 a10 a11 = _ from rNames_eq 191 a0 a1 a2 a3 a4 a5 a6 a7 a8 a9 a10 a11, Option.bind_some, Option.bind_some, Ints_eq 200 _ (by omega) (by omega), Option.bind_some, if_pos rfl, hv1, hv2, Option.bind_some, Option.bind_some, if_pos (by simp), at_rounds leveelaw07_known.mono (show 100 ≤ 200 by omega) Inode.known_eq, Option.bind_some]
end Go.Proofs.Ythcndfnmgggblaa.Pure
