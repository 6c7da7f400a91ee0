/-
The plain law of SuperChooses: what the printed function tells is true, whatever the bytes, the number of blocks, the superblock and the shape.
Conditions: none.
-/
import Derived.Test.YtjblkjknkemkdaaSuperRef2
import Derived.Test.YtjblkjknkemkdaaPx17
namespace Go.Proofs.Ytjblkjknkemkdaa.Pure
open Go.RowKit Go.Proofs.YtjblkjknkemkdaaW.PrintWords Go.Proofs.YtjblkjknkemkdaaW.PrintLast Go.Proofs.YtjblkjknkemkdaaW.PrintMore Go.Proofs.Ytjblkjknkemkdaa.P Go.Proofs.Ytjblkjknkemkdaa.Num Go.Proofs.Ytjblkjknkemkdaa.Plain Go.Proofs.Ytjblkjknkemkdaa.Super
theorem SuperChooses : ∀ (l0 : List Int) (l1 : List Int) (a2 : Int) (a3_0 : Int) (a3_1 : Int) (a3_2 : Int) (a3_3 : Int) (a4_0 : Int) (a4_1 : Int) (a4_2 : Int), l0.length ≤ maxLen → l0.length * 1 ≤ 140737488351232 → (∀ x ∈ l0, (Lit.int .u8 x).wf = true) → l1.length ≤ maxLen → l1.length * 1 ≤ 140737488351232 → (∀ x ∈ l1, (Lit.int .u8 x).wf = true) → (Lit.int .i64 a2).wf = true → (Lit.int .i64 a3_0).wf = true → (Lit.int .i64 a3_1).wf = true → (Lit.int .i64 a3_2).wf = true → (Lit.int .i64 a3_3).wf = true → (Lit.int .i64 a4_0).wf = true → (Lit.int .i64 a4_1).wf = true → (Lit.int .i64 a4_2).wf = true → ∃ k, leveelaw04_SuperChooses.f k l0 l1 a2 a3_0 a3_1 a3_2 a3_3 a4_0 a4_1 a4_2 = some true := by
  intro l m a2 a b c d e f g _ _ hw _ _ hw2 _ _ _ _ _ _ _ _
  have hb := isBytes_of_wf hw
  have hb2 := isBytes_of_wf hw2
  refine ⟨4000, ?_⟩
  unfold leveelaw04_SuperChooses.f leveelaw04_given.f leveelaw04_taken.f
  rw [sChoose_eq _ (by decide) l m hb hb2, Option.bind_some, rChoose_eq _ (by decide) l m hb hb2, Option.bind_some, Option.bind_some]
  dsimp only
  rw [sNext_eq _ (by decide), Option.bind_some, rNext_eq, Option.bind_some, Option.bind_some, if_pos (by simp), if_pos rfl, if_pos rfl, Option.bind_some, if_pos (by simp), if_pos rfl, if_pos rfl, known_eq _ (by decide)]
  rfl
end Go.Proofs.Ytjblkjknkemkdaa.Pure
