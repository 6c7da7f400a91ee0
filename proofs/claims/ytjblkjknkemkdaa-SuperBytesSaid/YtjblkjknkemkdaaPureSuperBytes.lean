/-
The plain law of SuperBytes: what the printed function tells is true, whatever the superblock and the bytes.
Conditions: none.
-/
import Derived.Test.YtjblkjknkemkdaaSuperRef
import Derived.Test.YtjblkjknkemkdaaPx16
namespace Go.Proofs.Ytjblkjknkemkdaa.Pure
open Go.RowKit Go.Proofs.YtjblkjknkemkdaaW.PrintWords Go.Proofs.YtjblkjknkemkdaaW.PrintLast Go.Proofs.YtjblkjknkemkdaaW.PrintMore Go.Proofs.Ytjblkjknkemkdaa.P Go.Proofs.Ytjblkjknkemkdaa.Num Go.Proofs.Ytjblkjknkemkdaa.Plain Go.Proofs.Ytjblkjknkemkdaa.Super
theorem SuperBytes : ∀ (a0_0 : Int) (a0_1 : Int) (a0_2 : Int) (a0_3 : Int) (l1 : List Int), (Lit.int .i64 a0_0).wf = true → (Lit.int .i64 a0_1).wf = true → (Lit.int .i64 a0_2).wf = true → (Lit.int .i64 a0_3).wf = true → l1.length ≤ maxLen → l1.length * 1 ≤ 140737488351232 → (∀ x ∈ l1, (Lit.int .u8 x).wf = true) → ∃ k, leveelaw04_SuperBytes.f k a0_0 a0_1 a0_2 a0_3 l1 = some true := by
  intro a b c d l _ _ _ _ _ hl hw
  have hb := isBytes_of_wf hw
  refine ⟨4000, ?_⟩
  unfold leveelaw04_SuperBytes.f leveelaw04_given.f leveelaw04_taken.f leveeref01_Lent.f leveeref01_Kept.f
  rw [Option.bind_some]
  dsimp only
  rw [sPut_eq _ (by decide), Option.bind_some, rPut_eq _ (by decide), Option.bind_some, if_pos (by omega), Option.bind_some, sGet_eq _ (by decide) l hb, Option.bind_some, rGet_eq _ (by decide) l hb, Option.bind_some, if_pos rfl, if_pos rfl, Option.bind_some, if_neg (by simp), if_pos rfl, if_pos ⟨by omega, rfl⟩, Option.bind_some, if_pos rfl]
  by_cases h : RS a b c d = true
  · rw [if_pos h, if_pos rfl, sGet_eq _ (by decide) _ (full_bytes a b c d), get_full h, Option.bind_some, Option.bind_some, if_pos (by simp), if_pos rfl, known_eq _ (by decide)]
    rfl
  · rw [if_neg h, if_neg (by decide), known_eq _ (by decide)]
    rfl
end Go.Proofs.Ytjblkjknkemkdaa.Pure
