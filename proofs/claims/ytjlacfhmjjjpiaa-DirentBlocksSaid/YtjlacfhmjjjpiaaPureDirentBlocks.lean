/-
The plain law of DirentBlocks: what the printed function tells is true, whatever the block, the place and the name.
Conditions: none.
-/
import Derived.Test.YtjlacfhmjjjpiaaDirent2
import Derived.Test.YtjlacfhmjjjpiaaPx13
namespace Go.Proofs.Ytjlacfhmjjjpiaa.Pure
open Go.RowKit Go.Proofs.YtjlacfhmjjjpiaaW.PrintWords Go.Proofs.YtjlacfhmjjjpiaaW.PrintLast Go.Proofs.YtjlacfhmjjjpiaaW.PrintMore Go.Proofs.Ytjlacfhmjjjpiaa.P Go.Proofs.Ytjlacfhmjjjpiaa.Num Go.Proofs.Ytjlacfhmjjjpiaa.Plain Go.Proofs.Ytjlacfhmjjjpiaa.Dirent
theorem DirentBlocks : ∀ (l0 : List Int) (a1 : Int) (a2 : ByteArray), l0.length ≤ maxLen → l0.length * 1 ≤ 140737488351232 → (∀ x ∈ l0, (Lit.int .u8 x).wf = true) → (Lit.int .i64 a1).wf = true → a2.size ≤ 140737488351232 → ∃ k, leveelaw08_DirentBlocks.f k l0 a1 a2 = some true := by
  intro l p m _ hl hw _ hm
  have hb := isBytes_of_wf hw
  have hK : l.length ≤ 140737488355328 ∧ l = l := ⟨by omega, rfl⟩
  have hE := entsE_length l 8 0
  have h1 : (listE l).1.length ≤ 8 := by
    unfold listE
    split
    · rw [List.length_map]; exact hE
    · decide
  have h2 : (listE l).2.1.length ≤ 8 := by
    unfold listE
    split
    · rw [List.length_map]; exact hE
    · decide
  refine ⟨1000, ?_⟩
  unfold leveelaw08_DirentBlocks.f leveeref01_Lent.f leveeref01_Kept.f
  rw [if_pos hK.1, Option.bind_some, dRead_eq _ (by omega) l hb, Option.bind_some, rRead_eq _ (by omega) l hb, Option.bind_some, dList_eq _ (by omega) l hb, Option.bind_some, rList_eq _ (by omega) l hb, Option.bind_some, if_pos (by simp), if_pos rfl, Same_eq _ _ (by omega) (by omega), Option.bind_some, if_pos rfl, Ints_eq _ _ (by omega) (by omega), Option.bind_some, if_pos rfl, if_pos rfl, dFind_eq _ (by omega) l hb, Option.bind_some, rFind_eq _ (by omega) l hb, Option.bind_some, if_pos rfl, dRoom_eq _ (by omega) l hb, Option.bind_some, rRoom_eq _ (by omega) l, Option.bind_some, if_pos rfl, if_pos hK, Option.bind_some, if_pos rfl, known_eq _ (by omega), Option.bind_some]
end Go.Proofs.Ytjlacfhmjjjpiaa.Pure
