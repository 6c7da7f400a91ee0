/-
The plain law of InodeTables: what the printed function tells is true, whatever the block, the place and the inode.
Conditions: none.
-/
import Derived.Test.YthcndfnmgggblaaInodeTab
import Derived.Test.YthcndfnmgggblaaPx30
namespace Go.Proofs.Ythcndfnmgggblaa.Pure
set_option linter.unusedSimpArgs false
set_option linter.unusedVariables false
open Go.RowKit Go.Proofs.YthcndfnmgggblaaW.PrintWords Go.Proofs.YthcndfnmgggblaaW.PrintLast Go.Proofs.YthcndfnmgggblaaW.PrintMore Go.Proofs.Ythcndfnmgggblaa.P Go.Proofs.Ythcndfnmgggblaa.Num
open Go.Proofs.Ythcndfnmgggblaa.Inode
theorem InodeTables : ∀ (l0 : List Int) (a1 : Int) (a2_0 : Int) (a2_1 : Int) (a2_2 : Int) (a2_3 : Int) (a2_4 : Int) (a2_5 : Int) (a2_6 : Int) (a2_7 : Int) (a2_8 : Int) (a2_9 : Int) (a2_10 : Int) (a2_11 : Int), l0.length ≤ maxLen → l0.length * 1 ≤ 140737488351232 → (∀ x ∈ l0, (Lit.int .u8 x).wf = true) → (Lit.int .i64 a1).wf = true → (Lit.int .i64 a2_0).wf = true → (Lit.int .i64 a2_1).wf = true → (Lit.int .i64 a2_2).wf = true → (Lit.int .i64 a2_3).wf = true → (Lit.int .i64 a2_4).wf = true → (Lit.int .i64 a2_5).wf = true → (Lit.int .i64 a2_6).wf = true → (Lit.int .i64 a2_7).wf = true → (Lit.int .i64 a2_8).wf = true → (Lit.int .i64 a2_9).wf = true → (Lit.int .i64 a2_10).wf = true → (Lit.int .i64 a2_11).wf = true → ∃ k, leveelaw07_InodeTables.f k l0 a1 a2_0 a2_1 a2_2 a2_3 a2_4 a2_5 a2_6 a2_7 a2_8 a2_9 a2_10 a2_11 = some true := by
  intro l p a0 a1 a2 a3 a4 a5 a6 a7 a8 a9 a10 a11 _ hl hw hp _ _ _ _ _ _ _ _ _ _ _ _
  have hb := isBytes_of_wf hw
  have hlen : l.length ≤ 140737488355328 := by omega
  obtain ⟨g, hg1, hg2⟩ := read_same 440 hb p hp
  obtain ⟨x, hx1, hx2, hx3⟩ := lay_same 440 (l := l) p a0 a1 a2 a3 a4 a5 a6 a7 a8 a9 a10 a11
  refine ⟨500, ?_⟩
  unfold leveelaw07_InodeTables.f leveeref01_Lent.f
  rw [if_pos hlen, Option.bind_some, show inode_Read.f 500 l p = _ from hg1, Option.bind_some, show leveeref07_Read.f 500 l p = _ from hg2, Option.bind_some, show inode_Lay.f 500 l p a0 a1 a2 a3 a4 a5 a6 a7 a8 a9 a10 a11 = _ from hx1, Option.bind_some, show leveeref07_Lay.f 500 l p a0 a1 a2 a3 a4 a5 a6 a7 a8 a9 a10 a11 = _ from hx2, Option.bind_some, if_neg (by simp), if_pos rfl, if_pos rfl, if_pos rfl]
  unfold leveeref01_Kept.f
  rw [if_pos ⟨hlen, rfl⟩, Option.bind_some, if_pos rfl]
  by_cases h : x.2 = 0
  · obtain ⟨hR, h256, i, rfl, hi, hx⟩ := hx3 h
    obtain ⟨r, hr⟩ := Spoil_eq x.1 (by rw [hx, List.length_append, List.length_append, bytesI_length, List.length_take, List.length_drop]; omega) 500 (by rw [hx, List.length_append, List.length_append, bytesI_length, List.length_take, List.length_drop]; omega)
    have hback := read_back 440 h256 hR i hi
    rw [if_pos h, hr, hx, show inode_Read.f 500 (l.take (64 * i) ++ (bytesI a0 a1 a2 a3 a4 a5 a6 a7 a8 a9 a10 a11 ++ l.drop (64 * i + 64))) (i : Int) = _ from hback, Option.bind_some, Option.bind_some, if_pos (by simp), if_pos rfl, Option.bind_some, if_pos rfl, known_at (by omega), Option.bind_some]
  · rw [if_neg h, known_at (by omega), Option.bind_some]
end Go.Proofs.Ythcndfnmgggblaa.Pure
