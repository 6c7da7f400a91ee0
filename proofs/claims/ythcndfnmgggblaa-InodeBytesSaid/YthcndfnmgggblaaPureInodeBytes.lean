/-
The plain law of InodeBytes: what the printed function tells is true, whatever the inode and the bytes.
Conditions: none.
-/
import Derived.Test.YthcndfnmgggblaaInode
import Derived.Test.YthcndfnmgggblaaInodeKnown
import Derived.Test.YthcndfnmgggblaaPx15
namespace Go.Proofs.Ythcndfnmgggblaa.Pure
open Go.RowKit Go.Proofs.YthcndfnmgggblaaW.PrintWords Go.Proofs.YthcndfnmgggblaaW.PrintLast Go.Proofs.YthcndfnmgggblaaW.PrintMore Go.Proofs.Ythcndfnmgggblaa.P Go.Proofs.Ythcndfnmgggblaa.Num Go.Proofs.Ythcndfnmgggblaa.Inode
theorem InodeBytes : ∀ (a0_0 : Int) (a0_1 : Int) (a0_2 : Int) (a0_3 : Int) (a0_4 : Int) (a0_5 : Int) (a0_6 : Int) (a0_7 : Int) (a0_8 : Int) (a0_9 : Int) (a0_10 : Int) (a0_11 : Int) (l1 : List Int), (Lit.int .i64 a0_0).wf = true → (Lit.int .i64 a0_1).wf = true → (Lit.int .i64 a0_2).wf = true → (Lit.int .i64 a0_3).wf = true → (Lit.int .i64 a0_4).wf = true → (Lit.int .i64 a0_5).wf = true → (Lit.int .i64 a0_6).wf = true → (Lit.int .i64 a0_7).wf = true → (Lit.int .i64 a0_8).wf = true → (Lit.int .i64 a0_9).wf = true → (Lit.int .i64 a0_10).wf = true → (Lit.int .i64 a0_11).wf = true → l1.length ≤ maxLen → l1.length * 1 ≤ 140737488351232 → (∀ x ∈ l1, (Lit.int .u8 x).wf = true) → ∃ k, leveelaw07_InodeBytes.f k a0_0 a0_1 a0_2 a0_3 a0_4 a0_5 a0_6 a0_7 a0_8 a0_9 a0_10 a0_11 l1 = some true := by
  intro a0 a1 a2 a3 a4 a5 a6 a7 a8 a9 a10 a11 l _ _ _ _ _ _ _ _ _ _ _ _ _ hl hw
  have hb := isBytes_of_wf hw
  obtain ⟨g, hg1, hg2⟩ := get_same 40 hb
  have hlen : l.length ≤ 140737488355328 := by omega
  refine ⟨100, ?_⟩
  unfold leveelaw07_InodeBytes.f leveeref01_Lent.f
  rw [show inode_Put.f 100 a0 a1 a2 a3 a4 a5 a6 a7 a8 a9 a10 a11 = _ from iPut_eq 91 a0 a1 a2 a3 a4 a5 a6 a7 a8 a9 a10 a11, Option.bind_some, show leveeref07_Put.f 100 a0 a1 a2 a3 a4 a5 a6 a7 a8 a9 a10 a11 = _ from rPut_eq 60 a0 a1 a2 a3 a4 a5 a6 a7 a8 a9 a10 a11, Option.bind_some, if_pos hlen, Option.bind_some, show inode_Get.f 100 l = _ from hg1, Option.bind_some, show leveeref07_Get.f 100 l = _ from hg2, Option.bind_some, if_pos rfl, if_pos rfl, if_neg (by simp), if_pos rfl, show inode_Right.f 100 a0 a1 a2 a3 a4 a5 a6 a7 a8 a9 a10 a11 = _ from iRight_eq 91 a0 a1 a2 a3 a4 a5 a6 a7 a8 a9 a10 a11, Option.bind_some, show leveeref07_Right.f 100 a0 a1 a2 a3 a4 a5 a6 a7 a8 a9 a10 a11 = _ from rRight_eq 91 a0 a1 a2 a3 a4 a5 a6 a7 a8 a9 a10 a11, Option.bind_some, if_neg (by simp)]
  unfold leveeref01_Kept.f
  rw [if_pos ⟨hlen, rfl⟩, Option.bind_some, if_pos rfl]
  by_cases h : RI a0 a1 a2 a3 a4 a5 a6 a7 a8 a9 a10 a11
  · rw [if_pos h]
    dsimp only
    rw [if_pos rfl, show inode_Get.f 100 (bytesI a0 a1 a2 a3 a4 a5 a6 a7 a8 a9 a10 a11) = _ from iGet_back 40 h, Option.bind_some, if_pos (by simp), if_pos rfl, known_eq, Option.bind_some]
  · rw [if_neg h]
    dsimp only
    rw [if_neg (by decide), known_eq, Option.bind_some]
end Go.Proofs.Ythcndfnmgggblaa.Pure
