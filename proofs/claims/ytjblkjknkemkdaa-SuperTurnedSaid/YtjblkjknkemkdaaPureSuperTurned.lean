/-
The plain law of SuperTurned: what the printed function tells is true, whatever the superblock, the place and the byte.
Conditions: none.
-/
import Derived.Test.YtjblkjknkemkdaaSuper
import Derived.Test.YtjblkjknkemkdaaPx18
namespace Go.Proofs.Ytjblkjknkemkdaa.Pure
open Go.RowKit Go.Proofs.YtjblkjknkemkdaaW.PrintWords Go.Proofs.YtjblkjknkemkdaaW.PrintLast Go.Proofs.YtjblkjknkemkdaaW.PrintMore Go.Proofs.Ytjblkjknkemkdaa.P Go.Proofs.Ytjblkjknkemkdaa.Num Go.Proofs.Ytjblkjknkemkdaa.Plain Go.Proofs.Ytjblkjknkemkdaa.Super
theorem SuperTurned : ∀ (a0_0 : Int) (a0_1 : Int) (a0_2 : Int) (a0_3 : Int) (a1 : Int) (a2 : Int), (Lit.int .i64 a0_0).wf = true → (Lit.int .i64 a0_1).wf = true → (Lit.int .i64 a0_2).wf = true → (Lit.int .i64 a0_3).wf = true → (Lit.int .i64 a1).wf = true → (Lit.int .u8 a2).wf = true → ∃ k, leveelaw04_SuperTurned.f k a0_0 a0_1 a0_2 a0_3 a1 a2 = some true := by
  intro a b c d n x _ _ _ _ _ hx
  have hx' : 0 ≤ x ∧ x < 256 := isBytes_of_wf (l := [x]) (by intro y hy; rw [List.mem_singleton.mp hy]; exact hx) x (List.mem_singleton.mpr rfl)
  refine ⟨4000, ?_⟩
  unfold leveelaw04_SuperTurned.f leveelaw04_given.f
  rw [Option.bind_some]
  dsimp only
  rw [sPut_eq _ (by decide), Option.bind_some]
  by_cases h : RS a b c d = true
  · obtain ⟨r, hr, hr0, hr1⟩ := Count_eq n 256 (by decide) (by decide)
    obtain ⟨j, rfl⟩ := Int.eq_ofNat_of_zero_le hr0
    have hl := full_length a b c d
    rw [if_pos h, if_pos rfl]
    dsimp only
    rw [hl, if_pos (by decide), hr, Option.bind_some, if_pos hr0, if_pos (show (j : Int) < ((256 : Nat) : Int) from hr1), rd_eq _ j (by rw [hl]; omega), Int.toNat_natCast]
    by_cases hq : (full a b c d)[j]'(by rw [hl]; omega) = x
    · rw [if_pos hq, known_eq _ (by decide)]
      rfl
    · rw [if_neg hq, sGet_eq _ (by decide) _ (set_bytes (full_bytes a b c d) j x hx'), Option.bind_some]
      rcases turned a b c d j x (by omega) hx' hq with h8 | h7
      · rw [if_pos h8, known_eq _ (by decide)]
        rfl
      · rw [if_neg (by rw [h7]; decide), if_pos h7, known_eq _ (by decide)]
        rfl
  · rw [if_neg h, if_neg (by decide), if_pos rfl, known_eq _ (by decide)]
    rfl
end Go.Proofs.Ytjblkjknkemkdaa.Pure
