/-
The plain law of DirentLays: what the printed function tells is true, whatever the block, the place and the entry.
Conditions: none.
-/
import Derived.Test.YtjlacfhmjjjpiaaDirent2
import Derived.Test.YtjlacfhmjjjpiaaPx12
namespace Go.Proofs.Ytjlacfhmjjjpiaa.Pure
open Go.RowKit Go.Proofs.YtjlacfhmjjjpiaaW.PrintWords Go.Proofs.YtjlacfhmjjjpiaaW.PrintLast Go.Proofs.YtjlacfhmjjjpiaaW.PrintMore Go.Proofs.Ytjlacfhmjjjpiaa.P Go.Proofs.Ytjlacfhmjjjpiaa.Num Go.Proofs.Ytjlacfhmjjjpiaa.Plain Go.Proofs.Ytjlacfhmjjjpiaa.Dirent
theorem DirentLays : ∀ (l0 : List Int) (a1 : Int) (a2_0 : Int) (a2_1 : Bool) (a2_2 : ByteArray), l0.length ≤ maxLen → l0.length * 1 ≤ 140737488351232 → (∀ x ∈ l0, (Lit.int .u8 x).wf = true) → (Lit.int .i64 a1).wf = true → (Lit.int .i64 a2_0).wf = true → a2_2.size ≤ maxLen → ∃ k, leveelaw08_DirentLays.f k l0 a1 a2_0 a2_1 a2_2 = some true := by
  intro l p a b s _ hl hw _ _ hs
  have hb := isBytes_of_wf hw
  have hs2 : s.size ≤ 9223372036854775807 := hs
  refine ⟨s.size + 1000, ?_⟩
  unfold leveelaw08_DirentLays.f leveeref01_Lent.f leveeref01_Kept.f
  have hK : l.length ≤ 140737488355328 ∧ l = l := ⟨by omega, rfl⟩
  rw [if_pos hK.1, Option.bind_some, dLay_eq, Option.bind_some, rLay_eq _ l p a b s hs2 (by omega), Option.bind_some, if_pos rfl, if_pos rfl, if_pos hK, Option.bind_some, if_pos rfl]
  by_cases h : l.length = 256 ∧ (0 ≤ p ∧ p < 8) ∧ rightS a b s = true
  · obtain ⟨h1, h2, h3⟩ := h
    have hB := layB_bytes hb p a b s
    have hL := layB_length h1 h2 h3
    have hR := read_laid h1 h2 h3
    obtain ⟨r, hr⟩ := Spoil_eq (layB l p a b s) (by omega) (s.size + 1000) (by omega)
    have e : layS l p a b s = (layB l p a b s, 0) := by
      unfold layS
      rw [if_pos h1, if_pos h2, if_pos h3]
    rw [e]
    dsimp only
    rw [if_pos rfl, dRead_eq _ (by omega) _ hB, hR, Option.bind_some, dFind_eq _ (by omega) _ hB, Option.bind_some, if_neg (by simp), if_pos rfl]
    by_cases ha : a = 0
    · rw [if_pos ha, hr, Option.bind_some, Option.bind_some, if_pos rfl, known_eq _ (by omega), Option.bind_some]
    · have hf := find_le hR ha 8 0 h2.1 (by omega)
      rw [if_neg ha, if_neg (by omega), if_neg (by omega), hr, Option.bind_some, Option.bind_some, if_pos rfl, known_eq _ (by omega), Option.bind_some]
  · have e : ¬ (layS l p a b s).2 = 0 := by
      unfold layS
      split
      · split
        · split
          · rename_i h1 h2 h3
            exact absurd ⟨h1, h2, h3⟩ h
          · decide
        · decide
      · decide
    rw [if_neg e, known_eq _ (by omega), Option.bind_some]
end Go.Proofs.Ytjlacfhmjjjpiaa.Pure
