/-
The plain law of NumLaid: what the printed function tells is true, whatever the numbers.
Conditions: none.
-/
import Derived.Test.YtmdbbnapljmboaaNum
namespace Go.Proofs.Ytmdbbnapljmboaa.Pure
open Go.RowKit Go.Proofs.YtmdbbnapljmboaaW.PrintWords Go.Proofs.YtmdbbnapljmboaaW.PrintLast Go.Proofs.YtmdbbnapljmboaaW.PrintMore Go.Proofs.Ytmdbbnapljmboaa.P Go.Proofs.Ytmdbbnapljmboaa.Num
theorem NumLaid : ∀ (l0 : List Int) (a1 : Int) (l2 : List Int), l0.length ≤ maxLen → l0.length * 1 ≤ 140737488351232 → (∀ x ∈ l0, (Lit.int .u8 x).wf = true) → (Lit.int .i64 a1).wf = true → l2.length ≤ maxLen → l2.length * 1 ≤ 140737488351232 → (∀ x ∈ l2, (Lit.int .u8 x).wf = true) → ∃ k, leveelaw01_NumLaid.f k l0 a1 l2 = some true := by
  intro l a m _ hl _ _ _ hm _
  refine ⟨2 * l.length + 1, ?_⟩
  unfold leveelaw01_NumLaid.f num_Lay.f
  rw [if_pos ⟨by omega, by omega⟩]
  by_cases h : 0 ≤ a ∧ a ≤ l.length ∧ (m.length : Int) ≤ l.length - a
  · rw [if_pos h, Option.bind_some]
    obtain ⟨i, rfl⟩ := Int.eq_ofNat_of_zero_le h.1
    simp only [Int.toNat_natCast]
    rw [if_pos trivial]
    have hlen : (l.take i ++ (m ++ l.drop (i + m.length))).length = l.length := by
      simp only [List.length_append, List.length_take, List.length_drop]
      omega
    have hcut : num_Cut.f (l.take i ++ (m ++ l.drop (i + m.length))) (i : Int) (m.length : Int) = some (m, 0) := by
      unfold num_Cut.f
      rw [if_pos (by omega), if_pos (by omega)]
      simp only [Int.toNat_natCast]
      rw [List.drop_append_of_le_length (by simp; omega), List.drop_of_length_le (by simp; omega)]
      simp
    rw [hcut, Option.bind_some]
    obtain ⟨x, y, hd, hxy⟩ := Diff_eq (2 * l.length + 1) l (l.take i ++ (m ++ l.drop (i + m.length))) (i : Int) ((i : Int) + m.length) hlen.symm (by omega) (by omega) (by
      intro j h1 h2 hne
      refine ⟨?_, ?_⟩
      · refine Decidable.byContradiction fun hc => hne ?_
        rw [List.getElem_append_left (by simp; omega), List.getElem_take]
      · refine Decidable.byContradiction fun hc => hne ?_
        rw [List.getElem_append_right (by simp; omega), List.getElem_append_right (by simp; omega), List.getElem_drop]
        congr 1
        simp
        omega)
    rw [hd, Option.bind_some]
    dsimp only
    rw [if_pos rfl, if_pos rfl, if_pos (by omega)]
    by_cases hx : x < 0
    · rw [if_pos hx]; rfl
    · rw [if_neg hx, if_pos (by omega), w64 (by omega) (by omega), if_pos (by omega)]; rfl
  · rw [if_neg h, Option.bind_some]
    dsimp only
    rw [if_neg (by decide), if_pos rfl, if_pos (by simp)]
    rfl
end Go.Proofs.Ytmdbbnapljmboaa.Pure
