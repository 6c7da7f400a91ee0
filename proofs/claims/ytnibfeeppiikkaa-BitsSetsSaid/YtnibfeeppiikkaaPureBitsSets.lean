/-
The plain law of BitsSets: what the printed function tells is true, whatever the numbers.
Conditions: none.
-/
import Derived.Test.YtnibfeeppiikkaaBits
namespace Go.Proofs.Ytnibfeeppiikkaa.Pure
set_option linter.unusedVariables false
open Go.RowKit Go.Proofs.YtnibfeeppiikkaaW.PrintWords Go.Proofs.YtnibfeeppiikkaaW.PrintLast Go.Proofs.YtnibfeeppiikkaaW.PrintMore Go.Proofs.Ytnibfeeppiikkaa.P Go.Proofs.Ytnibfeeppiikkaa.Bits
theorem BitsSets : ∀ (l0 : List Int) (a1 : Int) (a2 : Bool) (a3 : Int), l0.length ≤ maxLen → l0.length * 1 ≤ 140737488351232 → (∀ x ∈ l0, (Lit.int .u8 x).wf = true) → (Lit.int .i64 a1).wf = true → (Lit.int .i64 a3).wf = true → ∃ k, leveelaw05_BitsSets.f k l0 a1 a2 a3 = some true := by
  intro l a on c _ hl hw hi hc
  have hb := isBytes_of_wf hw
  have hi9 : a ≤ 9223372036854775807 := i64_le hi
  have hc9 : c ≤ 9223372036854775807 := i64_le hc
  refine ⟨l.length + 100, ?_⟩
  unfold leveelaw05_BitsSets.f
  have hlent : leveeref01_Lent.f l = some l := by unfold leveeref01_Lent.f; rw [if_pos (by omega)]
  have hkept : leveeref01_Kept.f l l = some true := by unfold leveeref01_Kept.f; rw [if_pos ⟨by omega, rfl⟩]
  rw [hlent, Option.bind_some]
  by_cases h : 0 ≤ a ∧ a < 8 * (l.length : Int)
  · obtain ⟨i, rfl⟩ := Int.eq_ofNat_of_zero_le h.1
    have hin : i < 8 * l.length := by omega
    rw [Set_eq l (by omega) i on hin, Option.bind_some, refSet_eq l hb (by omega) i on hin _ (by omega), Option.bind_some]
    dsimp only
    have hb' := setS_bytes l hb i on hin
    have hl' := setS_length l i on
    obtain ⟨r, hr⟩ := Spoil_eq (setS l i on) (by omega) (l.length + 100) (by omega)
    rw [if_pos rfl, if_pos rfl, hkept, Option.bind_some, if_pos rfl, if_pos rfl, Get_eq _ hb' (by omega) _ hi9, Option.bind_some, bitZ_nat, setS_same l hb i on hin, if_pos (by simp)]
    by_cases he : c = (i : Int)
    · rw [if_pos he, hr, Option.bind_some, Option.bind_some, if_pos rfl, known_ge _ (by omega)]
      rfl
    · rw [if_neg he, Get_eq _ hb' (by omega) _ hc9, Option.bind_some, Get_eq _ hb (by omega) _ hc9, Option.bind_some, hr, Option.bind_some]
      have e : bitZ (setS l i on) c = bitZ l c := by
        unfold bitZ
        by_cases h0 : 0 ≤ c
        · rw [setS_other l hb i on hin c.toNat (by omega)]
        · rw [decide_eq_false h0, Bool.false_and, Bool.false_and]
      rw [e, if_pos (by simp), Option.bind_some, if_pos rfl, known_ge _ (by omega)]
      rfl
  · have h1 : bits_Set.f l a on = some ([], 3) := by
      unfold bits_Set.f
      rw [if_pos (by omega), if_neg h]
    rw [h1, Option.bind_some, refSet_no l (by omega) a on h hi9 _ (by omega), Option.bind_some]
    dsimp only
    rw [if_pos rfl, if_pos rfl, hkept, Option.bind_some, if_pos rfl, if_neg (by decide), known_ge _ (by omega)]
    rfl
end Go.Proofs.Ytnibfeeppiikkaa.Pure
