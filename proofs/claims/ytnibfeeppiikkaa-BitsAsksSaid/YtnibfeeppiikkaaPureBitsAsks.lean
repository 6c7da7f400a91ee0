/-
The plain law of BitsAsks: what the printed function tells is true, whatever the numbers.
Conditions: none.
-/
import Derived.Test.YtnibfeeppiikkaaBits
namespace Go.Proofs.Ytnibfeeppiikkaa.Pure
set_option linter.unusedVariables false
open Go.RowKit Go.Proofs.YtnibfeeppiikkaaW.PrintWords Go.Proofs.YtnibfeeppiikkaaW.PrintLast Go.Proofs.YtnibfeeppiikkaaW.PrintMore Go.Proofs.Ytnibfeeppiikkaa.P Go.Proofs.Ytnibfeeppiikkaa.Bits
theorem BitsAsks : ∀ (l0 : List Int) (a1 : Int) (a2 : Int) (a3 : Int), l0.length ≤ maxLen → l0.length * 1 ≤ 140737488351232 → (∀ x ∈ l0, (Lit.int .u8 x).wf = true) → (Lit.int .i64 a1).wf = true → (Lit.int .i64 a2).wf = true → (Lit.int .i64 a3).wf = true → ∃ k, leveelaw05_BitsAsks.f k l0 a1 a2 a3 = some true := by
  intro l i n w _ hl hw hi _ hww
  have hb := isBytes_of_wf hw
  have hi9 : i ≤ 9223372036854775807 := i64_le hi
  have hw9 : w ≤ 9223372036854775807 := i64_le hww
  refine ⟨24 * l.length + 100, ?_⟩
  unfold leveelaw05_BitsAsks.f
  by_cases h0 : (l.length : Int) > 60
  · rw [if_pos h0, known_ge _ (by omega)]; rfl
  rw [if_neg h0]
  have hlent : leveeref01_Lent.f l = some l := by unfold leveeref01_Lent.f; rw [if_pos (by omega)]
  have hkept : leveeref01_Kept.f l l = some true := by unfold leveeref01_Kept.f; rw [if_pos ⟨by omega, rfl⟩]
  obtain ⟨a, b, hL, h1⟩ := Longest_eq l hb (by omega) n (24 * l.length + 100) (by omega)
  obtain ⟨a', b', hL', h1'⟩ := refLongest_eq l hb (by omega) n (24 * l.length + 100) (by omega)
  obtain ⟨rfl, rfl⟩ := h1.one h1'
  have hR : bits_Run.f (24 * l.length + 100) l n w = leveeref05_Run.f (24 * l.length + 100) l n w ∧ ∃ x, leveeref05_Run.f (24 * l.length + 100) l n w = some x := by
    by_cases hw1 : w < 1
    · rw [Run_low l n w hw1, refRun_low l (by omega) n w hw1 _ (by omega)]
      exact ⟨rfl, _, rfl⟩
    · obtain ⟨w, rfl⟩ := Int.eq_ofNat_of_zero_le (show 0 ≤ w by omega)
      obtain ⟨x, hx, hx1⟩ := Run_eq l hb (by omega) n w (by omega) (by omega) (24 * l.length + 100) (by omega)
      obtain ⟨y, hy, hy1⟩ := refRun_eq l hb (by omega) n w (by omega) (24 * l.length + 100) (by omega)
      rw [hx, hy, hx1.one hy1]
      exact ⟨rfl, _, rfl⟩
  obtain ⟨hR, x, hx⟩ := hR
  rw [hlent, Option.bind_some, hL, Option.bind_some, hL', Option.bind_some, Get_eq l hb (by omega) i hi9, Option.bind_some, refGet_eq l hb (by omega) i hi9, Option.bind_some, if_pos (by simp),
    Count_eq l hb (by omega) n _ (by omega), Option.bind_some, refCount_eq l hb (by omega) n _ (by omega), Option.bind_some, if_pos rfl,
    First_eq l hb (by omega) n i _ (by omega), Option.bind_some, refFirst_eq l hb (by omega) n i _ (by omega), Option.bind_some, if_pos rfl,
    hR, hx, Option.bind_some, Option.bind_some, if_pos rfl, if_pos rfl, if_pos rfl, hkept, Option.bind_some, if_pos rfl, known_ge _ (by omega)]
  rfl
end Go.Proofs.Ytnibfeeppiikkaa.Pure
