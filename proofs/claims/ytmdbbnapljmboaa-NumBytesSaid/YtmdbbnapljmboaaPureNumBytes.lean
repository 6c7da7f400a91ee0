/-
The plain law of NumBytes: what the printed function tells is true, whatever the numbers.
Conditions: none.
-/
import Derived.Test.YtmdbbnapljmboaaNum
namespace Go.Proofs.Ytmdbbnapljmboaa.Pure
open Go.RowKit Go.Proofs.YtmdbbnapljmboaaW.PrintWords Go.Proofs.YtmdbbnapljmboaaW.PrintLast Go.Proofs.YtmdbbnapljmboaaW.PrintMore Go.Proofs.Ytmdbbnapljmboaa.P Go.Proofs.Ytmdbbnapljmboaa.Num
theorem NumBytes : ∀ (a0 : Int) (a1 : Int) (l2 : List Int), (Lit.int .u64 a0).wf = true → (Lit.int .i64 a1).wf = true → l2.length ≤ maxLen → l2.length * 1 ≤ 140737488351232 → (∀ x ∈ l2, (Lit.int .u8 x).wf = true) → ∃ k, leveelaw01_NumBytes.f k a0 a1 l2 = some true := by
  intro n m l h _ _ hl hw
  have hn : 0 ≤ n ∧ n < 18446744073709551616 := by
    simp [Lit.wf, IntKind.min, IntKind.max, IntKind.signed, IntKind.bits] at h
    omega
  have hb := isBytes_of_wf hw
  refine ⟨10 * l.length + 200, ?_⟩
  unfold leveelaw01_NumBytes.f
  by_cases h0 : m < 0
  · rw [if_pos h0]; rfl
  rw [if_neg h0]
  by_cases h1 : m > 100
  · rw [if_pos h1]; rfl
  rw [if_neg h1, if_pos (by omega)]
  obtain ⟨m, rfl⟩ := Int.eq_ofNat_of_zero_le (show 0 ≤ m by omega)
  rw [if_pos (by omega), Put_eq _ _ n (by simp; omega) (by simp; omega), Option.bind_some, List.length_replicate, Int.toNat_natCast]
  have hlent : leveeref01_Lent.f l = some l := by unfold leveeref01_Lent.f; rw [if_pos (by omega)]
  rw [hlent, Option.bind_some, Bytes_eq _ n m hn.1 hn.2 (by omega) (by omega), Option.bind_some, if_pos rfl, Get_eq _ l hb (by omega), Option.bind_some, refGet_eq _ l hb (by omega), Option.bind_some, if_pos rfl, Sum_eq l (by omega), Option.bind_some, refSum_eq _ l (by omega) (by omega), Option.bind_some, if_pos rfl, Zero_eq _ l hb (by omega) (by omega), Option.bind_some, refZero_eq _ l (by omega) (by omega), Option.bind_some, if_pos (by simp)]
  have hkept : leveeref01_Kept.f l l = some true := by unfold leveeref01_Kept.f; rw [if_pos ⟨by omega, rfl⟩]
  rw [hkept]
  rfl
end Go.Proofs.Ytmdbbnapljmboaa.Pure
