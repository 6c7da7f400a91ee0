/-
The plain law of NumBack: what the printed function tells is true, whatever the numbers.
Conditions: none.
-/
import Derived.Test.YtmdbbnapljmboaaNum
namespace Go.Proofs.Ytmdbbnapljmboaa.Pure
open Go.RowKit Go.Proofs.YtmdbbnapljmboaaW.PrintWords Go.Proofs.YtmdbbnapljmboaaW.PrintLast Go.Proofs.YtmdbbnapljmboaaW.PrintMore Go.Proofs.Ytmdbbnapljmboaa.P Go.Proofs.Ytmdbbnapljmboaa.Num
theorem NumBack : ∀ (a0 : Int), (Lit.int .u64 a0).wf = true → ∃ k, leveelaw01_NumBack.f k a0 = some true := by
  intro n h
  have hn : 0 ≤ n ∧ n < 18446744073709551616 := by
    simp [Lit.wf, IntKind.min, IntKind.max, IntKind.signed, IntKind.bits] at h
    omega
  refine ⟨9, ?_⟩
  unfold leveelaw01_NumBack.f
  rw [if_pos (by decide), Put_eq 9 _ n (by decide) (by decide), Option.bind_some, Get_eq 9 _ (putS_bytes n _) (by decide), Option.bind_some, List.length_replicate, List.take_of_length_le (by rw [putS_length]; decide), getS_putS, if_pos (by omega)]
  rfl
end Go.Proofs.Ytmdbbnapljmboaa.Pure
