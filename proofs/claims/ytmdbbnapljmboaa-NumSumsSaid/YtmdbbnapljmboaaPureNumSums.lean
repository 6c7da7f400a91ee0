/-
The plain law of NumSums: what the printed function tells is true, whatever the numbers.
Conditions: none.
-/
import Derived.Test.YtmdbbnapljmboaaNum
namespace Go.Proofs.Ytmdbbnapljmboaa.Pure
open Go.RowKit Go.Proofs.YtmdbbnapljmboaaW.PrintWords Go.Proofs.YtmdbbnapljmboaaW.PrintLast Go.Proofs.YtmdbbnapljmboaaW.PrintMore Go.Proofs.Ytmdbbnapljmboaa.P Go.Proofs.Ytmdbbnapljmboaa.Num
theorem NumSums : ∀ (l0 : List Int) (a1 : Int), l0.length ≤ maxLen → l0.length * 1 ≤ 140737488351232 → (∀ x ∈ l0, (Lit.int .u8 x).wf = true) → (Lit.int .i64 a1).wf = true → leveelaw01_NumSums.f l0 a1 = some true := by
  intro l a _ _ hw _
  have hb := isBytes_of_wf hw
  unfold leveelaw01_NumSums.f
  by_cases h0 : (l.length : Int) = 0
  · rw [if_pos h0]; rfl
  rw [if_neg h0]
  by_cases h1 : (l.length : Int) > 1000
  · rw [if_pos h1]; rfl
  rw [if_neg h1, if_pos (by rw [List.length_nil, Nat.zero_add]; omega)]
  rw [List.nil_append, Option.bind_some]
  rw [w64 (x := 8 * (l.length : Int)) (by omega) (by omega)]
  obtain ⟨r, hr, hr0, hr1⟩ := Count_eq a (8 * (l.length : Int)) (by omega) (by omega)
  rw [hr, Option.bind_some]
  obtain ⟨n, rfl⟩ := Int.eq_ofNat_of_zero_le hr0
  have e1 : wrap64 (Int.tdiv (n : Int) 8) = ((n / 8 : Nat) : Int) := by
    rw [Int.tdiv_eq_ediv_of_nonneg (by omega), w64 (by omega) (by omega)]; omega
  have e2 : Int.tmod (n : Int) 8 = ((n % 8 : Nat) : Int) := by
    rw [Int.tmod_eq_emod_of_nonneg (by omega)]; omega
  have hi : n / 8 < l.length := by omega
  rw [e1, e2, if_pos (by omega), if_pos (by omega), if_pos (by rw [u64_wrap (by omega) (by omega)]; omega), rd_eq l _ hi]
  have hx := hb l[n / 8] (List.getElem_mem hi)
  have hf := flip l[n / 8] (n % 8) hx (by omega)
  generalize Go.bits .xor .u8 l[n / 8] (shl .u8 1 (IntKind.u64.wrap ((n % 8 : Nat) : Int))) = c at *
  rw [Sum_eq l (by omega), Option.bind_some, Sum_eq _ (by rw [List.length_set]; omega), Option.bind_some, Int.toNat_natCast, if_neg]
  · rfl
  · intro hs
    have hsplit : l = l.take (n / 8) ++ l[n / 8] :: l.drop (n / 8 + 1) := by
      rw [← List.drop_eq_getElem_cons hi, List.take_append_drop]
    have hset : l.set (n / 8) c = l.take (n / 8) ++ c :: l.drop (n / 8 + 1) := by
      rw [List.set_eq_take_append_cons_drop, if_pos hi]
    rw [hset] at hs
    refine Crc.sum_other (l.take (n / 8)) (l.drop (n / 8 + 1)) l[n / 8] c hx.1 hx.2 hf.1 hf.2.1 (fun h => hf.2.2 h.symm) ?_
    rw [← hsplit]
    exact hs
end Go.Proofs.Ytmdbbnapljmboaa.Pure
