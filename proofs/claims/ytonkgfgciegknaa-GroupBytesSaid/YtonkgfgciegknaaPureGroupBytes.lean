/-
The plain law of GroupBytes: the walk told true of all bytes.
Conditions: none.
-/
import Derived.Test.YtonkgfgciegknaaHandGroupBytes
namespace Go.Proofs.Ytonkgfgciegknaa.Pure
open Go.RowKit Go.Proofs.Ytonkgfgciegknaa.P
theorem GroupBytes : ∀ (a0_0 a0_1 a0_2 a1 : Int) (l2 l3 l4 : List Int), (Lit.int .i64 a0_0).wf = true → (Lit.int .i64 a0_1).wf = true → (Lit.int .i64 a0_2).wf = true → (Lit.int .i64 a1).wf = true →
    l2.length ≤ maxLen → l2.length * 1 ≤ 140737488351232 → (∀ x ∈ l2, (Lit.int .u8 x).wf = true) → l3.length ≤ maxLen → l3.length * 1 ≤ 140737488351232 → (∀ x ∈ l3, (Lit.int .u8 x).wf = true) → l4.length ≤ maxLen → l4.length * 1 ≤ 140737488351232 → (∀ x ∈ l4, (Lit.int .u8 x).wf = true) →
    leveelaw06_GroupBytes.f a0_0 a0_1 a0_2 a1 l2 l3 l4 = some true := by
  intro a b c d l2 l3 l4 _ _ _ _ _ _ h2 _ _ h3 _ h4l h4
  have b2 := Bits.isBytes_of_wf h2
  have b3 := Bits.isBytes_of_wf h3
  have b4 := Bits.isBytes_of_wf h4
  unfold leveelaw06_GroupBytes.f
  rw [if_pos]
  refine ⟨List.all_eq_true.mpr fun x hx => ?_, by omega⟩
  have hx' : 0 ≤ x ∧ x < 256 := by
    rcases List.mem_append.mp hx with hx | hx
    · exact b2 x hx
    · rcases List.mem_append.mp hx with hx | hx
      · exact b3 x hx
      · exact b4 x hx
  simpa using hx'
end Go.Proofs.Ytonkgfgciegknaa.Pure
