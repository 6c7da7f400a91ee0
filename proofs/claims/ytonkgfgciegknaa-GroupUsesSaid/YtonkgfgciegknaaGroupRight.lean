/-
A new header is right.
Conditions: none.
-/
import Derived.Test.YtonkgfgciegknaaGroupPlain3
import Derived.Test.YtonkgfgciegknaaHandGroupLaw
namespace Go.Proofs.Ytonkgfgciegknaa.P
open Go.RowKit Go.Proofs.YtonkgfgciegknaaW.PrintWords Go.Proofs.YtonkgfgciegknaaW.PrintLast Go.Proofs.YtonkgfgciegknaaW.PrintMore
attribute [local go_sem] max2_int min2_int max_two min_two max_three min_three max_four min_four
set_option linter.unusedVariables false
set_option linter.unusedSimpArgs false
theorem ones_bit : ∀ (n : Fin 18) (i : Fin 128), Bits.bitS (onesL n.val) i.val = decide (i.val < n.val) := by decide +kernel
theorem slots_bit : ∀ i : Fin 64, Bits.bitS ((zeros 8).set 0 3) i.val = decide (i.val < 2) := by decide +kernel
theorem noslot_bit : ∀ i : Fin 64, Bits.bitS (zeros 8) i.val = false := by decide +kernel
theorem fresh_right {G I N no : Int} (h : okS G I N no = true) : rightP G I N no (onesL (1 + I / 4).toNat) (slots0 no) = true := by
  have q := h
  simp only [okS, Bool.and_eq_true, decide_eq_true_eq] at q
  have hg := Geo.R_iff.mp q.1.1
  refine (rightP_iff (fresh_HM h)).mpr ⟨h, fun i hi => ?_, fun i hi => ?_⟩
  · have e := ones_bit ⟨(1 + I / 4).toNat, by omega⟩ ⟨i, hi⟩
    simp only at e
    rw [e]
    exact ⟨fun k => decide_eq_true (by omega), fun k => decide_eq_false (by omega)⟩
  · unfold slots0
    by_cases h0 : no = 0
    · rw [if_pos h0]
      have e := slots_bit ⟨i, hi⟩
      simp only at e
      rw [e]
      exact ⟨fun k => decide_eq_false (by omega), fun _ k => decide_eq_true k⟩
    · rw [if_neg h0]
      have e := noslot_bit ⟨i, hi⟩
      simp only at e
      rw [e]
      exact ⟨fun _ => rfl, fun k => absurd k h0⟩
end Go.Proofs.Ytonkgfgciegknaa.P
