/-
The plain law of BitsRuns: what the printed function tells is true, whatever the numbers.
Conditions: none.
-/
import Derived.Test.YtnibfeeppiikkaaBits
namespace Go.Proofs.Ytnibfeeppiikkaa.Pure
set_option linter.unusedVariables false
open Go.RowKit Go.Proofs.YtnibfeeppiikkaaW.PrintWords Go.Proofs.YtnibfeeppiikkaaW.PrintLast Go.Proofs.YtnibfeeppiikkaaW.PrintMore Go.Proofs.Ytnibfeeppiikkaa.P Go.Proofs.Ytnibfeeppiikkaa.Bits
theorem rest_eq (l : List Int) (hb : isBytes l) (hl : l.length ≤ 60) (n : Nat) (hn : n ≤ 8 * l.length) (k : Nat) (hk : 8 * l.length + 60 < k) :
    ((bits_First.f k l n 0).bind fun t196 => ((bits_Count.f k l n).bind fun t197 => (if ((decide (t196 ≥ 0)) == (decide (t197 < (n : Int)))) = true then (if t196 < 0 then ((leveelaw05_known.f k).bind fun t198 => (some t198)) else ((bits_Get.f l t196).bind fun t199 => (if t199 = true then (none) else ((leveelaw05_known.f k).bind fun t200 => (some t200))))) else (none)))) = some true := by
  have hm : mostS l n = n := by unfold mostS; omega
  rw [First_eq l hb (by omega) n 0 k (by omega), Option.bind_some, Count_eq l hb (by omega) n k (by omega), Option.bind_some, hm]
  have hf : fromS n 0 = 0 := by unfold fromS; split <;> rfl
  rw [hf]
  have hc := cnt_le (bitS l) n
  have hfs : firstS (bitS l) n 0 = orElse (nx (bitS l) 0 n) (-1) := by
    unfold firstS
    rw [Nat.sub_zero, Nat.min_zero]
    rfl
  rw [hfs]
  cases hx : nx (bitS l) 0 n with
  | none =>
    have h1 : cnt (bitS l) n = n := by
      refine Decidable.byContradiction fun h => ?_
      obtain ⟨i, h1, h2⟩ := cnt_some (bitS l) n (by omega)
      have := nx_none (bitS l) n 0 hx i (by omega) (by omega)
      rw [h2] at this
      cases this
    rw [show orElse (none : Option Nat) (-1) = -1 from rfl, h1, decide_eq_false (by omega), decide_eq_false (by omega), if_pos (by decide), if_pos (by omega), known_ge _ (by omega)]
    rfl
  | some j =>
    obtain ⟨_, h2, h3⟩ := nx_some (bitS l) n 0 j hx
    have h1 : cnt (bitS l) n < n := by
      refine Decidable.byContradiction fun h => ?_
      have := cnt_all (bitS l) n (by omega) j (by omega)
      rw [h3] at this
      cases this
    rw [show orElse (some j) (-1) = (j : Int) from rfl, decide_eq_true (by omega), decide_eq_true (by omega), if_pos (by decide), if_neg (by omega), Get_eq l hb (by omega) _ (by omega), Option.bind_some, bitZ_nat, h3, if_neg (by decide), known_ge _ (by omega)]
    rfl
theorem loop_none (l : List Int) (hb : isBytes l) (hl : l.length ≤ 60) (n : Nat) (hn : n ≤ 8 * l.length) (w : Int) (k : Nat) (hk : 8 * l.length + 61 < k) : leveelaw05_BitsRuns.l0 k l n w (-1) 0 = some true := by
  obtain ⟨k, rfl⟩ : ∃ m, k = m + 1 := ⟨k - 1, by omega⟩
  have hr := rest_eq l hb hl n hn k (by omega)
  simp only [leveelaw05_BitsRuns.l0]
  by_cases h : 0 < w
  · rw [if_pos h, if_neg (by omega)]
    exact hr
  · rw [if_neg h]
    exact hr
theorem loop_some (l : List Int) (hb : isBytes l) (hl : l.length ≤ 60) (n : Nat) (hn : n ≤ 8 * l.length) (w s : Nat) (hR : Row (bitS l) w s n) : ∀ (d i k : Nat), i + d = w → d + 8 * l.length + 61 < k →
    leveelaw05_BitsRuns.l0 k l n w (s : Int) (i : Int) = some true := by
  have h1 := hR.1
  intro d
  induction d with
  | zero =>
    intro i k hi hk
    obtain ⟨k, rfl⟩ : ∃ m, k = m + 1 := ⟨k - 1, by omega⟩
    have hr := rest_eq l hb hl n hn k (by omega)
    simp only [leveelaw05_BitsRuns.l0]
    rw [if_neg (by omega)]
    exact hr
  | succ d ih =>
    intro i k hi hk
    obtain ⟨k, rfl⟩ : ∃ m, k = m + 1 := ⟨k - 1, by omega⟩
    simp only [leveelaw05_BitsRuns.l0]
    rw [if_pos (by omega), if_pos (by omega), w64 (x := (s : Int) + i) (by omega) (by omega), if_neg (by omega), show (s : Int) + (i : Int) = ((s + i : Nat) : Int) by omega, Get_eq l hb (by omega) _ (by omega), Option.bind_some, bitZ_nat, hR.2 i (by omega), if_neg (by decide), w64 (by omega) (by omega)]
    exact ih (i + 1) k (by omega) (by omega)
theorem BitsRuns : ∀ (l0 : List Int) (a1 : Int) (a2 : Int), l0.length ≤ maxLen → l0.length * 1 ≤ 140737488351232 → (∀ x ∈ l0, (Lit.int .u8 x).wf = true) → (Lit.int .i64 a1).wf = true → (Lit.int .i64 a2).wf = true → ∃ k, leveelaw05_BitsRuns.f k l0 a1 a2 = some true := by
  intro l n w _ hl hw _ hww
  have hb := isBytes_of_wf hw
  have hw9 : w ≤ 9223372036854775807 := i64_le hww
  refine ⟨2000, ?_⟩
  unfold leveelaw05_BitsRuns.f
  by_cases h0 : (l.length : Int) > 60
  · rw [if_pos h0, known_ge _ (by omega)]; rfl
  rw [if_neg h0]
  by_cases h1 : n < 0
  · rw [if_pos h1, known_ge _ (by omega)]; rfl
  rw [if_neg h1, w64 (x := 8 * (l.length : Int)) (by omega) (by omega)]
  by_cases h2 : n > 8 * (l.length : Int)
  · rw [if_pos h2, known_ge _ (by omega)]; rfl
  rw [if_neg h2]
  obtain ⟨n, rfl⟩ := Int.eq_ofNat_of_zero_le (show 0 ≤ n by omega)
  have hm : mostS l n = n := by unfold mostS; omega
  obtain ⟨a, b, hL, h3⟩ := Longest_eq l hb (by omega) n 2000 (by omega)
  rw [hm] at h3
  rw [hL, Option.bind_some]
  by_cases hw1 : w ≥ 1
  · obtain ⟨w, rfl⟩ := Int.eq_ofNat_of_zero_le (show 0 ≤ w by omega)
    obtain ⟨x, hx, hx1⟩ := Run_eq l hb (by omega) n w (by omega) (by omega) 2000 (by omega)
    rw [hm] at hx1
    rw [hx, Option.bind_some, if_pos hw1]
    rcases hx1 with ⟨s, rfl, h4, _⟩ | ⟨rfl, h4⟩
    · have hbw : w ≤ b := by
        refine Decidable.byContradiction fun hc => ?_
        exact h3.2.1 s (h4.short (by omega))
      have h5 := h4.1
      rw [decide_eq_true (by omega), decide_eq_true (by dsimp only; omega), if_neg (by decide)]
      exact loop_some l hb (by omega) n (by omega) w s h4 w 0 2000 (by omega) (by omega)
    · have hbw : b < w := by
        refine Decidable.byContradiction fun hc => ?_
        exact h4 a (h3.1.short (by omega))
      rw [decide_eq_false (by omega), decide_eq_false (by dsimp only; omega), if_neg (by decide)]
      exact loop_none l hb (by omega) n (by omega) w 2000 (by omega)
  · rw [Run_low l n w (by omega), Option.bind_some, if_neg hw1, if_neg (by decide)]
    exact loop_none l hb (by omega) n (by omega) w 2000 (by omega)
end Go.Proofs.Ytnibfeeppiikkaa.Pure
