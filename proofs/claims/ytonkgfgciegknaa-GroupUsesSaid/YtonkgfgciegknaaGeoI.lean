/-
Plain laws on the shapes of volumes: what the printed functions of packages geo and leveeref03 tell, as one function each.
Conditions: none.
-/
import Derived.Test.YtonkgfgciegknaaPx2
import Derived.Test.YtonkgfgciegknaaPx4
import Derived.Test.YtonkgfgciegknaaPx3
namespace Go.Proofs.Ytonkgfgciegknaa.Geo
open Go.RowKit Go.Proofs.YtonkgfgciegknaaW.PrintWords Go.Proofs.YtonkgfgciegknaaW.PrintLast Go.Proofs.YtonkgfgciegknaaW.PrintMore Go.Proofs.Ytonkgfgciegknaa.P
/-- Whether a shape can be. -/
def R (G I N : Int) : Bool := decide (16 ≤ G ∧ G ≤ 128 ∧ 4 ≤ I ∧ I ≤ 64 ∧ I % 4 = 0 ∧ 1 ≤ N ∧ N ≤ 16 ∧ 4 ≤ G - 1 - I / 4 ∧ 2 + N * G ≤ 4096)
theorem R_iff {G I N : Int} : R G I N = true ↔ 16 ≤ G ∧ G ≤ 128 ∧ 4 ≤ I ∧ I ≤ 64 ∧ I % 4 = 0 ∧ 1 ≤ N ∧ N ≤ 16 ∧ 4 ≤ G - 1 - I / 4 ∧ 2 + N * G ≤ 4096 := by simp [R]
theorem within_eq (a b c : Int) : geo_within.f a b c = some (decide (b ≤ a ∧ a ≤ c)) := by
  unfold geo_within.f
  by_cases h : a ≥ b
  · rw [if_pos h]; simp only [Option.some.injEq, decide_eq_decide]; omega
  · rw [if_neg h]; simp only [Option.some.injEq]; symm; rw [decide_eq_false_iff_not]; omega
theorem mul_small {G N : Int} (h1 : 0 ≤ G) (h2 : G ≤ 128) (h3 : 0 ≤ N) (h4 : N ≤ 16) : 0 ≤ N * G ∧ N * G ≤ 2048 := by
  constructor
  · exact Int.mul_nonneg h3 h1
  · calc N * G ≤ 16 * G := Int.mul_le_mul_of_nonneg_right h4 h1
      _ ≤ 2048 := by omega
theorem w64 {x : Int} (h0 : -9223372036854775808 ≤ x) (h1 : x ≤ 9223372036854775807) : wrap64 x = x := by unfold wrap64; omega
theorem whole_eq (k : Nat) (G I N : Int) : geo_whole.f (k + 2) G I N = some (if R G I N then (G, I, N) else (0, 0, 0)) := by
  unfold geo_whole.f
  simp only [within_eq, Option.bind_some]
  by_cases h1 : 16 ≤ G ∧ G ≤ 128
  · rw [if_pos (by simpa using h1)]
    by_cases h2 : 1 ≤ N ∧ N ≤ 16
    · have e2 : (!decide (1 ≤ N ∧ N ≤ 16)) = false := by simp [h2]
      rw [e2]
      simp only [geo_whole.j0, within_eq, Option.bind_some, Bool.false_eq_true, if_false]
      by_cases h3 : 4 ≤ I ∧ I ≤ 64
      · rw [if_pos (by simpa using h3)]
        have t1 : Int.tmod I 4 = I % 4 := Int.tmod_eq_emod_of_nonneg (by omega)
        have t2 : Int.tdiv I 4 = I / 4 := Int.tdiv_eq_ediv_of_nonneg (by omega)
        have hm := mul_small (G := G) (N := N) (by omega) (by omega) (by omega) (by omega)
        simp only [geo_whole.j1, t1, t2]
        rw [w64 (x := I / 4) (by omega) (by omega), w64 (x := G - 1) (by omega) (by omega), w64 (x := G - 1 - I / 4) (by omega) (by omega), w64 (x := N * G) (by omega) (by omega), w64 (x := 2 + N * G) (by omega) (by omega)]
        by_cases h4 : I % 4 = 0
        · rw [if_neg (by simp [h4])]
          by_cases h5 : G - 1 - I / 4 < 4
          · rw [if_pos h5, if_neg (by rw [R_iff]; omega)]
          · rw [if_neg h5]
            by_cases h6 : 2 + N * G > 4096
            · rw [if_pos h6, if_neg (by rw [R_iff]; omega)]
            · rw [if_neg h6, if_pos (by rw [R_iff]; omega)]
        · rw [if_pos (by simp [h4]), if_neg (by rw [R_iff]; omega)]
      · rw [if_neg (by simpa using h3)]
        simp only [geo_whole.j1, if_true]
        rw [if_neg (by rw [R_iff]; omega)]
    · have e2 : (!decide (1 ≤ N ∧ N ≤ 16)) = true := by simp [h2]
      rw [e2]
      simp only [geo_whole.j0, if_true]
      rw [if_neg (by rw [R_iff]; omega)]
  · rw [if_neg (by simpa using h1)]
    simp only [geo_whole.j0, if_true]
    rw [if_neg (by rw [R_iff]; omega)]

theorem refRight_eq (G I N : Int) : leveeref03_Right.f G I N = some (R G I N) := by
  unfold leveeref03_Right.f
  by_cases h1 : G < 16
  · rw [if_pos h1, eq_comm, Option.some.injEq, Bool.eq_false_iff]; simp only [ne_eq, R_iff]; omega
  rw [if_neg h1]
  by_cases h2 : G > 128
  · rw [if_pos h2, eq_comm, Option.some.injEq, Bool.eq_false_iff]; simp only [ne_eq, R_iff]; omega
  rw [if_neg h2]
  by_cases h3 : I < 4
  · rw [if_pos h3, eq_comm, Option.some.injEq, Bool.eq_false_iff]; simp only [ne_eq, R_iff]; omega
  rw [if_neg h3]
  by_cases h4 : I > 64
  · rw [if_pos h4, eq_comm, Option.some.injEq, Bool.eq_false_iff]; simp only [ne_eq, R_iff]; omega
  rw [if_neg h4]
  have t1 : Int.tmod I 4 = I % 4 := Int.tmod_eq_emod_of_nonneg (by omega)
  have t2 : Int.tdiv I 4 = I / 4 := Int.tdiv_eq_ediv_of_nonneg (by omega)
  rw [t1, t2]
  by_cases h5 : I % 4 = 0
  · rw [if_pos h5]
    by_cases h6 : N < 1
    · rw [if_pos h6, eq_comm, Option.some.injEq, Bool.eq_false_iff]; simp only [ne_eq, R_iff]; omega
    rw [if_neg h6]
    by_cases h7 : N > 16
    · rw [if_pos h7, eq_comm, Option.some.injEq, Bool.eq_false_iff]; simp only [ne_eq, R_iff]; omega
    rw [if_neg h7]
    have hm := mul_small (G := G) (N := N) (by omega) (by omega) (by omega) (by omega)
    rw [w64 (x := I / 4) (by omega) (by omega), w64 (x := G - 1) (by omega) (by omega), w64 (x := G - 1 - I / 4) (by omega) (by omega), w64 (x := N * G) (by omega) (by omega), w64 (x := 2 + N * G) (by omega) (by omega)]
    by_cases h8 : G - 1 - I / 4 ≥ 4
    · rw [if_pos h8, Option.some.injEq]
      by_cases h9 : 2 + N * G ≤ 4096
      · rw [decide_eq_true h9, eq_comm, R_iff]; omega
      · rw [decide_eq_false h9, eq_comm, Bool.eq_false_iff]; simp only [ne_eq, R_iff]; omega
    · rw [if_neg h8, eq_comm, Option.some.injEq, Bool.eq_false_iff]; simp only [ne_eq, R_iff]; omega
  · rw [if_neg h5, eq_comm, Option.some.injEq, Bool.eq_false_iff]; simp only [ne_eq, R_iff]; omega
theorem Right_eq (k : Nat) (G I N : Int) : geo_Right.f (k + 2) G I N = some (R G I N) := by
  unfold geo_Right.f
  rw [whole_eq, Option.bind_some]
  by_cases h : R G I N = true
  · have hr := R_iff.1 h
    rw [if_pos h]
    simp [h]; omega
  · rw [if_neg h]
    rw [Bool.not_eq_true] at h
    rw [h]
    simp
def tablesS (G I N : Int) : Int := if R G I N then I / 4 else 0
def headS (G I N k : Int) : Int × Int := if R G I N then (if k < 0 then (0, 3) else if N ≤ k then (0, 3) else (2 + k * G, 0)) else (0, 1)
theorem Tables_eq (k : Nat) (G I N : Int) : geo_Tables.f (k + 2) G I N = some (tablesS G I N) := by
  unfold geo_Tables.f tablesS
  rw [whole_eq, Option.bind_some]
  by_cases h : R G I N = true
  · have hr := R_iff.1 h
    rw [if_pos h, if_pos h, if_neg (by simp; omega), Int.tdiv_eq_ediv_of_nonneg (by omega), w64 (by omega) (by omega)]
  · rw [if_neg h, if_neg h]
    rfl
theorem Head_eq (k : Nat) (G I N x : Int) : geo_Head.f (k + 2) G I N x = some (headS G I N x) := by
  unfold geo_Head.f headS
  rw [Right_eq, Option.bind_some]
  by_cases h : R G I N = true
  · have hr := R_iff.1 h
    rw [if_pos h, if_pos h]
    by_cases h1 : x < 0
    · rw [if_pos h1, if_pos h1]
    rw [if_neg h1, if_neg h1]
    by_cases h2 : N ≤ x
    · rw [if_pos h2, if_pos h2]
    rw [if_neg h2, if_neg h2]
    have hm := mul_small (G := G) (N := x) (by omega) (by omega) (by omega) (by omega)
    rw [w64 (x := x * G) (by omega) (by omega), w64 (by omega) (by omega)]
  · rw [if_neg h, if_neg h]
/-- How many of the first blocks are of each kind. -/
def cnt (G I b : Int) : List Int :=
  if b < 2 then [0, b, 0, 0, 0]
  else [0, 2, (b - 2) / G + (if (b - 2) % G = 0 then 0 else 1), (b - 2) / G * (I / 4) + (if (b - 2) % G ≤ I / 4 then (if (b - 2) % G = 0 then 0 else (b - 2) % G - 1) else I / 4), (b - 2) / G * (G - 1 - I / 4) + (if (b - 2) % G ≤ I / 4 then 0 else (b - 2) % G - 1 - I / 4)]
end Go.Proofs.Ytonkgfgciegknaa.Geo
