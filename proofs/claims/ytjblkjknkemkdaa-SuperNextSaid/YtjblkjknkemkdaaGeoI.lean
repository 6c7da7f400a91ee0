/-
Plain laws on the shapes of volumes: what the printed functions of packages geo and leveeref03 tell, as one function each.
Conditions: none.
-/
import Derived.Test.YtjblkjknkemkdaaPx4
import Derived.Test.YtjblkjknkemkdaaPx5
import Derived.Test.YtjblkjknkemkdaaPx11
import Derived.Test.YtjblkjknkemkdaaPx9
namespace Go.Proofs.Ytjblkjknkemkdaa.Geo
open Go.RowKit Go.Proofs.YtjblkjknkemkdaaW.PrintWords Go.Proofs.YtjblkjknkemkdaaW.PrintLast Go.Proofs.YtjblkjknkemkdaaW.PrintMore Go.Proofs.Ytjblkjknkemkdaa.P
/-- Whether a shape can be. -/
def R (G I N : Int) : Bool := decide (16 ≤ G ∧ G ≤ 128 ∧ 4 ≤ I ∧ I ≤ 64 ∧ I % 4 = 0 ∧ 1 ≤ N ∧ N ≤ 16 ∧ 4 ≤ G - 1 - I / 4 ∧ 2 + N * G ≤ 4096)
theorem R_iff {G I N : Int} : R G I N = true ↔ 16 ≤ G ∧ G ≤ 128 ∧ 4 ≤ I ∧ I ≤ 64 ∧ I % 4 = 0 ∧ 1 ≤ N ∧ N ≤ 16 ∧ 4 ≤ G - 1 - I / 4 ∧ 2 + N * G ≤ 4096 := by simp [R]
theorem within_eq (a b c : Int) : geo_within.f a b c = some (decide (b ≤ a ∧ a ≤ c)) := by
  unfold geo_within.f
  by_cases h : a ≥ b
  · rw [if_pos h]; simp only [Option.some.injEq, decide_eq_decide]; omega
  · rw [if_neg h]; simp only [Option.some.injEq]; symm; rw [decide_eq_false_iff_not]; omega
theorem mul_small {G N : Int} (h1 : 0 ≤ G) (h2 : G ≤ 128) (h3 : 0 ≤ N) (h4 : N ≤ 16) : 0 ≤ N * G ∧ N * G ≤ 2048 := by
  constructor
  · exact Int.mul_nonneg h3 h1
  · calc N * G ≤ 16 * G := Int.mul_le_mul_of_nonneg_right h4 h1
      _ ≤ 2048 := by omega
theorem w64 {x : Int} (h0 : -9223372036854775808 ≤ x) (h1 : x ≤ 9223372036854775807) : wrap64 x = x := by unfold wrap64; omega
theorem whole_eq (k : Nat) (G I N : Int) : geo_whole.f (k + 2) G I N = some (if R G I N then (G, I, N) else (0, 0, 0)) := by
  unfold geo_whole.f
  simp only [within_eq, Option.bind_some]
  by_cases h1 : 16 ≤ G ∧ G ≤ 128
  · rw [if_pos (by simpa using h1)]
    by_cases h2 : 1 ≤ N ∧ N ≤ 16
    · have e2 : (!decide (1 ≤ N ∧ N ≤ 16)) = false := by simp [h2]
      rw [e2]
      simp only [geo_whole.j0, within_eq, Option.bind_some, Bool.false_eq_true, if_false]
      by_cases h3 : 4 ≤ I ∧ I ≤ 64
      · rw [if_pos (by simpa using h3)]
        have t1 : Int.tmod I 4 = I % 4 := Int.tmod_eq_emod_of_nonneg (by omega)
        have t2 : Int.tdiv I 4 = I / 4 := Int.tdiv_eq_ediv_of_nonneg (by omega)
        have hm := mul_small (G := G) (N := N) (by omega) (by omega) (by omega) (by omega)
        simp only [geo_whole.j1, t1, t2]
        rw [w64 (x := I / 4) (by omega) (by omega), w64 (x := G - 1) (by omega) (by omega), w64 (x := G - 1 - I / 4) (by omega) (by omega), w64 (x := N * G) (by omega) (by omega), w64 (x := 2 + N * G) (by omega) (by omega)]
        by_cases h4 : I % 4 = 0
        · rw [if_neg (by simp [h4])]
          by_cases h5 : G - 1 - I / 4 < 4
          · rw [if_pos h5, if_neg (by rw [R_iff]; omega)]
          · rw [if_neg h5]
            by_cases h6 : 2 + N * G > 4096
            · rw [if_pos h6, if_neg (by rw [R_iff]; omega)]
            · rw [if_neg h6, if_pos (by rw [R_iff]; omega)]
        · rw [if_pos (by simp [h4]), if_neg (by rw [R_iff]; omega)]
      · rw [if_neg (by simpa using h3)]
        simp only [geo_whole.j1, if_true]
        rw [if_neg (by rw [R_iff]; omega)]
    · have e2 : (!decide (1 ≤ N ∧ N ≤ 16)) = true := by simp [h2]
      rw [e2]
      simp only [geo_whole.j0, if_true]
      rw [if_neg (by rw [R_iff]; omega)]
  · rw [if_neg (by simpa using h1)]
    simp only [geo_whole.j0, if_true]
    rw [if_neg (by rw [R_iff]; omega)]

theorem refRight_eq (G I N : Int) : leveeref03_Right.f G I N = some (R G I N) := by
  unfold leveeref03_Right.f
  by_cases h1 : G < 16
  · rw [if_pos h1, eq_comm, Option.some.injEq, Bool.eq_false_iff]; simp only [ne_eq, R_iff]; omega
  rw [if_neg h1]
  by_cases h2 : G > 128
  · rw [if_pos h2, eq_comm, Option.some.injEq, Bool.eq_false_iff]; simp only [ne_eq, R_iff]; omega
  rw [if_neg h2]
  by_cases h3 : I < 4
  · rw [if_pos h3, eq_comm, Option.some.injEq, Bool.eq_false_iff]; simp only [ne_eq, R_iff]; omega
  rw [if_neg h3]
  by_cases h4 : I > 64
  · rw [if_pos h4, eq_comm, Option.some.injEq, Bool.eq_false_iff]; simp only [ne_eq, R_iff]; omega
  rw [if_neg h4]
  have t1 : Int.tmod I 4 = I % 4 := Int.tmod_eq_emod_of_nonneg (by omega)
  have t2 : Int.tdiv I 4 = I / 4 := Int.tdiv_eq_ediv_of_nonneg (by omega)
  rw [t1, t2]
  by_cases h5 : I % 4 = 0
  · rw [if_pos h5]
    by_cases h6 : N < 1
    · rw [if_pos h6, eq_comm, Option.some.injEq, Bool.eq_false_iff]; simp only [ne_eq, R_iff]; omega
    rw [if_neg h6]
    by_cases h7 : N > 16
    · rw [if_pos h7, eq_comm, Option.some.injEq, Bool.eq_false_iff]; simp only [ne_eq, R_iff]; omega
    rw [if_neg h7]
    have hm := mul_small (G := G) (N := N) (by omega) (by omega) (by omega) (by omega)
    rw [w64 (x := I / 4) (by omega) (by omega), w64 (x := G - 1) (by omega) (by omega), w64 (x := G - 1 - I / 4) (by omega) (by omega), w64 (x := N * G) (by omega) (by omega), w64 (x := 2 + N * G) (by omega) (by omega)]
    by_cases h8 : G - 1 - I / 4 ≥ 4
    · rw [if_pos h8, Option.some.injEq]
      by_cases h9 : 2 + N * G ≤ 4096
      · rw [decide_eq_true h9, eq_comm, R_iff]; omega
      · rw [decide_eq_false h9, eq_comm, Bool.eq_false_iff]; simp only [ne_eq, R_iff]; omega
    · rw [if_neg h8, eq_comm, Option.some.injEq, Bool.eq_false_iff]; simp only [ne_eq, R_iff]; omega
  · rw [if_neg h5, eq_comm, Option.some.injEq, Bool.eq_false_iff]; simp only [ne_eq, R_iff]; omega
theorem Right_eq (k : Nat) (G I N : Int) : geo_Right.f (k + 2) G I N = some (R G I N) := by
  unfold geo_Right.f
  rw [whole_eq, Option.bind_some]
  by_cases h : R G I N = true
  · have hr := R_iff.1 h
    rw [if_pos h]
    simp [h]; omega
  · rw [if_neg h]
    rw [Bool.not_eq_true] at h
    rw [h]
    simp
def sizeS (G I N : Int) : Int := if R G I N then 2 + N * G else 0
def slotsS (G I N : Int) : Int := if R G I N then N * I else 0
def tablesS (G I N : Int) : Int := if R G I N then I / 4 else 0
def headS (G I N k : Int) : Int × Int := if R G I N then (if k < 0 then (0, 3) else if N ≤ k then (0, 3) else (2 + k * G, 0)) else (0, 1)
def rangeS (G I N k : Int) : Int × Int := if R G I N then (if k < 0 then (0, 0) else if N ≤ k then (0, 0) else (2 + k * G + 1 + I / 4, 2 + k * G + G)) else (0, 0)
def kindS (G I N b : Int) : Int × Int :=
  if R G I N then (if b < 0 then (0, -1) else if 2 + N * G ≤ b then (0, -1) else if b < 2 then (1, -1) else if (b - 2) % G = 0 then (2, (b - 2) / G) else if (b - 2) % G ≤ I / 4 then (3, (b - 2) / G) else (4, (b - 2) / G)) else (0, -1)
def placeS (G I N s : Int) : Int × Int × Int :=
  if R G I N then (if s < 0 then (0, 0, 3) else if N * I ≤ s then (0, 0, 3) else (2 + s / I * G + 1 + s % I / 4, s % I % 4, 0)) else (0, 0, 1)
def slotS (G I N b p : Int) : Int × Int :=
  if R G I N then (if (kindS G I N b).1 = 3 then (if p < 0 then (0, 3) else if 4 ≤ p then (0, 3) else ((b - 2) / G * I + ((b - 2) % G - 1) * 4 + p, 0)) else (0, 3)) else (0, 1)
def ofS (G I N s : Int) : Int := if R G I N then (if s < 0 then -1 else if N * I ≤ s then -1 else s / I) else -1
theorem mulI_small {I N : Int} (h1 : 0 ≤ I) (h2 : I ≤ 64) (h3 : 0 ≤ N) (h4 : N ≤ 16) : 0 ≤ N * I ∧ N * I ≤ 1024 := by
  constructor
  · exact Int.mul_nonneg h3 h1
  · calc N * I ≤ 16 * I := Int.mul_le_mul_of_nonneg_right h4 h1
      _ ≤ 1024 := by omega
theorem Size_eq (k : Nat) (G I N : Int) : geo_Size.f (k + 2) G I N = some (sizeS G I N) := by
  unfold geo_Size.f sizeS
  rw [Right_eq, Option.bind_some]
  by_cases h : R G I N = true
  · have hr := R_iff.1 h
    have hm := mul_small (G := G) (N := N) (by omega) (by omega) (by omega) (by omega)
    rw [if_pos h, if_pos h, w64 (x := N * G) (by omega) (by omega), w64 (by omega) (by omega)]
  · rw [if_neg h, if_neg h]
theorem refSize_eq (G I N : Int) : leveeref03_Size.f G I N = some (sizeS G I N) := by
  unfold leveeref03_Size.f sizeS
  rw [refRight_eq, Option.bind_some]
  by_cases h : R G I N = true
  · have hr := R_iff.1 h
    have hm := mul_small (G := G) (N := N) (by omega) (by omega) (by omega) (by omega)
    rw [if_pos h, if_pos h, w64 (x := N * G) (by omega) (by omega), w64 (by omega) (by omega)]
  · rw [if_neg h, if_neg h]
theorem div_lt {s I N : Int} (hI : 0 < I) (h : s < N * I) : s / I < N := Int.ediv_lt_of_lt_mul hI h
theorem kind_three {G I N b : Int} (h : R G I N = true) (h3 : (kindS G I N b).1 = 3) : 2 ≤ b ∧ b < 2 + N * G ∧ 1 ≤ (b - 2) % G ∧ (b - 2) % G ≤ I / 4 ∧ (kindS G I N b).2 = (b - 2) / G := by
  unfold kindS at h3 ⊢
  rw [if_pos h] at h3 ⊢
  have hr := R_iff.1 h
  have he : 0 ≤ (b - 2) % G := Int.emod_nonneg _ (by omega)
  by_cases h1 : b < 0
  · rw [if_pos h1] at h3; simp at h3
  rw [if_neg h1] at h3 ⊢
  by_cases h2 : 2 + N * G ≤ b
  · rw [if_pos h2] at h3; simp at h3
  rw [if_neg h2] at h3 ⊢
  by_cases h4 : b < 2
  · rw [if_pos h4] at h3; simp at h3
  rw [if_neg h4] at h3 ⊢
  by_cases h5 : (b - 2) % G = 0
  · rw [if_pos h5] at h3; simp at h3
  rw [if_neg h5] at h3 ⊢
  by_cases h6 : (b - 2) % G ≤ I / 4
  · rw [if_pos h6] at h3 ⊢; exact ⟨by omega, by omega, by omega, h6, rfl⟩
  · rw [if_neg h6] at h3; simp at h3
/-- The greatest number of groups, up to some, that fits; 0: none. -/
def fits (G I x : Int) (n : Nat) : Bool := R G I n && decide (sizeS G I n ≤ x)
def best (G I x : Int) : Nat → Nat
  | 0 => 0
  | n + 1 => if fits G I x (n + 1) then n + 1 else best G I x n
def trip (G I : Int) (n : Nat) : Int × Int × Int := if n = 0 then (0, 0, 0) else (G, I, n)
def fitS (G I x : Int) : Int × Int × Int × Int := if best G I x 16 = 0 then (0, 0, 0, 1) else (G, I, (best G I x 16 : Nat), 0)
/-- How many of the first blocks are of each kind. -/
def cnt (G I b : Int) : List Int :=
  if b < 2 then [0, b, 0, 0, 0]
  else [0, 2, (b - 2) / G + (if (b - 2) % G = 0 then 0 else 1), (b - 2) / G * (I / 4) + (if (b - 2) % G ≤ I / 4 then (if (b - 2) % G = 0 then 0 else (b - 2) % G - 1) else I / 4), (b - 2) / G * (G - 1 - I / 4) + (if (b - 2) % G ≤ I / 4 then 0 else (b - 2) % G - 1 - I / 4)]
theorem next_div {x G : Int} (hG : 0 < G) : ((x % G + 1 < G ∧ (x + 1) / G = x / G ∧ (x + 1) % G = x % G + 1) ∨ (x % G + 1 = G ∧ (x + 1) / G = x / G + 1 ∧ (x + 1) % G = 0)) := by
  have he : 0 ≤ x % G ∧ x % G < G := ⟨Int.emod_nonneg _ (by omega), Int.emod_lt_of_pos _ (by omega)⟩
  have hd := Int.ediv_mul_add_emod x G
  by_cases h : x % G + 1 < G
  · left
    refine ⟨h, ?_⟩
    have e : x + 1 = (x % G + 1) + x / G * G := by omega
    rw [e, Int.add_mul_ediv_right _ _ (by omega), Int.add_mul_emod_self_right, Int.ediv_eq_zero_of_lt (by omega) (by omega), Int.emod_eq_of_lt (by omega) (by omega)]
    omega
  · right
    refine ⟨by omega, ?_⟩
    have e : x + 1 = 0 + (x / G + 1) * G := by rw [Int.add_mul, Int.one_mul]; omega
    rw [e, Int.add_mul_ediv_right _ _ (by omega), Int.add_mul_emod_self_right, Int.zero_ediv, Int.zero_emod]
    omega
end Go.Proofs.Ytjblkjknkemkdaa.Geo
