/-
Plain laws on the shapes of volumes: what the printed functions of packages geo and leveeref03 tell, as one function each.
Conditions: none.
-/
import Derived.Test.YtiehcmmaonfndaaPx
namespace Go.Proofs.Ytiehcmmaonfndaa.Geo
open Go.RowKit Go.Proofs.YtiehcmmaonfndaaW.PrintWords Go.Proofs.YtiehcmmaonfndaaW.PrintLast Go.Proofs.YtiehcmmaonfndaaW.PrintMore Go.Proofs.Ytiehcmmaonfndaa.P
/-- Whether a shape can be. -/
def R (G I N : Int) : Bool := decide (16 ≤ G ∧ G ≤ 128 ∧ 4 ≤ I ∧ I ≤ 64 ∧ I % 4 = 0 ∧ 1 ≤ N ∧ N ≤ 16 ∧ 4 ≤ G - 1 - I / 4 ∧ 2 + N * G ≤ 4096)
theorem R_iff {G I N : Int} : R G I N = true ↔ 16 ≤ G ∧ G ≤ 128 ∧ 4 ≤ I ∧ I ≤ 64 ∧ I % 4 = 0 ∧ 1 ≤ N ∧ N ≤ 16 ∧ 4 ≤ G - 1 - I / 4 ∧ 2 + N * G ≤ 4096 := by simp [R]
theorem within_eq (a b c : Int) : geo_within.f a b c = some (decide (b ≤ a ∧ a ≤ c)) := by
  unfold geo_within.f
  by_cases h : a ≥ b
  · rw [if_pos h]; simp only [Option.some.injEq, decide_eq_decide]; omega
  · rw [if_neg h]; simp only [Option.some.injEq]; symm; rw [decide_eq_false_iff_not]; omega
theorem mul_small {G N : Int} (h1 : 0 ≤ G) (h2 : G ≤ 128) (h3 : 0 ≤ N) (h4 : N ≤ 16) : 0 ≤ N * G ∧ N * G ≤ 2048 := by
  constructor
  · exact Int.mul_nonneg h3 h1
  · calc N * G ≤ 16 * G := Int.mul_le_mul_of_nonneg_right h4 h1
      _ ≤ 2048 := by omega
theorem w64 {x : Int} (h0 : -9223372036854775808 ≤ x) (h1 : x ≤ 9223372036854775807) : wrap64 x = x := by unfold wrap64; omega
theorem whole_eq (k : Nat) (G I N : Int) : geo_whole.f (k + 2) G I N = some (if R G I N then (G, I, N) else (0, 0, 0)) := by
  unfold geo_whole.f
  simp only [within_eq, Option.bind_some]
  by_cases h1 : 16 ≤ G ∧ G ≤ 128
  · rw [if_pos (by simpa using h1)]
    by_cases h2 : 1 ≤ N ∧ N ≤ 16
    · have e2 : (!decide (1 ≤ N ∧ N ≤ 16)) = false := by simp [h2]
      rw [e2]
      simp only [geo_whole.j0, within_eq, Option.bind_some, Bool.false_eq_true, if_false]
      by_cases h3 : 4 ≤ I ∧ I ≤ 64
      · rw [if_pos (by simpa using h3)]
        have t1 : Int.tmod I 4 = I % 4 := Int.tmod_eq_emod_of_nonneg (by omega)
        have t2 : Int.tdiv I 4 = I / 4 := Int.tdiv_eq_ediv_of_nonneg (by omega)
        have hm := mul_small (G := G) (N := N) (by omega) (by omega) (by omega) (by omega)
        simp only [geo_whole.j1, t1, t2]
        rw [w64 (x := I / 4) (by omega) (by omega), w64 (x := G - 1) (by omega) (by omega), w64 (x := G - 1 - I / 4) (by omega) (by omega), w64 (x := N * G) (by omega) (by omega), w64 (x := 2 + N * G) (by omega) (by omega)]
        by_cases h4 : I % 4 = 0
        · rw [if_neg (by simp [h4])]
          by_cases h5 : G - 1 - I / 4 < 4
          · rw [if_pos h5, if_neg (by rw [R_iff]; omega)]
          · rw [if_neg h5]
            by_cases h6 : 2 + N * G > 4096
            · rw [if_pos h6, if_neg (by rw [R_iff]; omega)]
            · rw [if_neg h6, if_pos (by rw [R_iff]; omega)]
        · rw [if_pos (by simp [h4]), if_neg (by rw [R_iff]; omega)]
      · rw [if_neg (by simpa using h3)]
        simp only [geo_whole.j1, if_true]
        rw [if_neg (by rw [R_iff]; omega)]
    · have e2 : (!decide (1 ≤ N ∧ N ≤ 16)) = true := by simp [h2]
      rw [e2]
      simp only [geo_whole.j0, if_true]
      rw [if_neg (by rw [R_iff]; omega)]
  · rw [if_neg (by simpa using h1)]
    simp only [geo_whole.j0, if_true]
    rw [if_neg (by rw [R_iff]; omega)]

theorem refRight_eq (G I N : Int) : leveeref03_Right.f G I N = some (R G I N) := by
  unfold leveeref03_Right.f
  by_cases h1 : G < 16
  · rw [if_pos h1, eq_comm, Option.some.injEq, Bool.eq_false_iff]; simp only [ne_eq, R_iff]; omega
  rw [if_neg h1]
  by_cases h2 : G > 128
  · rw [if_pos h2, eq_comm, Option.some.injEq, Bool.eq_false_iff]; simp only [ne_eq, R_iff]; omega
  rw [if_neg h2]
  by_cases h3 : I < 4
  · rw [if_pos h3, eq_comm, Option.some.injEq, Bool.eq_false_iff]; simp only [ne_eq, R_iff]; omega
  rw [if_neg h3]
  by_cases h4 : I > 64
  · rw [if_pos h4, eq_comm, Option.some.injEq, Bool.eq_false_iff]; simp only [ne_eq, R_iff]; omega
  rw [if_neg h4]
  have t1 : Int.tmod I 4 = I % 4 := Int.tmod_eq_emod_of_nonneg (by omega)
  have t2 : Int.tdiv I 4 = I / 4 := Int.tdiv_eq_ediv_of_nonneg (by omega)
  rw [t1, t2]
  by_cases h5 : I % 4 = 0
  · rw [if_pos h5]
    by_cases h6 : N < 1
    · rw [if_pos h6, eq_comm, Option.some.injEq, Bool.eq_false_iff]; simp only [ne_eq, R_iff]; omega
    rw [if_neg h6]
    by_cases h7 : N > 16
    · rw [if_pos h7, eq_comm, Option.some.injEq, Bool.eq_false_iff]; simp only [ne_eq, R_iff]; omega
    rw [if_neg h7]
    have hm := mul_small (G := G) (N := N) (by omega) (by omega) (by omega) (by omega)
    rw [w64 (x := I / 4) (by omega) (by omega), w64 (x := G - 1) (by omega) (by omega), w64 (x := G - 1 - I / 4) (by omega) (by omega), w64 (x := N * G) (by omega) (by omega), w64 (x := 2 + N * G) (by omega) (by omega)]
    by_cases h8 : G - 1 - I / 4 ≥ 4
    · rw [if_pos h8, Option.some.injEq]
      by_cases h9 : 2 + N * G ≤ 4096
      · rw [decide_eq_true h9, eq_comm, R_iff]; omega
      · rw [decide_eq_false h9, eq_comm, Bool.eq_false_iff]; simp only [ne_eq, R_iff]; omega
    · rw [if_neg h8, eq_comm, Option.some.injEq, Bool.eq_false_iff]; simp only [ne_eq, R_iff]; omega
  · rw [if_neg h5, eq_comm, Option.some.injEq, Bool.eq_false_iff]; simp only [ne_eq, R_iff]; omega
theorem Right_eq (k : Nat) (G I N : Int) : geo_Right.f (k + 2) G I N = some (R G I N) := by
  unfold geo_Right.f
  rw [whole_eq, Option.bind_some]
  by_cases h : R G I N = true
  · have hr := R_iff.1 h
    rw [if_pos h]
    simp [h]; omega
  · rw [if_neg h]
    rw [Bool.not_eq_true] at h
    rw [h]
    simp
def sizeS (G I N : Int) : Int := if R G I N then 2 + N * G else 0
def slotsS (G I N : Int) : Int := if R G I N then N * I else 0
def tablesS (G I N : Int) : Int := if R G I N then I / 4 else 0
def headS (G I N k : Int) : Int × Int := if R G I N then (if k < 0 then (0, 3) else if N ≤ k then (0, 3) else (2 + k * G, 0)) else (0, 1)
def rangeS (G I N k : Int) : Int × Int := if R G I N then (if k < 0 then (0, 0) else if N ≤ k then (0, 0) else (2 + k * G + 1 + I / 4, 2 + k * G + G)) else (0, 0)
def kindS (G I N b : Int) : Int × Int :=
  if R G I N then (if b < 0 then (0, -1) else if 2 + N * G ≤ b then (0, -1) else if b < 2 then (1, -1) else if (b - 2) % G = 0 then (2, (b - 2) / G) else if (b - 2) % G ≤ I / 4 then (3, (b - 2) / G) else (4, (b - 2) / G)) else (0, -1)
def placeS (G I N s : Int) : Int × Int × Int :=
  if R G I N then (if s < 0 then (0, 0, 3) else if N * I ≤ s then (0, 0, 3) else (2 + s / I * G + 1 + s % I / 4, s % I % 4, 0)) else (0, 0, 1)
def slotS (G I N b p : Int) : Int × Int :=
  if R G I N then (if (kindS G I N b).1 = 3 then (if p < 0 then (0, 3) else if 4 ≤ p then (0, 3) else ((b - 2) / G * I + ((b - 2) % G - 1) * 4 + p, 0)) else (0, 3)) else (0, 1)
def ofS (G I N s : Int) : Int := if R G I N then (if s < 0 then -1 else if N * I ≤ s then -1 else s / I) else -1
theorem mulI_small {I N : Int} (h1 : 0 ≤ I) (h2 : I ≤ 64) (h3 : 0 ≤ N) (h4 : N ≤ 16) : 0 ≤ N * I ∧ N * I ≤ 1024 := by
  constructor
  · exact Int.mul_nonneg h3 h1
  · calc N * I ≤ 16 * I := Int.mul_le_mul_of_nonneg_right h4 h1
      _ ≤ 1024 := by omega
theorem Size_eq (k : Nat) (G I N : Int) : geo_Size.f (k + 2) G I N = some (sizeS G I N) := by
  unfold geo_Size.f sizeS
  rw [Right_eq, Option.bind_some]
  by_cases h : R G I N = true
  · have hr := R_iff.1 h
    have hm := mul_small (G := G) (N := N) (by omega) (by omega) (by omega) (by omega)
    rw [if_pos h, if_pos h, w64 (x := N * G) (by omega) (by omega), w64 (by omega) (by omega)]
  · rw [if_neg h, if_neg h]
theorem refSize_eq (G I N : Int) : leveeref03_Size.f G I N = some (sizeS G I N) := by
  unfold leveeref03_Size.f sizeS
  rw [refRight_eq, Option.bind_some]
  by_cases h : R G I N = true
  · have hr := R_iff.1 h
    have hm := mul_small (G := G) (N := N) (by omega) (by omega) (by omega) (by omega)
    rw [if_pos h, if_pos h, w64 (x := N * G) (by omega) (by omega), w64 (by omega) (by omega)]
  · rw [if_neg h, if_neg h]
theorem Slots_eq (k : Nat) (G I N : Int) : geo_Slots.f (k + 2) G I N = some (slotsS G I N) := by
  unfold geo_Slots.f slotsS
  rw [whole_eq, Option.bind_some]
  by_cases h : R G I N = true
  · have hr := R_iff.1 h
    have hm := mulI_small (I := I) (N := N) (by omega) (by omega) (by omega) (by omega)
    rw [if_pos h, if_pos h]
    simp only
    rw [w64 (by omega) (by omega)]
  · rw [if_neg h, if_neg h]
    simp [wrap64]
theorem refSlots_eq (G I N : Int) : leveeref03_Slots.f G I N = some (slotsS G I N) := by
  unfold leveeref03_Slots.f slotsS
  rw [refRight_eq, Option.bind_some]
  by_cases h : R G I N = true
  · have hr := R_iff.1 h
    have hm := mulI_small (I := I) (N := N) (by omega) (by omega) (by omega) (by omega)
    rw [if_pos h, if_pos h, w64 (by omega) (by omega)]
  · rw [if_neg h, if_neg h]
theorem Tables_eq (k : Nat) (G I N : Int) : geo_Tables.f (k + 2) G I N = some (tablesS G I N) := by
  unfold geo_Tables.f tablesS
  rw [whole_eq, Option.bind_some]
  by_cases h : R G I N = true
  · have hr := R_iff.1 h
    rw [if_pos h, if_pos h, if_neg (by simp; omega), Int.tdiv_eq_ediv_of_nonneg (by omega), w64 (by omega) (by omega)]
  · rw [if_neg h, if_neg h]
    rfl
theorem refTables_eq (G I N : Int) : leveeref03_Tables.f G I N = some (tablesS G I N) := by
  unfold leveeref03_Tables.f tablesS
  rw [refRight_eq, Option.bind_some]
  by_cases h : R G I N = true
  · have hr := R_iff.1 h
    rw [if_pos h, if_pos h, Int.tdiv_eq_ediv_of_nonneg (by omega), w64 (by omega) (by omega)]
  · rw [if_neg h, if_neg h]
theorem Head_eq (k : Nat) (G I N x : Int) : geo_Head.f (k + 2) G I N x = some (headS G I N x) := by
  unfold geo_Head.f headS
  rw [Right_eq, Option.bind_some]
  by_cases h : R G I N = true
  · have hr := R_iff.1 h
    rw [if_pos h, if_pos h]
    by_cases h1 : x < 0
    · rw [if_pos h1, if_pos h1]
    rw [if_neg h1, if_neg h1]
    by_cases h2 : N ≤ x
    · rw [if_pos h2, if_pos h2]
    rw [if_neg h2, if_neg h2]
    have hm := mul_small (G := G) (N := x) (by omega) (by omega) (by omega) (by omega)
    rw [w64 (x := x * G) (by omega) (by omega), w64 (by omega) (by omega)]
  · rw [if_neg h, if_neg h]
theorem refHead_eq (G I N x : Int) : leveeref03_Head.f G I N x = some (headS G I N x) := by
  unfold leveeref03_Head.f headS
  rw [refRight_eq, Option.bind_some]
  by_cases h : R G I N = true
  · have hr := R_iff.1 h
    rw [if_pos h, if_pos h]
    by_cases h1 : x < 0
    · rw [if_pos h1, if_pos h1]
    rw [if_neg h1, if_neg h1]
    by_cases h2 : N ≤ x
    · rw [if_pos h2, if_pos h2]
    rw [if_neg h2, if_neg h2]
    have hm := mul_small (G := G) (N := x) (by omega) (by omega) (by omega) (by omega)
    rw [w64 (x := x * G) (by omega) (by omega), w64 (by omega) (by omega)]
  · rw [if_neg h, if_neg h]
theorem Range_eq (k : Nat) (G I N x : Int) : geo_Range.f (k + 2) G I N x = some (rangeS G I N x) := by
  unfold geo_Range.f
  rw [Head_eq, Option.bind_some, Tables_eq, Option.bind_some]
  unfold rangeS headS tablesS
  by_cases h : R G I N = true
  · have hr := R_iff.1 h
    rw [if_pos h, if_pos h, if_pos h]
    by_cases h1 : x < 0
    · rw [if_pos h1, if_pos h1]; rfl
    rw [if_neg h1, if_neg h1]
    by_cases h2 : N ≤ x
    · rw [if_pos h2, if_pos h2]; rfl
    rw [if_neg h2, if_neg h2]
    have hm := mul_small (G := G) (N := x) (by omega) (by omega) (by omega) (by omega)
    simp only [if_true]
    rw [w64 (x := 2 + x * G + 1) (by omega) (by omega), w64 (by omega) (by omega), w64 (by omega) (by omega)]
  · rw [if_neg h, if_neg h, if_neg h]; rfl
theorem refRange_eq (G I N x : Int) : leveeref03_Range.f G I N x = some (rangeS G I N x) := by
  unfold leveeref03_Range.f rangeS
  rw [refRight_eq, Option.bind_some]
  by_cases h : R G I N = true
  · have hr := R_iff.1 h
    rw [if_pos h, if_pos h]
    by_cases h1 : x < 0
    · rw [if_pos h1, if_pos h1]
    rw [if_neg h1, if_neg h1]
    by_cases h2 : N ≤ x
    · rw [if_pos h2, if_pos h2]
    rw [if_neg h2, if_neg h2]
    have hm := mul_small (G := G) (N := x) (by omega) (by omega) (by omega) (by omega)
    have hd : (x + 1) * G = x * G + G := by rw [Int.add_mul, Int.one_mul]
    rw [Int.tdiv_eq_ediv_of_nonneg (by omega), w64 (x := x * G) (by omega) (by omega), w64 (x := 2 + x * G) (by omega) (by omega), w64 (x := 2 + x * G + 1) (by omega) (by omega), w64 (x := I / 4) (by omega) (by omega), w64 (x := 2 + x * G + 1 + I / 4) (by omega) (by omega), w64 (x := x + 1) (by omega) (by omega), hd, w64 (x := x * G + G) (by omega) (by omega), w64 (by omega) (by omega), Int.add_assoc 2 (x * G) G]
  · rw [if_neg h, if_neg h]
theorem Kind_eq (k : Nat) (G I N b : Int) : geo_Kind.f (k + 3) G I N b = some (kindS G I N b) := by
  unfold geo_Kind.f kindS
  by_cases h : R G I N = true
  · have hr := R_iff.1 h
    have hm := mul_small (G := G) (N := N) (by omega) (by omega) (by omega) (by omega)
    rw [if_pos h]
    by_cases h1 : b < 0
    · rw [if_pos h1, if_pos h1]; simp [geo_Kind.j0]
    rw [if_neg h1, if_neg h1, Size_eq, Option.bind_some]
    unfold sizeS
    rw [if_pos h]
    simp only [geo_Kind.j0, Tables_eq, Option.bind_some]
    by_cases h2 : 2 + N * G ≤ b
    · rw [if_pos h2, if_pos (by simpa using h2)]
    rw [if_neg h2, if_neg (by simpa using h2)]
    by_cases h3 : b < 2
    · rw [if_pos h3, if_pos h3]
    rw [if_neg h3, if_neg h3, if_neg (by omega)]
    unfold tablesS
    rw [if_pos h, w64 (x := b - 2) (by omega) (by omega), Int.tmod_eq_emod_of_nonneg (by omega), Int.tdiv_eq_ediv_of_nonneg (by omega)]
    have hd : 0 ≤ (b - 2) / G ∧ (b - 2) / G ≤ b - 2 := ⟨Int.ediv_nonneg (by omega) (by omega), Int.ediv_le_self _ (by omega)⟩
    rw [w64 (x := (b - 2) / G) (by omega) (by omega)]
    by_cases h4 : (b - 2) % G = 0
    · rw [if_pos h4, if_pos h4]
    rw [if_neg h4, if_neg h4]
    by_cases h5 : (b - 2) % G ≤ I / 4
    · rw [if_pos h5, if_pos h5]
    rw [if_neg h5, if_neg h5]
  · rw [if_neg h]
    by_cases h1 : b < 0
    · rw [if_pos h1]; simp [geo_Kind.j0]
    · rw [if_neg h1, Size_eq, Option.bind_some]
      unfold sizeS
      rw [if_neg h]
      simp only [geo_Kind.j0]
      rw [if_pos (by simp; omega)]
theorem refKind_eq (k : Nat) (G I N b : Int) : leveeref03_Kind.f (k + 1) G I N b = some (kindS G I N b) := by
  unfold leveeref03_Kind.f kindS
  rw [refRight_eq, Option.bind_some]
  by_cases h : R G I N = true
  · have hr := R_iff.1 h
    have hm := mul_small (G := G) (N := N) (by omega) (by omega) (by omega) (by omega)
    rw [if_pos h, if_pos h]
    by_cases h1 : b < 0
    · rw [if_pos h1, if_pos h1]; simp [leveeref03_Kind.j0]
    rw [if_neg h1, if_neg h1, refSize_eq, Option.bind_some]
    unfold sizeS
    rw [if_pos h]
    simp only [leveeref03_Kind.j0]
    by_cases h2 : 2 + N * G ≤ b
    · rw [if_pos h2, if_pos (by simpa using h2)]
    rw [if_neg h2, if_neg (by simpa using h2)]
    by_cases h3 : b < 2
    · rw [if_pos h3, if_pos h3]
    rw [if_neg h3, if_neg h3, if_neg (by omega)]
    rw [w64 (x := b - 2) (by omega) (by omega), Int.tmod_eq_emod_of_nonneg (by omega), Int.tdiv_eq_ediv_of_nonneg (by omega), Int.tdiv_eq_ediv_of_nonneg (by omega)]
    have hd : 0 ≤ (b - 2) / G ∧ (b - 2) / G ≤ b - 2 := ⟨Int.ediv_nonneg (by omega) (by omega), Int.ediv_le_self _ (by omega)⟩
    rw [w64 (x := (b - 2) / G) (by omega) (by omega), w64 (x := I / 4) (by omega) (by omega)]
    by_cases h4 : (b - 2) % G = 0
    · rw [if_pos h4, if_pos h4]
    rw [if_neg h4, if_neg h4]
    by_cases h5 : (b - 2) % G ≤ I / 4
    · rw [if_pos h5, if_pos h5]
    rw [if_neg h5, if_neg h5]
  · rw [if_neg h, if_neg h]
    simp [leveeref03_Kind.j0]
theorem Of_eq (k : Nat) (G I N s : Int) : geo_Of.f (k + 2) G I N s = some (ofS G I N s) := by
  unfold geo_Of.f ofS
  rw [Slots_eq, Option.bind_some]
  unfold slotsS
  by_cases h : R G I N = true
  · have hr := R_iff.1 h
    have hm := mulI_small (I := I) (N := N) (by omega) (by omega) (by omega) (by omega)
    rw [if_pos h, if_pos h]
    by_cases h1 : s < 0
    · rw [if_pos h1, if_pos h1]
    rw [if_neg h1, if_neg h1]
    by_cases h2 : N * I ≤ s
    · rw [if_pos h2, if_pos h2]
    have hd : 0 ≤ s / I ∧ s / I ≤ s := ⟨Int.ediv_nonneg (by omega) (by omega), Int.ediv_le_self _ (by omega)⟩
    rw [if_neg h2, if_neg h2, if_neg (by omega), Int.tdiv_eq_ediv_of_nonneg (by omega), w64 (by omega) (by omega)]
  · rw [if_neg h, if_neg h]
    by_cases h1 : s < 0
    · rw [if_pos h1]
    · rw [if_neg h1, if_pos (by omega)]
theorem refOf_eq (G I N s : Int) : leveeref03_Of.f G I N s = some (ofS G I N s) := by
  unfold leveeref03_Of.f ofS
  rw [refRight_eq, Option.bind_some, refSlots_eq, Option.bind_some]
  unfold slotsS
  by_cases h : R G I N = true
  · have hr := R_iff.1 h
    have hm := mulI_small (I := I) (N := N) (by omega) (by omega) (by omega) (by omega)
    rw [if_pos h, if_pos h, if_pos h]
    by_cases h1 : s < 0
    · rw [if_pos h1, if_pos h1]
    rw [if_neg h1, if_neg h1]
    by_cases h2 : N * I ≤ s
    · rw [if_pos h2, if_pos h2]
    have hd : 0 ≤ s / I ∧ s / I ≤ s := ⟨Int.ediv_nonneg (by omega) (by omega), Int.ediv_le_self _ (by omega)⟩
    rw [if_neg h2, if_neg h2, if_neg (by omega), Int.tdiv_eq_ediv_of_nonneg (by omega), w64 (by omega) (by omega)]
  · rw [if_neg h, if_neg h]

theorem div_lt {s I N : Int} (hI : 0 < I) (h : s < N * I) : s / I < N := Int.ediv_lt_of_lt_mul hI h
theorem Place_eq (k : Nat) (G I N s : Int) : geo_Place.f (k + 2) G I N s = some (placeS G I N s) := by
  unfold geo_Place.f placeS
  rw [Right_eq, Option.bind_some, Slots_eq, Option.bind_some]
  unfold slotsS
  by_cases h : R G I N = true
  · have hr := R_iff.1 h
    have hm := mulI_small (I := I) (N := N) (by omega) (by omega) (by omega) (by omega)
    rw [if_pos h, if_pos h, if_pos h]
    by_cases h1 : s < 0
    · rw [if_pos h1, if_pos h1]
    rw [if_neg h1, if_neg h1]
    by_cases h2 : N * I ≤ s
    · rw [if_pos h2, if_pos h2]
    have hd : 0 ≤ s / I ∧ s / I ≤ s := ⟨Int.ediv_nonneg (by omega) (by omega), Int.ediv_le_self _ (by omega)⟩
    have hl := div_lt (s := s) (I := I) (N := N) (by omega) (by omega)
    have he : 0 ≤ s % I ∧ s % I < I := ⟨Int.emod_nonneg _ (by omega), Int.emod_lt_of_pos _ (by omega)⟩
    have hg := mul_small (G := G) (N := s / I) (by omega) (by omega) (by omega) (by omega)
    rw [if_neg h2, if_neg h2, if_neg (by omega), Int.tdiv_eq_ediv_of_nonneg (by omega), w64 (x := s / I) (by omega) (by omega), Head_eq, Option.bind_some]
    unfold headS
    rw [if_pos h, if_neg (by omega), if_neg (by omega), Int.tmod_eq_emod_of_nonneg (by omega), Int.tdiv_eq_ediv_of_nonneg (by omega), Int.tmod_eq_emod_of_nonneg (by omega)]
    simp only
    rw [w64 (x := 2 + s / I * G + 1) (by omega) (by omega), w64 (x := s % I / 4) (by omega) (by omega), w64 (by omega) (by omega)]
  · rw [if_neg h, if_neg h]
theorem refPlace_eq (G I N s : Int) : leveeref03_Place.f G I N s = some (placeS G I N s) := by
  unfold leveeref03_Place.f placeS
  rw [refRight_eq, Option.bind_some, refSlots_eq, Option.bind_some]
  unfold slotsS
  by_cases h : R G I N = true
  · have hr := R_iff.1 h
    have hm := mulI_small (I := I) (N := N) (by omega) (by omega) (by omega) (by omega)
    rw [if_pos h, if_pos h, if_pos h]
    by_cases h1 : s < 0
    · rw [if_pos h1, if_pos h1]
    rw [if_neg h1, if_neg h1]
    by_cases h2 : N * I ≤ s
    · rw [if_pos h2, if_pos h2]
    have hd : 0 ≤ s / I ∧ s / I ≤ s := ⟨Int.ediv_nonneg (by omega) (by omega), Int.ediv_le_self _ (by omega)⟩
    have hl := div_lt (s := s) (I := I) (N := N) (by omega) (by omega)
    have he : 0 ≤ s % I ∧ s % I < I := ⟨Int.emod_nonneg _ (by omega), Int.emod_lt_of_pos _ (by omega)⟩
    have hg := mul_small (G := G) (N := s / I) (by omega) (by omega) (by omega) (by omega)
    rw [if_neg h2, if_neg h2, if_neg (by omega), Int.tdiv_eq_ediv_of_nonneg (by omega), w64 (x := s / I) (by omega) (by omega), w64 (x := s / I * G) (by omega) (by omega), w64 (x := 2 + s / I * G) (by omega) (by omega)]
    rw [Int.tmod_eq_emod_of_nonneg (by omega), Int.tdiv_eq_ediv_of_nonneg (by omega), Int.tmod_eq_emod_of_nonneg (by omega)]
    rw [w64 (x := 2 + s / I * G + 1) (by omega) (by omega), w64 (x := s % I / 4) (by omega) (by omega), w64 (by omega) (by omega)]
  · rw [if_neg h, if_neg h]
theorem kind_three {G I N b : Int} (h : R G I N = true) (h3 : (kindS G I N b).1 = 3) : 2 ≤ b ∧ b < 2 + N * G ∧ 1 ≤ (b - 2) % G ∧ (b - 2) % G ≤ I / 4 ∧ (kindS G I N b).2 = (b - 2) / G := by
  unfold kindS at h3 ⊢
  rw [if_pos h] at h3 ⊢
  have hr := R_iff.1 h
  have he : 0 ≤ (b - 2) % G := Int.emod_nonneg _ (by omega)
  by_cases h1 : b < 0
  · rw [if_pos h1] at h3; simp at h3
  rw [if_neg h1] at h3 ⊢
  by_cases h2 : 2 + N * G ≤ b
  · rw [if_pos h2] at h3; simp at h3
  rw [if_neg h2] at h3 ⊢
  by_cases h4 : b < 2
  · rw [if_pos h4] at h3; simp at h3
  rw [if_neg h4] at h3 ⊢
  by_cases h5 : (b - 2) % G = 0
  · rw [if_pos h5] at h3; simp at h3
  rw [if_neg h5] at h3 ⊢
  by_cases h6 : (b - 2) % G ≤ I / 4
  · rw [if_pos h6] at h3 ⊢; exact ⟨by omega, by omega, by omega, h6, rfl⟩
  · rw [if_neg h6] at h3; simp at h3
theorem Slot_eq (k : Nat) (G I N b p : Int) : geo_Slot.f (k + 3) G I N b p = some (slotS G I N b p) := by
  unfold geo_Slot.f slotS
  rw [Right_eq (k + 1), Option.bind_some, Kind_eq, Option.bind_some]
  by_cases h : R G I N = true
  · have hr := R_iff.1 h
    rw [if_pos h, if_pos h]
    by_cases h1 : (kindS G I N b).1 = 3
    · rw [if_pos h1, if_pos h1]
      obtain ⟨b1, b2, b3, b4, b5⟩ := kind_three h h1
      by_cases h2 : p < 0
      · rw [if_pos h2, if_pos h2]
      rw [if_neg h2, if_neg h2]
      by_cases h3 : 4 ≤ p
      · rw [if_pos h3, if_pos h3]
      rw [if_neg h3, if_neg h3, b5, Head_eq (k + 1), Option.bind_some]
      have hd : 0 ≤ (b - 2) / G := Int.ediv_nonneg (by omega) (by omega)
      have hl := div_lt (s := b - 2) (I := G) (N := N) (by omega) (by omega)
      have hg := mul_small (G := G) (N := (b - 2) / G) (by omega) (by omega) (by omega) (by omega)
      have hi := mulI_small (I := I) (N := (b - 2) / G) (by omega) (by omega) (by omega) (by omega)
      have hdm := Int.ediv_mul_add_emod (b - 2) G
      unfold headS
      rw [if_pos h, if_neg (by omega), if_neg (by omega)]
      simp only
      rw [w64 (x := (b - 2) / G * I) (by omega) (by omega), w64 (x := b - (2 + (b - 2) / G * G)) (by omega) (by omega), show b - (2 + (b - 2) / G * G) = (b - 2) % G by omega, w64 (x := (b - 2) % G - 1) (by omega) (by omega), w64 (x := ((b - 2) % G - 1) * 4) (by omega) (by omega), w64 (x := (b - 2) / G * I + ((b - 2) % G - 1) * 4) (by omega) (by omega), w64 (by omega) (by omega)]
    · rw [if_neg h1, if_neg h1]
  · rw [if_neg h, if_neg h]
theorem refSlot_eq (k : Nat) (G I N b p : Int) : leveeref03_Slot.f (k + 1) G I N b p = some (slotS G I N b p) := by
  unfold leveeref03_Slot.f slotS
  rw [refRight_eq, Option.bind_some, refKind_eq, Option.bind_some]
  by_cases h : R G I N = true
  · have hr := R_iff.1 h
    rw [if_pos h, if_pos h]
    by_cases h1 : (kindS G I N b).1 = 3
    · rw [if_pos h1, if_pos h1]
      obtain ⟨b1, b2, b3, b4, b5⟩ := kind_three h h1
      by_cases h2 : p < 0
      · rw [if_pos h2, if_pos h2]
      rw [if_neg h2, if_neg h2]
      by_cases h3 : 4 ≤ p
      · rw [if_pos (by omega), if_pos h3]
      rw [if_neg (by omega), if_neg h3, if_neg (by omega), b5]
      have hd : 0 ≤ (b - 2) / G := Int.ediv_nonneg (by omega) (by omega)
      have hl := div_lt (s := b - 2) (I := G) (N := N) (by omega) (by omega)
      have hi := mulI_small (I := I) (N := (b - 2) / G) (by omega) (by omega) (by omega) (by omega)
      have hm := mul_small (G := G) (N := N) (by omega) (by omega) (by omega) (by omega)
      rw [w64 (x := b - 2) (by omega) (by omega), Int.tmod_eq_emod_of_nonneg (by omega), w64 (x := (b - 2) / G * I) (by omega) (by omega), w64 (x := (b - 2) % G - 1) (by omega) (by omega), w64 (x := ((b - 2) % G - 1) * 4) (by omega) (by omega), w64 (x := (b - 2) / G * I + ((b - 2) % G - 1) * 4) (by omega) (by omega), w64 (by omega) (by omega)]
    · rw [if_neg h1, if_neg h1]
  · rw [if_neg h, if_neg h]
/-- The greatest number of groups, up to some, that fits; 0: none. -/
def fits (G I x : Int) (n : Nat) : Bool := R G I n && decide (sizeS G I n ≤ x)
def best (G I x : Int) : Nat → Nat
  | 0 => 0
  | n + 1 => if fits G I x (n + 1) then n + 1 else best G I x n
def trip (G I : Int) (n : Nat) : Int × Int × Int := if n = 0 then (0, 0, 0) else (G, I, n)
def fitS (G I x : Int) : Int × Int × Int × Int := if best G I x 16 = 0 then (0, 0, 0, 1) else (G, I, (best G I x 16 : Nat), 0)
theorem Fit_loop (G I x : Int) : ∀ (d i : Nat) (k : Nat) (N : Int), i + d = 16 → d + 3 ≤ k →
    geo_Fit.l0 k x i G I N (trip G I (best G I x i)).1 (trip G I (best G I x i)).2.1 (trip G I (best G I x i)).2.2 = some (fitS G I x) := by
  intro d
  induction d with
  | zero =>
    intro i k N hi hk
    obtain rfl : i = 16 := by omega
    obtain ⟨k, rfl⟩ : ∃ m, k = m + 1 := ⟨k - 1, by omega⟩
    simp only [geo_Fit.l0]
    rw [if_neg (by omega)]
    unfold fitS trip
    by_cases h : best G I x 16 = 0
    · rw [if_pos h, if_pos h]; simp
    · rw [if_neg h, if_neg h, if_neg (by simp; omega)]
  | succ d ih =>
    intro i k N hi hk
    obtain ⟨j, rfl⟩ : ∃ m, k = m + 1 := ⟨k - 1, by omega⟩
    have hr := Right_eq (j - 2) G I ((i : Int) + 1)
    have hs := Size_eq (j - 2) G I ((i : Int) + 1)
    rw [Nat.sub_add_cancel (by omega)] at hr hs
    simp only [geo_Fit.l0]
    rw [if_pos (by omega), w64 (x := (i : Int) + 1) (by omega) (by omega), hr, Option.bind_some]
    have hb : best G I x (i + 1) = if fits G I x (i + 1) then i + 1 else best G I x i := rfl
    by_cases h : R G I ((i : Int) + 1) = true
    · rw [if_pos h, hs, Option.bind_some]
      by_cases h2 : sizeS G I ((i : Int) + 1) ≤ x
      · rw [if_pos h2]
        have hf : fits G I x (i + 1) = true := by simp [fits, h, h2]
        rw [if_pos hf] at hb
        have := ih (i + 1) j ((i : Int) + 1) (by omega) (by omega)
        rw [hb] at this
        simp only [trip, Nat.add_eq_zero_iff, Nat.one_ne_zero, and_false, if_false] at this
        simpa using this
      · rw [if_neg h2]
        have hf : ¬ fits G I x (i + 1) = true := by simp [fits, h2]
        rw [if_neg hf] at hb
        have := ih (i + 1) j ((i : Int) + 1) (by omega) (by omega)
        rw [hb] at this
        simpa using this
    · rw [if_neg h]
      have hf : ¬ fits G I x (i + 1) = true := by simp [fits, h]
      rw [if_neg hf] at hb
      have := ih (i + 1) j ((i : Int) + 1) (by omega) (by omega)
      rw [hb] at this
      simpa using this
theorem Fit_eq (k : Nat) (G I N x : Int) : geo_Fit.f (k + 19) G I N x = some (fitS G I x) := by
  unfold geo_Fit.f
  exact Fit_loop G I x 16 0 (k + 19) N (by omega) (by omega)
theorem refFit_loop (G I x : Int) : ∀ (n : Nat) (k : Nat) (N : Int), n ≤ 16 → n + 1 ≤ k → leveeref03_Fit.l0 k x n G I N = some (if best G I x n = 0 then (0, 0, 0, 1) else (G, I, ((best G I x n : Nat) : Int), 0)) := by
  intro n
  induction n with
  | zero =>
    intro k N _ hk
    obtain ⟨k, rfl⟩ : ∃ m, k = m + 1 := ⟨k - 1, by omega⟩
    simp only [leveeref03_Fit.l0]
    rw [if_neg (by omega)]
    rfl
  | succ n ih =>
    intro k N hn hk
    obtain ⟨k, rfl⟩ : ∃ m, k = m + 1 := ⟨k - 1, by omega⟩
    have hb : best G I x (n + 1) = if fits G I x (n + 1) then n + 1 else best G I x n := rfl
    have hp : ((n + 1 : Nat) : Int) - 1 = (n : Int) := by omega
    simp only [leveeref03_Fit.l0]
    rw [if_pos (by omega), refRight_eq, Option.bind_some]
    by_cases h : R G I ((n + 1 : Nat) : Int) = true
    · rw [if_pos h, refSize_eq, Option.bind_some]
      by_cases h2 : sizeS G I ((n + 1 : Nat) : Int) ≤ x
      · have hf : fits G I x (n + 1) = true := by unfold fits; rw [h, decide_eq_true h2]; rfl
        rw [if_pos h2, hb, if_pos hf, if_neg (by omega)]
      · have hf : ¬ fits G I x (n + 1) = true := by unfold fits; rw [decide_eq_false h2]; simp
        rw [if_neg h2, hb, if_neg hf, hp, w64 (by omega) (by omega)]
        exact ih k N (by omega) (by omega)
    · have hf : ¬ fits G I x (n + 1) = true := by unfold fits; rw [Bool.eq_false_iff.2 h]; simp
      rw [if_neg h, hb, if_neg hf, hp, w64 (by omega) (by omega)]
      exact ih k N (by omega) (by omega)
theorem refFit_eq (k : Nat) (G I N x : Int) : leveeref03_Fit.f (k + 17) G I N x = some (fitS G I x) := by
  unfold leveeref03_Fit.f
  exact refFit_loop G I x 16 (k + 17) N (by omega) (by omega)
theorem known_eq (k : Nat) : leveelaw03_known.f (k + 4) = some true := by
  unfold leveelaw03_known.f
  rw [Head_eq (k + 2), Option.bind_some, Place_eq (k + 2), Option.bind_some, Range_eq (k + 2), Option.bind_some, Kind_eq (k + 1), Option.bind_some, Right_eq (k + 2), Option.bind_some, Size_eq (k + 2), Option.bind_some, Slots_eq (k + 2), Option.bind_some]
  decide
/-- How many of the first blocks are of each kind. -/
def cnt (G I b : Int) : List Int :=
  if b < 2 then [0, b, 0, 0, 0]
  else [0, 2, (b - 2) / G + (if (b - 2) % G = 0 then 0 else 1), (b - 2) / G * (I / 4) + (if (b - 2) % G ≤ I / 4 then (if (b - 2) % G = 0 then 0 else (b - 2) % G - 1) else I / 4), (b - 2) / G * (G - 1 - I / 4) + (if (b - 2) % G ≤ I / 4 then 0 else (b - 2) % G - 1 - I / 4)]
theorem next_div {x G : Int} (hG : 0 < G) : ((x % G + 1 < G ∧ (x + 1) / G = x / G ∧ (x + 1) % G = x % G + 1) ∨ (x % G + 1 = G ∧ (x + 1) / G = x / G + 1 ∧ (x + 1) % G = 0)) := by
  have he : 0 ≤ x % G ∧ x % G < G := ⟨Int.emod_nonneg _ (by omega), Int.emod_lt_of_pos _ (by omega)⟩
  have hd := Int.ediv_mul_add_emod x G
  by_cases h : x % G + 1 < G
  · left
    refine ⟨h, ?_⟩
    have e : x + 1 = (x % G + 1) + x / G * G := by omega
    rw [e, Int.add_mul_ediv_right _ _ (by omega), Int.add_mul_emod_self_right, Int.ediv_eq_zero_of_lt (by omega) (by omega), Int.emod_eq_of_lt (by omega) (by omega)]
    omega
  · right
    refine ⟨by omega, ?_⟩
    have e : x + 1 = 0 + (x / G + 1) * G := by rw [Int.add_mul, Int.one_mul]; omega
    rw [e, Int.add_mul_ediv_right _ _ (by omega), Int.add_mul_emod_self_right, Int.zero_ediv, Int.zero_emod]
    omega
theorem Whole_loop (G I N : Int) (h : R G I N = true) : ∀ (d : Nat) (k : Nat) (b : Int), 0 ≤ b → b + d = 2 + N * G → d + 6 ≤ k →
    leveelaw03_GeoWhole.l0 k (cnt G I b) b G I N = some true := by
  have hr := R_iff.1 h
  have hm := mul_small (G := G) (N := N) (by omega) (by omega) (by omega) (by omega)
  have hmI := mulI_small (I := I) (N := N) (by omega) (by omega) (by omega) (by omega)
  have hT : 4 * (N * (I / 4)) = N * I := by
    have : I = 4 * (I / 4) := by omega
    conv => rhs; rw [this, Int.mul_left_comm]
  intro d
  induction d with
  | zero =>
    intro k b _ hb hk
    obtain ⟨j, rfl⟩ : ∃ m, k = m + 1 := ⟨k - 1, by omega⟩
    have e1 := Size_eq (j - 2) G I N
    have e2 := Slots_eq (j - 2) G I N
    have e3 := Tables_eq (j - 2) G I N
    have e4 := known_eq (j - 4)
    rw [Nat.sub_add_cancel (by omega)] at e1 e2 e3 e4
    obtain rfl : b = 2 + N * G := by omega
    have hc : cnt G I (2 + N * G) = [0, 2, N, N * (I / 4), N * (G - 1 - I / 4)] := by
      unfold cnt
      rw [if_neg (by omega), show 2 + N * G - 2 = 0 + N * G by omega, Int.add_mul_ediv_right _ _ (by omega), Int.add_mul_emod_self_right, Int.zero_ediv, Int.zero_emod, if_pos rfl, if_pos (by omega), if_pos rfl, if_pos (by omega)]
      simp
    have hp : 0 ≤ N * (G - 1 - I / 4) ∧ N * (G - 1 - I / 4) ≤ 2048 := mul_small (by omega) (by omega) (by omega) (by omega)
    rw [hc]
    simp only [leveelaw03_GeoWhole.l0]
    rw [e1, Option.bind_some, e2, Option.bind_some, e3, Option.bind_some, e4, Option.bind_some]
    unfold sizeS slotsS tablesS
    rw [if_pos h, if_pos h, if_pos h, if_neg (by omega)]
    have r1 : ∀ x y z u v : Int, rd [x, y, z, u, v] 1 = y := fun _ _ _ _ _ => rfl
    have r2 : ∀ x y z u v : Int, rd [x, y, z, u, v] 2 = z := fun _ _ _ _ _ => rfl
    have r3 : ∀ x y z u v : Int, rd [x, y, z, u, v] 3 = u := fun _ _ _ _ _ => rfl
    have r4 : ∀ x y z u v : Int, rd [x, y, z, u, v] 4 = v := fun _ _ _ _ _ => rfl
    rw [r1, r2, r3, r4, hT, w64 (x := N * I) (by omega) (by omega), w64 (x := G - 1) (by omega) (by omega), w64 (x := G - 1 - I / 4) (by omega) (by omega), w64 (x := N * (G - 1 - I / 4)) (by omega) (by omega)]
    simp
  | succ d ih =>
    intro k b h0 hb hk
    obtain ⟨j, rfl⟩ : ∃ m, k = m + 1 := ⟨k - 1, by omega⟩
    have e1 := Size_eq (j - 2) G I N
    have e2 := Kind_eq (j - 3) G I N b
    have e3 := fun x => Range_eq (j - 2) G I N x
    rw [Nat.sub_add_cancel (by omega)] at e1 e2 e3
    have hs : sizeS G I N = 2 + N * G := by unfold sizeS; rw [if_pos h]
    have hn := ih j (b + 1) (by omega) (by omega) (by omega)
    have hw : wrap64 (b + 1) = b + 1 := w64 (by omega) (by omega)
    simp only [leveelaw03_GeoWhole.l0]
    rw [e1, Option.bind_some, hs, if_pos (by omega), e2, Option.bind_some, hw]
    by_cases hb2 : b < 2
    · have hk : kindS G I N b = (1, -1) := by unfold kindS; rw [if_pos h, if_neg (by omega), if_neg (by omega), if_pos hb2]
      have hg : rangeS G I N (-1) = (0, 0) := by unfold rangeS; rw [if_pos h, if_pos (by omega)]
      have hc : cnt G I b = [0, b, 0, 0, 0] := by unfold cnt; rw [if_pos hb2]
      have hc1 : cnt G I (b + 1) = [0, b + 1, 0, 0, 0] := by
        unfold cnt
        by_cases h1 : b + 1 < 2
        · rw [if_pos h1]
        · obtain rfl : b = 1 := by omega
          rw [if_neg (by omega)]
          simp
          omega
      rw [hk, hc]
      simp only [e3, hg, Option.bind_some]
      have hset : ([0, b, 0, 0, 0] : List Int).set (1 : Int).toNat (wrap64 (rd [0, b, 0, 0, 0] 1 + 1)) = cnt G I (b + 1) := by
        rw [hc1, show rd [0, b, 0, 0, 0] 1 = b from rfl, hw]; rfl
      rw [hset]
      rw [if_neg (by omega), if_neg (by omega), if_pos (by omega), if_pos (by simp), if_pos (by omega), if_neg (by simp; omega)]
      exact hn
    · have hx : 0 ≤ b - 2 := by omega
      have he : 0 ≤ (b - 2) % G ∧ (b - 2) % G < G := ⟨Int.emod_nonneg _ (by omega), Int.emod_lt_of_pos _ (by omega)⟩
      have hd0 : 0 ≤ (b - 2) / G := Int.ediv_nonneg (by omega) (by omega)
      have hl := div_lt (s := b - 2) (I := G) (N := N) (by omega) (by omega)
      have hdm := Int.ediv_mul_add_emod (b - 2) G
      have hg : rangeS G I N ((b - 2) / G) = (2 + (b - 2) / G * G + 1 + I / 4, 2 + (b - 2) / G * G + G) := by
        unfold rangeS; rw [if_pos h, if_neg (by omega), if_neg (by omega)]
      have hq1 := mul_small (G := I / 4) (N := (b - 2) / G) (by omega) (by omega) (by omega) (by omega)
      have hq2 := mul_small (G := G - 1 - I / 4) (N := (b - 2) / G) (by omega) (by omega) (by omega) (by omega)
      have hc : cnt G I b = [0, 2, (b - 2) / G + (if (b - 2) % G = 0 then 0 else 1), (b - 2) / G * (I / 4) + (if (b - 2) % G ≤ I / 4 then (if (b - 2) % G = 0 then 0 else (b - 2) % G - 1) else I / 4), (b - 2) / G * (G - 1 - I / 4) + (if (b - 2) % G ≤ I / 4 then 0 else (b - 2) % G - 1 - I / 4)] := by
        unfold cnt; rw [if_neg hb2]
      have hc1 : cnt G I (b + 1) = [0, 2, (b - 2 + 1) / G + (if (b - 2 + 1) % G = 0 then 0 else 1), (b - 2 + 1) / G * (I / 4) + (if (b - 2 + 1) % G ≤ I / 4 then (if (b - 2 + 1) % G = 0 then 0 else (b - 2 + 1) % G - 1) else I / 4), (b - 2 + 1) / G * (G - 1 - I / 4) + (if (b - 2 + 1) % G ≤ I / 4 then 0 else (b - 2 + 1) % G - 1 - I / 4)] := by
        unfold cnt; rw [if_neg (by omega), show b + 1 - 2 = b - 2 + 1 by omega]
      obtain ⟨q, hq⟩ : ∃ q, q = (b - 2) / G := ⟨_, rfl⟩
      obtain ⟨r, hrr⟩ : ∃ r, r = (b - 2) % G := ⟨_, rfl⟩
      have hnx := next_div (x := b - 2) (G := G) (by omega)
      rw [← hq, ← hrr] at hnx
      rw [← hq, ← hrr] at hc hdm
      rw [← hq] at hg hl hd0 hq1 hq2
      rw [← hrr] at he
      have f1 : (q + 1) * (I / 4) = q * (I / 4) + I / 4 := by rw [Int.add_mul, Int.one_mul]
      have f2 : (q + 1) * (G - 1 - I / 4) = q * (G - 1 - I / 4) + (G - 1 - I / 4) := by rw [Int.add_mul, Int.one_mul]
      by_cases h1 : r = 0
      · have hk : kindS G I N b = (2, q) := by
          unfold kindS; rw [if_pos h, if_neg (by omega), if_neg (by omega), if_neg hb2, ← hrr, if_pos h1, hq]
        rw [if_pos h1, if_pos (by omega), if_pos h1, if_pos (by omega)] at hc
        have hset : (cnt G I b).set (2 : Int).toNat (wrap64 (rd (cnt G I b) 2 + 1)) = cnt G I (b + 1) := by
          rw [hc, hc1, show ∀ x y z u v : Int, rd [x, y, z, u, v] 2 = z from fun _ _ _ _ _ => rfl, w64 (by omega) (by omega)]
          rcases hnx with ⟨n1, n2, n3⟩ | ⟨n1, n2, n3⟩
          · rw [n2, n3, if_neg (by omega), if_pos (by omega), if_neg (by omega), if_pos (by omega)]
            simp [List.set]; omega
          · omega
        rw [hk]
        simp only [e3, hg, Option.bind_some]
        rw [hset, if_neg (by omega), if_neg (by omega), if_pos (by omega), if_pos (by rw [hc]; simp)]
        rw [if_neg (by omega), if_neg (by simp)]
        exact hn
      · by_cases h2 : r ≤ I / 4
        · have hk : kindS G I N b = (3, q) := by
            unfold kindS; rw [if_pos h, if_neg (by omega), if_neg (by omega), if_neg hb2, ← hrr, if_neg h1, if_pos h2, hq]
          rw [if_neg h1, if_pos h2, if_neg h1, if_pos h2] at hc
          have hset : (cnt G I b).set (3 : Int).toNat (wrap64 (rd (cnt G I b) 3 + 1)) = cnt G I (b + 1) := by
            rw [hc, hc1, show ∀ x y z u v : Int, rd [x, y, z, u, v] 3 = u from fun _ _ _ _ _ => rfl, w64 (by omega) (by omega)]
            rcases hnx with ⟨n1, n2, n3⟩ | ⟨n1, n2, n3⟩
            · rw [n2, n3, if_neg (by omega)]
              by_cases h3 : r + 1 ≤ I / 4
              · rw [if_pos h3, if_neg (by omega), if_pos h3]; simp [List.set]; omega
              · rw [if_neg h3, if_neg h3]; simp [List.set]; omega
            · omega
          rw [hk]
          simp only [e3, hg, Option.bind_some]
          rw [hset, if_neg (by omega), if_neg (by omega), if_pos (by omega), if_pos (by rw [hc]; simp)]
          rw [if_neg (by omega), if_neg (by simp)]
          exact hn
        · have hk : kindS G I N b = (4, q) := by
            unfold kindS; rw [if_pos h, if_neg (by omega), if_neg (by omega), if_neg hb2, ← hrr, if_neg h1, if_neg h2, hq]
          rw [if_neg h1, if_neg h2, if_neg h2] at hc
          have hset : (cnt G I b).set (4 : Int).toNat (wrap64 (rd (cnt G I b) 4 + 1)) = cnt G I (b + 1) := by
            rw [hc, hc1, show ∀ x y z u v : Int, rd [x, y, z, u, v] 4 = v from fun _ _ _ _ _ => rfl, w64 (by omega) (by omega)]
            rcases hnx with ⟨n1, n2, n3⟩ | ⟨n1, n2, n3⟩
            · rw [n2, n3, if_neg (by omega), if_neg (by omega), if_neg (by omega)]
              simp [List.set]; omega
            · rw [n2, n3, if_pos rfl, if_pos (by omega), if_pos rfl, if_pos (by omega), f1, f2]
              simp [List.set]; omega
          rw [hk]
          simp only [e3, hg, Option.bind_some]
          rw [hset, if_neg (by omega), if_neg (by omega), if_pos (by omega), if_pos (by rw [hc]; simp)]
          rw [if_pos (by omega), if_neg (by simp; omega)]
          exact hn
end Go.Proofs.Ytiehcmmaonfndaa.Geo
