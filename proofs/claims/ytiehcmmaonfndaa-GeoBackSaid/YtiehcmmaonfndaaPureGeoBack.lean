/-
The plain law of GeoBack: what the printed function tells is true, whatever the numbers.
Conditions: none.
-/
import Derived.Test.YtiehcmmaonfndaaGeo
namespace Go.Proofs.Ytiehcmmaonfndaa.Pure
open Go.RowKit Go.Proofs.YtiehcmmaonfndaaW.PrintWords Go.Proofs.YtiehcmmaonfndaaW.PrintLast Go.Proofs.YtiehcmmaonfndaaW.PrintMore Go.Proofs.Ytiehcmmaonfndaa.P Go.Proofs.Ytiehcmmaonfndaa.Geo
theorem GeoBack : ∀ (a0_0 : Int) (a0_1 : Int) (a0_2 : Int) (a1 : Int), (Lit.int .i64 a0_0).wf = true → (Lit.int .i64 a0_1).wf = true → (Lit.int .i64 a0_2).wf = true → (Lit.int .i64 a1).wf = true → ∃ k, leveelaw03_GeoBack.f k a0_0 a0_1 a0_2 a1 = some true := by
  intro G I N s _ _ _ _
  refine ⟨20, ?_⟩
  unfold leveelaw03_GeoBack.f
  rw [Place_eq 18, Option.bind_some, Slot_eq 17, Option.bind_some, Kind_eq 17, Option.bind_some, Of_eq 18, Option.bind_some, known_eq 16, Option.bind_some]
  by_cases h : R G I N = true
  · have hr := R_iff.1 h
    have hm := mulI_small (I := I) (N := N) (by omega) (by omega) (by omega) (by omega)
    by_cases h1 : s < 0
    · simp [placeS, h, h1]
    by_cases h2 : N * I ≤ s
    · simp [placeS, h, h1, h2]
    have hd : 0 ≤ s / I ∧ s / I ≤ s := ⟨Int.ediv_nonneg (by omega) (by omega), Int.ediv_le_self _ (by omega)⟩
    have hl := div_lt (s := s) (I := I) (N := N) (by omega) (by omega)
    have he : 0 ≤ s % I ∧ s % I < I := ⟨Int.emod_nonneg _ (by omega), Int.emod_lt_of_pos _ (by omega)⟩
    have hg := mul_small (G := G) (N := s / I) (by omega) (by omega) (by omega) (by omega)
    have hG := mul_small (G := G) (N := N - 1) (by omega) (by omega) (by omega) (by omega)
    have hb : (2 + s / I * G + 1 + s % I / 4 - 2) / G = s / I ∧ (2 + s / I * G + 1 + s % I / 4 - 2) % G = 1 + s % I / 4 := by
      have e : 2 + s / I * G + 1 + s % I / 4 - 2 = (1 + s % I / 4) + s / I * G := by omega
      rw [e, Int.add_mul_ediv_right _ _ (by omega), Int.add_mul_emod_self_right, Int.ediv_eq_zero_of_lt (by omega) (by omega), Int.emod_eq_of_lt (by omega) (by omega)]
      omega
    have hup : s / I * G + G ≤ N * G := by
      have : (s / I + 1) * G ≤ N * G := Int.mul_le_mul_of_nonneg_right (by omega) (by omega)
      rw [Int.add_mul, Int.one_mul] at this
      exact this
    have hk : kindS G I N (2 + s / I * G + 1 + s % I / 4) = (3, s / I) := by
      unfold kindS
      rw [if_pos h, if_neg (by omega), if_neg (by omega), if_neg (by omega), hb.1, hb.2, if_neg (by omega), if_pos (by omega)]
    have hp : placeS G I N s = (2 + s / I * G + 1 + s % I / 4, s % I % 4, 0) := by
      unfold placeS
      rw [if_pos h, if_neg h1, if_neg h2]
    have hs : slotS G I N (2 + s / I * G + 1 + s % I / 4) (s % I % 4) = (s, 0) := by
      unfold slotS
      rw [if_pos h, hk, if_pos rfl, if_neg (by omega), if_neg (by omega), hb.1, hb.2]
      have := Int.ediv_mul_add_emod s I
      simp only [Prod.mk.injEq, and_true]
      omega
    have ho : ofS G I N s = s / I := by
      unfold ofS
      rw [if_pos h, if_neg h1, if_neg h2]
    rw [hp]
    simp only
    rw [hs, hk, ho]
    simp
  · have hp : placeS G I N s = (0, 0, 1) := by
      unfold placeS
      rw [if_neg h]
    rw [hp]
    simp
end Go.Proofs.Ytiehcmmaonfndaa.Pure
