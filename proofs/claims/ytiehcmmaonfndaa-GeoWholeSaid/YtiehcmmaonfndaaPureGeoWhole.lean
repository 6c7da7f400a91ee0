/-
The plain law of GeoWhole: what the printed function tells is true, whatever the numbers.
Conditions: none.
-/
import Derived.Test.YtiehcmmaonfndaaGeo
namespace Go.Proofs.Ytiehcmmaonfndaa.Pure
open Go.RowKit Go.Proofs.YtiehcmmaonfndaaW.PrintWords Go.Proofs.YtiehcmmaonfndaaW.PrintLast Go.Proofs.YtiehcmmaonfndaaW.PrintMore Go.Proofs.Ytiehcmmaonfndaa.P Go.Proofs.Ytiehcmmaonfndaa.Geo
theorem GeoWhole : ∀ (a0_0 : Int) (a0_1 : Int) (a0_2 : Int), (Lit.int .i64 a0_0).wf = true → (Lit.int .i64 a0_1).wf = true → (Lit.int .i64 a0_2).wf = true → ∃ k, leveelaw03_GeoWhole.f k a0_0 a0_1 a0_2 = some true := by
  intro G I N _ _ _
  refine ⟨3000, ?_⟩
  unfold leveelaw03_GeoWhole.f
  rw [refRight_eq, Option.bind_some, Right_eq 2998, Option.bind_some, known_eq 2996, Option.bind_some]
  by_cases h : R G I N = true
  · have hr := R_iff.1 h
    have hm := mul_small (G := G) (N := N) (by omega) (by omega) (by omega) (by omega)
    rw [if_pos h, if_pos (by omega)]
    have := Whole_loop G I N h (2 + N * G).toNat 3000 0 (by omega) (by omega) (by omega)
    exact this
  · rw [if_neg h, if_neg h]
end Go.Proofs.Ytiehcmmaonfndaa.Pure
