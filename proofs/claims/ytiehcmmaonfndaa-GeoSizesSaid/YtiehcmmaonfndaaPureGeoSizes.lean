/-
The plain law of GeoSizes: what the printed function tells is true, whatever the numbers.
Conditions: none.
-/
import Derived.Test.YtiehcmmaonfndaaGeo
namespace Go.Proofs.Ytiehcmmaonfndaa.Pure
open Go.RowKit Go.Proofs.YtiehcmmaonfndaaW.PrintWords Go.Proofs.YtiehcmmaonfndaaW.PrintLast Go.Proofs.YtiehcmmaonfndaaW.PrintMore Go.Proofs.Ytiehcmmaonfndaa.P Go.Proofs.Ytiehcmmaonfndaa.Geo
theorem GeoSizes : ∀ (a0_0 : Int) (a0_1 : Int) (a0_2 : Int) (a1 : Int) (a2 : Int), (Lit.int .i64 a0_0).wf = true → (Lit.int .i64 a0_1).wf = true → (Lit.int .i64 a0_2).wf = true → (Lit.int .i64 a1).wf = true → (Lit.int .i64 a2).wf = true → ∃ k, leveelaw03_GeoSizes.f k a0_0 a0_1 a0_2 a1 a2 = some true := by
  intro G I N x y _ _ _ _ _
  refine ⟨20, ?_⟩
  unfold leveelaw03_GeoSizes.f
  rw [Head_eq 18, refHead_eq, Range_eq 18, refRange_eq, Fit_eq 1, refFit_eq 3, Right_eq 18, refRight_eq, Size_eq 18, refSize_eq, Slots_eq 18, refSlots_eq, Tables_eq 18, refTables_eq, known_eq 16]
  simp
end Go.Proofs.Ytiehcmmaonfndaa.Pure
