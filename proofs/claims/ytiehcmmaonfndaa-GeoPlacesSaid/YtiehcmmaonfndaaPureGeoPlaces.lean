/-
The plain law of GeoPlaces: what the printed function tells is true, whatever the numbers.
Conditions: none.
-/
import Derived.Test.YtiehcmmaonfndaaGeo
namespace Go.Proofs.Ytiehcmmaonfndaa.Pure
open Go.RowKit Go.Proofs.YtiehcmmaonfndaaW.PrintWords Go.Proofs.YtiehcmmaonfndaaW.PrintLast Go.Proofs.YtiehcmmaonfndaaW.PrintMore Go.Proofs.Ytiehcmmaonfndaa.P Go.Proofs.Ytiehcmmaonfndaa.Geo
theorem GeoPlaces : ∀ (a0_0 : Int) (a0_1 : Int) (a0_2 : Int) (a1 : Int) (a2 : Int) (a3 : Int), (Lit.int .i64 a0_0).wf = true → (Lit.int .i64 a0_1).wf = true → (Lit.int .i64 a0_2).wf = true → (Lit.int .i64 a1).wf = true → (Lit.int .i64 a2).wf = true → (Lit.int .i64 a3).wf = true → ∃ k, leveelaw03_GeoPlaces.f k a0_0 a0_1 a0_2 a1 a2 a3 = some true := by
  intro G I N s b p _ _ _ _ _ _
  refine ⟨20, ?_⟩
  unfold leveelaw03_GeoPlaces.f
  rw [Place_eq 18, refPlace_eq, Slot_eq 17, refSlot_eq 19, Kind_eq 17, refKind_eq 19, Of_eq 18, refOf_eq, known_eq 16]
  simp
end Go.Proofs.Ytiehcmmaonfndaa.Pure
