/-
What the law GroupPlays calls, told by one value for the program and the reference.
Conditions: none.
-/
import Derived.Test.YtonkgfgciegknaaHandGroupLaw
import Derived.Test.YtonkgfgciegknaaHandGroup9
import Derived.Test.YtonkgfgciegknaaActs
namespace Go.Proofs.Ytonkgfgciegknaa.P
open Go.RowKit Go.Proofs.YtonkgfgciegknaaW.PrintWords Go.Proofs.YtonkgfgciegknaaW.PrintLast Go.Proofs.YtonkgfgciegknaaW.PrintMore
attribute [local go_sem] max2_int min2_int max_two min_two max_three min_three max_four min_four
set_option linter.unusedVariables false
set_option linter.unusedSimpArgs false
theorem zeros_HM : HM (zeros 16) (zeros 8) := by
  have z : ∀ n, Bits.isBytes (zeros n) := fun n v hv => by rw [List.eq_of_mem_replicate hv]; exact ⟨by decide, by decide⟩
  exact ⟨zeros_maps, z _, z _⟩
theorem useB_ok (G I N no : Int) (bl sl : List Int) (i : Int) (on : Bool) (h : HM bl sl) : HM (useBP G I N no bl sl i on).2.1 (useBP G I N no bl sl i on).2.2.1 ∧ ((useBP G I N no bl sl i on).2.2.2 = 0 → (useBP G I N no bl sl i on).1 = no) := by
  unfold useBP
  split
  · split
    · exact ⟨zeros_HM, fun h => absurd h (by decide)⟩
    · exact ⟨⟨set_maps_b h.maps _ _, Bits.setS_bytes _ h.bytes _ _ (by have q := mayP_zero (by assumption); have g := Geo.R_iff.mp (rightP_R q.1); have := h.maps.1; omega), h.bytes2⟩, fun _ => rfl⟩
  · rename_i hz
    exact ⟨zeros_HM, fun h => absurd h hz⟩
theorem useS_ok (G I N no : Int) (bl sl : List Int) (i : Int) (on : Bool) (h : HM bl sl) : HM (useSP G I N no bl sl i on).2.1 (useSP G I N no bl sl i on).2.2.1 ∧ ((useSP G I N no bl sl i on).2.2.2 = 0 → (useSP G I N no bl sl i on).1 = no) := by
  unfold useSP
  generalize (if no = 0 then (2 : Int) else 0) = z
  split
  · split
    · exact ⟨zeros_HM, fun h => absurd h (by decide)⟩
    · exact ⟨⟨set_maps_s h.maps _ _, h.bytes, Bits.setS_bytes _ h.bytes2 _ _ (by have q := mayP_zero (by assumption); have g := Geo.R_iff.mp (rightP_R q.1); have := h.maps.2; omega)⟩, fun _ => rfl⟩
  · rename_i hz
    exact ⟨zeros_HM, fun h => absurd h hz⟩
theorem cell_lt {w : World} {p : Addr} {v : Value} (h : w.cell? p = some v) : p.block < w.heap.size := by
  by_cases hb : p.block < w.heap.size
  · exact hb
  · unfold World.cell? at h
    rw [Array.getElem?_eq_none (by omega)] at h
    simp at h
theorem ActsAt.below {w w1 : World} {A : Option Addr} {l : List (Int × Int × Bool)} (h : ActsAt w A l) (hb : Below w.heap.size w w1) : ActsAt w1 A l := by
  intro i hi
  obtain ⟨a, rfl, h0, h1, h2⟩ := h i hi
  exact ⟨a, rfl, (hb.cell (cell_lt h0)).trans h0, (hb.cell (cell_lt h1)).trans h1, (hb.cell (cell_lt h2)).trans h2⟩
end Go.Proofs.Ytonkgfgciegknaa.P
