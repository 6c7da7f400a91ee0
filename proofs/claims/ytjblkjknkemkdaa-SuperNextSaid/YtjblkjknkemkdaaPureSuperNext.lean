/-
The plain law of SuperNext: what the walked function tells is true, whatever the superblock, the shape, the place and the byte.
Conditions: none.
-/
import Derived.Test.YtjblkjknkemkdaaSuper
import Derived.Test.YtjblkjknkemkdaaHandSuperNext
namespace Go.Proofs.Ytjblkjknkemkdaa.Pure
open Go.RowKit Go.Proofs.YtjblkjknkemkdaaW.PrintWords Go.Proofs.YtjblkjknkemkdaaW.PrintLast Go.Proofs.YtjblkjknkemkdaaW.PrintMore Go.Proofs.Ytjblkjknkemkdaa.P Go.Proofs.Ytjblkjknkemkdaa.Num Go.Proofs.Ytjblkjknkemkdaa.Plain Go.Proofs.Ytjblkjknkemkdaa.Super
theorem size_range (G I N : Int) : 0 ≤ Geo.sizeS G I N ∧ Geo.sizeS G I N ≤ 4096 := by
  unfold Geo.sizeS
  by_cases h : Geo.R G I N = true
  · have hr := Geo.R_iff.mp h
    have hm := Geo.mul_small (G := G) (N := N) (by omega) (by omega) (by omega) (by omega)
    rw [if_pos h]
    omega
  · rw [if_neg h]
    omega
theorem SuperNext : ∀ (a0_0 : Int) (a0_1 : Int) (a0_2 : Int) (a0_3 : Int) (a1_0 : Int) (a1_1 : Int) (a1_2 : Int) (a2 : Int) (a3 : Int), (Lit.int .i64 a0_0).wf = true → (Lit.int .i64 a0_1).wf = true → (Lit.int .i64 a0_2).wf = true → (Lit.int .i64 a0_3).wf = true → (Lit.int .i64 a1_0).wf = true → (Lit.int .i64 a1_1).wf = true → (Lit.int .i64 a1_2).wf = true → (Lit.int .i64 a2).wf = true → (Lit.int .u8 a3).wf = true → ∃ k, leveelaw04_SuperNext.f k a0_0 a0_1 a0_2 a0_3 a1_0 a1_1 a1_2 a2 a3 = some true := by
  intro a b c d e f g n x _ _ _ _ _ _ _ _ hx
  have hx' : 0 ≤ x ∧ x < 256 := isBytes_of_wf (l := [x]) (by intro y hy; rw [List.mem_singleton.mp hy]; exact hx) x (List.mem_singleton.mpr rfl)
  refine ⟨4000, ?_⟩
  have hk := known_eq 4000 (by decide)
  unfold leveelaw04_SuperNext.f
  rw [sNext_eq _ (by decide), Option.bind_some]
  unfold nextS
  by_cases h : RS a b c d = true ∧ a ≠ 4611686018427387904 ∧ Geo.R e f g = true
  · rw [if_pos h]
    obtain ⟨h1, h2, h3⟩ := h
    have hs := RS_iff.mp h1
    have ht : RS (a + 1) e f g = true := RS_iff.mpr ⟨by omega, by omega, h3⟩
    dsimp only
    unfold snextR
    rw [if_pos rfl]
    have e1 : Int.tmod (a + 1) 2 = (a + 1) % 2 := Int.tmod_eq_emod_of_nonneg (by omega)
    have e2 : Int.tmod a 2 = a % 2 := Int.tmod_eq_emod_of_nonneg (by omega)
    have hp : Int.tmod (a + 1) 2 = 0 ∨ Int.tmod (a + 1) 2 = 1 := by omega
    have hc : leveeref01_Count.f (Int.tmod (a + 1) 2) 2 = some (Int.tmod (a + 1) 2) := by
      rcases hp with hp | hp <;> rw [hp] <;> decide
    rw [if_pos ⟨by rw [sRight_eq _ (by decide), h1], by rw [sRight_eq _ (by decide), ht], hc, hp⟩, Geo.refSize_eq, Option.bind_some, Geo.refSize_eq, Option.bind_some]
    have z1 := size_range e f g
    have z2 := size_range b c d
    have hw : wrap64 (Geo.sizeS e f g + Geo.sizeS b c d) = Geo.sizeS e f g + Geo.sizeS b c d := w64 (by omega) (by omega)
    rw [hw]
    obtain ⟨q, hq, hq0, hq1⟩ := Count_eq n 256 (by decide) (by decide)
    rw [hq, Option.bind_some]
    obtain ⟨j, rfl⟩ := Int.eq_ofNat_of_zero_le hq0
    have hl := full_length (a + 1) e f g
    have gs := get_full h1
    have gt := get_full ht
    have bs := full_bytes a b c d
    have bt := full_bytes (a + 1) e f g
    have bt' := set_bytes bt j x hx'
    rw [superL_eq, superL_eq]
    have hA : ∀ M, (Geo.sizeS e f g ≤ M) → ∀ b0, b0 < a + 1 → goodS (a + 1, e, f, g, 0) (Int.tmod (a + 1) 2) M b0 = true := fun M hM b0 hb0 => goodS_iff.mpr ⟨rfl, rfl, hM, hb0⟩
    have hB : ∀ M i, (Geo.sizeS b c d ≤ M) → Int.tmod a 2 = i → goodS (a, b, c, d, 0) i M 0 = true := fun M i hM hi => goodS_iff.mpr ⟨rfl, hi, hM, by dsimp only; omega⟩
    have hrd : rd (full (a + 1) e f g) (j : Int) = (full (a + 1) e f g)[j]'(by rw [hl]; omega) := rd_eq _ j (by rw [hl]; omega)
    have hT : (full (a + 1) e f g)[j]'(by rw [hl]; omega) ≠ x → ∀ i M b0, goodS (getF ((full (a + 1) e f g).set j x)) i M b0 = false := by
      intro hne i M b0
      rw [Bool.eq_false_iff]
      intro hg
      have h0 := (goodS_iff.mp hg).1
      rcases turned (a + 1) e f g j x (by omega) hx' hne with h8 | h7
      · rw [h8] at h0; cases h0
      · rw [h7] at h0; cases h0
    rcases hp with hp | hp
    · rw [hp] at hA ⊢
      have ha : Int.tmod a 2 = 1 := by omega
      have hC : super_Choose.f 4000 (full (a + 1) e f g) (full a b c d) (Geo.sizeS e f g + Geo.sizeS b c d) = some (a + 1, e, f, g, 0, 0) := by
        rw [sChoose_eq _ (by decide) _ _ bt bs, gs, gt]
        unfold chooseS
        rw [if_pos (hA _ (by omega) 0 (by omega)), if_neg (by intro hg; have := (goodS_iff.mp hg).2.2.2; dsimp only at this; omega)]
      simp only [if_true]
      rw [if_pos ⟨hC, hq0, hq1⟩, hrd, Int.toNat_natCast]
      by_cases hne : (full (a + 1) e f g)[j]'(by rw [hl]; omega) = x
      · rw [if_pos hne, hk]
      · have hC2 : super_Choose.f 4000 ((full (a + 1) e f g).set j x) (full a b c d) (Geo.sizeS e f g + Geo.sizeS b c d) = some (a, b, c, d, 1 - 0, 0) := by
          rw [sChoose_eq _ (by decide) _ _ bt' bs, gs]
          unfold chooseS
          rw [hT hne, if_neg (by decide), if_pos (hB _ 1 (by omega) ha)]
          rfl
        rw [if_neg hne, if_pos hC2, hk]
    · rw [hp] at hA ⊢
      have ha : Int.tmod a 2 = 0 := by omega
      have hC : super_Choose.f 4000 (full a b c d) (full (a + 1) e f g) (Geo.sizeS e f g + Geo.sizeS b c d) = some (a + 1, e, f, g, 1, 0) := by
        rw [sChoose_eq _ (by decide) _ _ bs bt, gs, gt]
        unfold chooseS
        rw [if_pos (hB _ 0 (by omega) ha), if_pos (hA _ (by omega) a (by omega))]
      simp only [if_neg (show ¬ (1 : Int) = 0 by decide)]
      rw [if_pos ⟨hC, hq0, hq1⟩, hrd, Int.toNat_natCast]
      by_cases hne : (full (a + 1) e f g)[j]'(by rw [hl]; omega) = x
      · rw [if_pos hne, hk]
      · have hC2 : super_Choose.f 4000 (full a b c d) ((full (a + 1) e f g).set j x) (Geo.sizeS e f g + Geo.sizeS b c d) = some (a, b, c, d, 1 - 1, 0) := by
          rw [sChoose_eq _ (by decide) _ _ bs bt', gs]
          unfold chooseS
          rw [if_pos (hB _ 0 (by omega) ha), hT hne, if_neg (by decide)]
          rfl
        rw [if_neg hne, if_pos hC2, hk]
  · rw [if_neg h]
    dsimp only
    unfold snextR
    rw [if_neg (by decide), hk]
end Go.Proofs.Ytjblkjknkemkdaa.Pure
