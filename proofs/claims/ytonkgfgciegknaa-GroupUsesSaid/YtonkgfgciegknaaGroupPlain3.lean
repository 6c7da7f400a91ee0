/-
Package group's plain laws, third part: what is found can be used, and given again all is as it was.
Conditions: none.
-/
import Derived.Test.YtonkgfgciegknaaHandGroup9
namespace Go.Proofs.Ytonkgfgciegknaa.P
open Go.RowKit Go.Proofs.YtonkgfgciegknaaW.PrintWords Go.Proofs.YtonkgfgciegknaaW.PrintLast Go.Proofs.YtonkgfgciegknaaW.PrintMore
attribute [local go_sem] max2_int min2_int max_two min_two max_three min_three max_four min_four
set_option linter.unusedVariables false
set_option linter.unusedSimpArgs false
open Bits (bitS bitZ isBytes setS cnt mostS firstS fromS nx nx_some nx_none orElse setS_length setS_bytes setS_bit cnt_le cnt_all)
theorem first_spec (g : Nat → Bool) (m f : Nat) : (∃ j : Nat, firstS g m f = (j : Int) ∧ j < m ∧ g j = false) ∨ (firstS g m f = -1 ∧ ∀ i, i < m → g i = true) := by
  unfold firstS
  cases h1 : nx g f (m - f) with
  | some j =>
    have := nx_some g _ _ _ h1
    exact .inl ⟨j, rfl, by omega, this.2.2⟩
  | none =>
    cases h2 : nx g 0 (min m f) with
    | some j =>
      have := nx_some g _ _ _ h2
      exact .inl ⟨j, rfl, by omega, this.2.2⟩
    | none =>
      refine .inr ⟨rfl, fun i hi => ?_⟩
      by_cases hf : f ≤ i
      · exact nx_none g _ _ h1 i hf (by omega)
      · exact nx_none g _ _ h2 i (by omega) (by omega)
theorem cnt_full (g : Nat → Bool) : ∀ m, (∀ i, i < m → g i = true) → cnt g m = m
  | 0, _ => rfl
  | m + 1, h => by
    rw [cnt, cnt_full g m (fun i hi => h i (by omega)), h m (by omega), if_pos rfl]
theorem cnt_less (g : Nat → Bool) (m j : Nat) (hj : j < m) (h : g j = false) : cnt g m < m := by
  have h1 := cnt_le g m
  by_cases he : cnt g m = m
  · have := cnt_all g m he j hj
    rw [h] at this; cases this
  · omega
theorem cnt_on (g g' : Nat → Bool) (i : Nat) (hg : g i = false) (hg' : ∀ j, g' j = if j = i then true else g j) : ∀ m, cnt g' m = cnt g m + (if i < m then 1 else 0)
  | 0 => by simp [cnt]
  | m + 1 => by
    rw [cnt, cnt, cnt_on g g' i hg hg' m, hg' m]
    by_cases he : m = i
    · subst he
      simp [hg]
    · rw [if_neg he]
      have e : (if i < m + 1 then 1 else 0 : Nat) = (if i < m then 1 else 0) := by
        by_cases hi : i < m
        · rw [if_pos hi, if_pos (by omega)]
        · rw [if_neg hi, if_neg (by omega)]
      rw [e]
      omega
theorem put_back : ∀ (y : Fin 256) (j : Fin 8), y.val / 2 ^ j.val % 2 = 0 → bitPut (bitPut (y.val : Int) (shl .u8 1 (j.val : Int)) true) (shl .u8 1 (j.val : Int)) false = (y.val : Int) := by decide +kernel
theorem set_back (l : List Int) (hb : isBytes l) (i : Nat) (hi : i < 8 * l.length) (h : bitS l i = false) : setS (setS l i true) i false = l := by
  have hk : i / 8 < l.length := by omega
  obtain ⟨y, hy⟩ := Bits.byte_at hb hi
  have hbit : bitS l i = (y.val / 2 ^ (i % 8) % 2 == 1) := by
    unfold bitS
    rw [decide_eq_true hi, hy]
    simp
  rw [hbit] at h
  have h0 : y.val / 2 ^ (i % 8) % 2 = 0 := by
    have := Nat.mod_lt (y.val / 2 ^ (i % 8)) (show 0 < 2 by decide)
    have h1 : ¬ (y.val / 2 ^ (i % 8) % 2 = 1) := fun e => by rw [e] at h; simp at h
    omega
  have hp := put_back y ⟨i % 8, by omega⟩ h0
  simp only at hp
  have hr : rd (setS l i true) ((i / 8 : Nat) : Int) = bitPut (y.val : Int) (shl .u8 1 ((i % 8 : Nat) : Int)) true := by
    rw [Bits.setS_rd l i i true hi hi, if_pos rfl, hy]
  have hl : l[i / 8]'hk = (y.val : Int) := by rw [← Bits.rd_eq l _ hk, hy]
  show (setS l i true).set (i / 8) (bitPut (rd (setS l i true) ((i / 8 : Nat) : Int)) (shl .u8 1 ((i % 8 : Nat) : Int)) false) = l
  rw [hr, hp]
  unfold setS
  rw [List.set_set, ← hl, List.set_getElem_self]
theorem most_nat {l : List Int} {n : Nat} (h : n ≤ 8 * l.length) : mostS l (n : Int) = n := by unfold mostS; omega
section
variable {G I N no : Int} {bl sl : List Int}
theorem findB_free (h : HM bl sl) (f : Int) (hr : rightP G I N no bl sl = true) :
    (∃ j : Nat, findBP G I N no bl sl f = (j : Int) ∧ 1 + I / 4 ≤ (j : Int) ∧ (j : Int) < G ∧ bitS bl j = false ∧ 0 < (freeP G I N no bl sl).1) ∨ (findBP G I N no bl sl f < 0 ∧ (freeP G I N no bl sl).1 ≤ 0) := by
  have hs := (rightP_iff h).mp hr
  have hg := Geo.R_iff.mp (rightP_R hr)
  have hl := h.maps.1
  obtain ⟨gn, rfl⟩ : ∃ n : Nat, G = (n : Int) := ⟨G.toNat, by omega⟩
  have hm : mostS bl (gn : Int) = gn := most_nat (by omega)
  have hc := cnt_le (bitS bl) gn
  unfold findBP freeP
  rw [if_pos hr, if_pos hr, hm]
  simp only [cntZ, hm]
  rw [wr (by omega) (by omega)]
  rcases first_spec (bitS bl) gn (fromS (gn : Int) f) with ⟨j, h1, h2, h3⟩ | ⟨h1, h2⟩
  · have := cnt_less _ _ _ h2 h3
    refine .inl ⟨j, h1, ?_, by omega, h3, by omega⟩
    by_cases hj : (j : Int) < 1 + I / 4
    · have := (hs.2.1 j (by omega)).1 hj
      rw [h3] at this; cases this
    · omega
  · have := cnt_full _ _ h2
    exact .inr ⟨by rw [h1]; decide, by omega⟩
theorem findS_free (h : HM bl sl) (f : Int) (hr : rightP G I N no bl sl = true) :
    (∃ j : Nat, findSP G I N no bl sl f = (j : Int) ∧ (no = 0 → 2 ≤ (j : Int)) ∧ (j : Int) < I ∧ bitS sl j = false ∧ 0 < (freeP G I N no bl sl).2) ∨ (findSP G I N no bl sl f < 0 ∧ (freeP G I N no bl sl).2 ≤ 0) := by
  have hs := (rightP_iff h).mp hr
  have hg := Geo.R_iff.mp (rightP_R hr)
  have hl := h.maps.2
  obtain ⟨gn, rfl⟩ : ∃ n : Nat, I = (n : Int) := ⟨I.toNat, by omega⟩
  have hm : mostS sl (gn : Int) = gn := most_nat (by omega)
  have hc := cnt_le (bitS sl) gn
  unfold findSP freeP
  rw [if_pos hr, if_pos hr, hm]
  simp only [cntZ, hm]
  rw [wr (x := (gn : Int) - _) (by omega) (by omega)]
  rcases first_spec (bitS sl) gn (fromS (gn : Int) f) with ⟨j, h1, h2, h3⟩ | ⟨h1, h2⟩
  · have := cnt_less _ _ _ h2 h3
    refine .inl ⟨j, h1, fun h0 => ?_, by omega, h3, by omega⟩
    by_cases hj : j < 2
    · have := (hs.2.2 j (by omega)).2 h0 hj
      rw [h3] at this; cases this
    · omega
  · have := cnt_full _ _ h2
    exact .inr ⟨by rw [h1]; decide, by omega⟩
theorem useB_right (h : HM bl sl) (j : Nat) (hr : rightP G I N no bl sl = true) (h1 : 1 + I / 4 ≤ (j : Int)) (h2 : (j : Int) < G) (hb : bitS bl j = false) :
    HM (setS bl j true) sl ∧ rightP G I N no (setS bl j true) sl = true ∧ useBP G I N no bl sl j true = (no, setS bl j true, sl, 0) ∧ (freeP G I N no (setS bl j true) sl).1 = (freeP G I N no bl sl).1 - 1 ∧ useBP G I N no (setS bl j true) sl j false = (no, bl, sl, 0) := by
  have hs := (rightP_iff h).mp hr
  have hg := Geo.R_iff.mp (rightP_R hr)
  have hl := h.maps.1
  have hj : j < 8 * bl.length := by omega
  have hm : HM (setS bl j true) sl := ⟨⟨by rw [setS_length]; exact hl, h.maps.2⟩, setS_bytes _ h.bytes _ _ hj, h.bytes2⟩
  have hbit := fun i => setS_bit bl h.bytes j i true hj
  have hr' : rightP G I N no (setS bl j true) sl = true := by
    refine (rightP_iff hm).mpr ⟨hs.1, fun i hi => ?_, hs.2.2⟩
    rw [hbit i]
    refine ⟨fun q => ?_, fun q => ?_⟩
    · split
      · rfl
      · exact (hs.2.1 i hi).1 q
    · rw [if_neg (by omega)]
      exact (hs.2.1 i hi).2 q
  obtain ⟨gn, rfl⟩ : ∃ n : Nat, G = (n : Int) := ⟨G.toNat, by omega⟩
  have may : ∀ r, r = true → mayP r (j : Int) (wrap64 (1 + Geo.tablesS (gn : Int) I N)) (gn : Int) = 0 := fun r e => by
    unfold mayP
    rw [Geo.tablesS, if_pos (rightP_R hr), wr (by omega) (by omega), if_pos e, if_neg (by omega), if_neg (by omega)]
  refine ⟨hm, hr', ?_, ?_, ?_⟩
  · unfold useBP
    rw [if_pos (may _ hr), Bits.bitZ_nat, hb, if_neg (by decide), Int.toNat_natCast]
  · have m1 : mostS bl (gn : Int) = gn := most_nat (by omega)
    have m2 : mostS (setS bl j true) (gn : Int) = gn := most_nat (by rw [setS_length]; omega)
    have hc := cnt_le (bitS bl) gn
    have hc' := cnt_on (bitS bl) (bitS (setS bl j true)) j hb hbit gn
    rw [if_pos (by omega)] at hc'
    have hc2 := cnt_le (bitS (setS bl j true)) gn
    unfold freeP
    rw [if_pos hr, if_pos hr']
    simp only [cntZ, m1, m2]
    rw [wr (by omega) (by omega), wr (by omega) (by omega)]
    omega
  · unfold useBP
    rw [if_pos (may _ hr'), Bits.bitZ_nat, hbit j, if_pos rfl, if_neg (by decide), Int.toNat_natCast, set_back bl h.bytes j hj hb]
theorem useS_right (h : HM bl sl) (j : Nat) (hr : rightP G I N no bl sl = true) (h1 : no = 0 → 2 ≤ (j : Int)) (h2 : (j : Int) < I) (hb : bitS sl j = false) :
    HM bl (setS sl j true) ∧ rightP G I N no bl (setS sl j true) = true ∧ useSP G I N no bl sl j true = (no, bl, setS sl j true, 0) ∧ (freeP G I N no bl (setS sl j true)).2 = (freeP G I N no bl sl).2 - 1 ∧ useSP G I N no bl (setS sl j true) j false = (no, bl, sl, 0) := by
  have hs := (rightP_iff h).mp hr
  have hg := Geo.R_iff.mp (rightP_R hr)
  have hl := h.maps.2
  have hj : j < 8 * sl.length := by omega
  have hm : HM bl (setS sl j true) := ⟨⟨h.maps.1, by rw [setS_length]; exact hl⟩, h.bytes, setS_bytes _ h.bytes2 _ _ hj⟩
  have hbit := fun i => setS_bit sl h.bytes2 j i true hj
  have hr' : rightP G I N no bl (setS sl j true) = true := by
    refine (rightP_iff hm).mpr ⟨hs.1, hs.2.1, fun i hi => ?_⟩
    rw [hbit i]
    refine ⟨fun q => ?_, fun q q2 => ?_⟩
    · rw [if_neg (by omega)]
      exact (hs.2.2 i hi).1 q
    · split
      · rfl
      · exact (hs.2.2 i hi).2 q q2
  obtain ⟨gn, rfl⟩ : ∃ n : Nat, I = (n : Int) := ⟨I.toNat, by omega⟩
  have may : ∀ r, r = true → mayP r (j : Int) (if no = 0 then 2 else 0) (gn : Int) = 0 := fun r e => by
    unfold mayP
    rw [if_pos e, if_neg (by split <;> omega), if_neg (by omega)]
  refine ⟨hm, hr', ?_, ?_, ?_⟩
  · unfold useSP
    rw [if_pos (may _ hr), Bits.bitZ_nat, hb, if_neg (by decide), Int.toNat_natCast]
  · have m1 : mostS sl (gn : Int) = gn := most_nat (by omega)
    have m2 : mostS (setS sl j true) (gn : Int) = gn := most_nat (by rw [setS_length]; omega)
    have hc := cnt_le (bitS sl) gn
    have hc' := cnt_on (bitS sl) (bitS (setS sl j true)) j hb hbit gn
    rw [if_pos (by omega)] at hc'
    have hc2 := cnt_le (bitS (setS sl j true)) gn
    unfold freeP
    rw [if_pos hr, if_pos hr']
    simp only [cntZ, m1, m2]
    rw [wr (x := (gn : Int) - ((cnt (bitS (setS sl j true)) gn : Nat) : Int)) (by omega) (by omega), wr (x := (gn : Int) - ((cnt (bitS sl) gn : Nat) : Int)) (by omega) (by omega)]
    omega
  · unfold useSP
    rw [if_pos (may _ hr'), Bits.bitZ_nat, hbit j, if_pos rfl, if_neg (by decide), Int.toNat_natCast, set_back sl h.bytes2 j hj hb]
/-- With what is used a header stays right. -/
theorem useB_keeps (h : HM bl sl) (hr : rightP G I N no bl sl = true) (i : Int) (he : (useBP G I N no bl sl i true).2.2.2 = 0) : ∃ bl', useBP G I N no bl sl i true = (no, bl', sl, 0) ∧ HM bl' sl ∧ rightP G I N no bl' sl = true := by
  have hg := Geo.R_iff.mp (rightP_R hr)
  by_cases hz : mayP (rightP G I N no bl sl) i (wrap64 (1 + Geo.tablesS G I N)) G = 0
  · obtain ⟨_, h2, h3⟩ := mayP_zero hz
    rw [Geo.tablesS, if_pos (rightP_R hr), wr (by omega) (by omega)] at h2
    obtain ⟨j, rfl⟩ : ∃ j : Nat, i = (j : Int) := ⟨i.toNat, by omega⟩
    cases hb : bitS bl j
    · obtain ⟨k1, k2, k3, _, _⟩ := useB_right h j hr h2 h3 hb
      exact ⟨_, k3, k1, k2⟩
    · unfold useBP at he
      rw [if_pos hz, Bits.bitZ_nat, hb, if_pos rfl] at he
      exact absurd he (by decide)
  · unfold useBP at he
    rw [if_neg hz] at he
    exact absurd he hz
theorem useS_keeps (h : HM bl sl) (hr : rightP G I N no bl sl = true) (i : Int) (he : (useSP G I N no bl sl i true).2.2.2 = 0) : ∃ sl', useSP G I N no bl sl i true = (no, bl, sl', 0) ∧ HM bl sl' ∧ rightP G I N no bl sl' = true := by
  by_cases hz : mayP (rightP G I N no bl sl) i (if no = 0 then 2 else 0) I = 0
  · obtain ⟨_, h2, h3⟩ := mayP_zero hz
    obtain ⟨j, rfl⟩ : ∃ j : Nat, i = (j : Int) := ⟨i.toNat, by split at h2 <;> omega⟩
    cases hb : bitS sl j
    · obtain ⟨k1, k2, k3, _, _⟩ := useS_right h j hr (fun e => by rw [if_pos e] at h2; exact h2) h3 hb
      exact ⟨_, k3, k1, k2⟩
    · unfold useSP at he
      rw [if_pos hz, Bits.bitZ_nat, hb, if_pos rfl] at he
      exact absurd he (by decide)
  · unfold useSP at he
    rw [if_neg hz] at he
    exact absurd he hz
end
end Go.Proofs.Ytonkgfgciegknaa.P
